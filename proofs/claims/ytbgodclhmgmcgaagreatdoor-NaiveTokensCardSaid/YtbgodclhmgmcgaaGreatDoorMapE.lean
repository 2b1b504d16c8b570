import Derived.Test.YtbgodclhmgmcgaaGreatDoorStr
import Derived.Maps.RangeRun
import Derived.MapKept
namespace Go.Proofs.YtbgodclhmgmcgaaGreatDoor
open Go Go.RowKit
theorem getObj_at {P:Program} {w:World} {r clock:Nat} {E:Array MapEntry} (h:w.heap[r]? =some (.map E clock)):(getObj r).run P w=.ok (.map E clock) w:=by simp [getObj,Sem.run,h]
theorem setObj_at {P:Program} {w:World} {r clock:Nat} {E:Array MapEntry} (o' : Obj)(h:w.heap[r]? =some (.map E clock)):(setObj r o').run P w=.ok () { w with heap:=w.heap.setIfInBounds r o' }:=by simp [setObj,Sem.run,h]
theorem modify_list {α:Type} {E:Array α} {i:Nat} {e : α} {f : α→α} (h:E.toList[i]? =some e):(E.modify i f).toList=E.toList.set i (f e):=by
 apply List.ext_getElem?
 intro q
 rw [List.getElem?_set]
 have hlt:=(List.getElem?_eq_some_iff.1 h).1
 by_cases hq:i=q
 ·subst hq
  rw [if_pos rfl,if_pos hlt]
  have h2:E[i]? =some e:=by simpa using h
  simp [Array.getElem?_modify,h2]
 ·rw [if_neg hq]
  simp [Array.getElem?_modify,hq]
structure KeyL (P:Program) (k:TypeId) (κ:Type) where
 enc : κ→Value
 ok : κ→Prop
 check : ∀ {x},ok x→∀ b w,(Instr.checkKey b 10000 k (enc x)).run P w=.ok () w
 find : ∀ {x},ok x→∀ (es:List MapEntry) (ks:List κ),es.map (·.key)=ks.map enc→(∀ y∈ks,ok y)→∀ w,∃ r,(Instr.findKey k (enc x) es).run P w=.ok r w∧((r=none∧x ∉ ks)∨∃ (i:Nat) (e:MapEntry),r=some (i,e.val)∧es[i]? =some e∧ks[i]? =some x)
 stays : ∀ {x},ok x→∀ w,(Instr.keyThatStays (enc x) (enc x)).run P w=.ok (enc x) w
theorem findNow_spec {κ:Type} [DecidableEq κ] {d:TypeDesc} {enc : κ→Value} (hs : ∀ x y,Instr.sameNow d (enc x) (enc y)=some (decide (x=y)))(x : κ) : ∀ (es:List MapEntry)(ks:List κ)(i:Nat),es.map (·.key)=ks.map enc→
   ∃ r,Instr.findNow d (enc x) es i=some r∧((r=none∧x ∉ ks)∨∃ (j:Nat) (e:MapEntry),r=some (i+j,e.val)∧es[j]? =some e∧ks[j]? =some x)
 | [],[],i,_=>⟨none,rfl,.inl ⟨rfl,by simp⟩⟩
 | [],_ :: _,_,h=>by cases h
 | _ :: _,[],_,h=>by cases h
 | e :: es,y :: ks,i,h=>by
   simp only [List.map_cons,List.cons.injEq] at h
   obtain ⟨h1,h2⟩:=h
   unfold Instr.findNow
   rw [h1,hs]
   by_cases hxy:x=y
   ·subst hxy
    simp only [decide_true]
    exact ⟨_,rfl,.inr ⟨0,e,rfl,rfl,rfl⟩⟩
   ·obtain ⟨r,h3,h4⟩:=findNow_spec hs x es ks (i+1) h2
    simp only [hxy,decide_false]
    refine ⟨r,h3,?_⟩
    rcases h4 with ⟨rfl,h5⟩ | ⟨j,e',rfl,h6,h7⟩
    · exact .inl ⟨rfl,by simp [hxy,h5]⟩
    · exact .inr ⟨j+1,e',by rw [Nat.add_assoc,Nat.add_comm 1 j],h6,h7⟩
theorem check_one {P:Program} {k:TypeId} {v:Value} {t:TypeDesc} (hk:P.underlying k=some t)(h:match t,v with | .interface _,_=>False | .array _ _,_=>False | .struct _,_=>False | _,_=>True)(b:Bool)(n:Nat)(w:World):(Instr.checkKey b (n+1) k v).run P w=.ok () w:=by
 unfold Instr.checkKey
 simp only [Sem.run_bind,run_underlying hk,Result.andThen]
 cases t <;> first | rfl | exact h.elim | (cases v <;> first | rfl | exact h.elim)
theorem bits_int (n:Nat)(k:IntKind)(x:Int):Instr.sameBits n (.int k x) (.int k x)=true:=by unfold Instr.sameBits;simp
theorem stays_of {P:Program} {v:Value} (h:Instr.sameBits 10000 v v=true)(w:World):(Instr.keyThatStays v v).run P w=.ok v w:=by
 unfold Instr.keyThatStays;rw [if_pos h];rfl
def Q9R {P:Program} {k:TypeId} {q:IntKind} (hk:P.underlying k=some (.int q)):KeyL P k Int where
 enc x:=.int q x
 ok _:=True
 check:=fun _ b w=>check_one hk trivial b 9999 w
 find:=fun {x} _ es ks h _ w=>by
  obtain ⟨r,h1,h2⟩:=findNow_spec (d:=.int q) (enc:=fun x=>Value.int q x) (fun x y=>by simp [Instr.sameNow];rfl) x es ks 0 h
  refine ⟨r,?_,?_⟩
  · simp [Instr.findKey,run_underlying hk,h1]
  · simpa using h2
 stays:=fun _ w=>stays_of (bits_int _ _ _) w
section
variable {κ α:Type} [DecidableEq κ]
def Qcs (x : κ):List (κ×α)→Option α
 | []=>none
 | y :: l=>if y.1=x then some y.2 else Qcs x l
def mput (x : κ)(a : α):List (κ×α)→List (κ×α)
 | []=>[(x,a)]
 | y :: l=>if y.1=x then (x,a) :: l else y :: mput x a l
theorem mlook_at {x : κ} {a : α} : ∀ {l:List (κ×α)} {i:Nat},(l.map (·.1)).Nodup→l[i]? =some (x,a)→Qcs x l=some a
 | [],i,_,h=>by simp at h
 | y :: l,0,_,h=>by
   simp only [List.getElem?_cons_zero,Option.some.injEq] at h
   subst h;simp [Qcs]
 | y :: l,i + 1,hn,h=>by
   simp only [List.getElem?_cons_succ] at h
   simp only [List.map_cons,List.nodup_cons] at hn
   have hne : ¬ y.1=x:=fun e=>hn.1 (List.mem_map.2 ⟨_,List.mem_of_getElem? h,e.symm⟩)
   unfold Qcs;rw [if_neg hne];exact mlook_at hn.2 h
theorem mlook_none {x : κ} : ∀ {l:List (κ×α)},x ∉ l.map (·.1)→Qcs x l=none
 | [],_=>rfl
 | y :: l,h=>by
   simp only [List.map_cons,List.mem_cons,not_or] at h
   unfold Qcs;rw [if_neg (fun e=>h.1 e.symm)];exact mlook_none h.2
theorem mput_new {x : κ} {a : α} : ∀ {l:List (κ×α)},x ∉ l.map (·.1)→mput x a l=l++[(x,a)]
 | [],_=>rfl
 | y :: l,h=>by
   simp only [List.map_cons,List.mem_cons,not_or] at h
   unfold mput;rw [if_neg (fun e=>h.1 e.symm),mput_new h.2];rfl
theorem mput_at {x : κ} {a b : α} : ∀ {l:List (κ×α)} {i:Nat},(l.map (·.1)).Nodup→l[i]? =some (x,b)→mput x a l=l.set i (x,a)
 | [],i,_,h=>by simp at h
 | y :: l,0,_,h=>by
   simp only [List.getElem?_cons_zero,Option.some.injEq] at h
   subst h;simp [mput]
 | y :: l,i + 1,hn,h=>by
   simp only [List.getElem?_cons_succ] at h
   simp only [List.map_cons,List.nodup_cons] at hn
   have hne : ¬ y.1=x:=fun e=>hn.1 (List.mem_map.2 ⟨_,List.mem_of_getElem? h,e.symm⟩)
   unfold mput;rw [if_neg hne,mput_at hn.2 h];rfl
end
def MapE {κ α:Type} {P:Program} {k:TypeId} (K:KeyL P k κ)(ag:Bool)(R:Rep α)(N F:Q1O)(b:Nat)(es:List (κ×α))(w:World):Prop :=
 N b ∧ ∃ (E:Array MapEntry) (clock:Nat),w.heap[b]? = some (.map E clock) ∧ E.toList.map (·.key) = es.map (fun x=>K.enc x.1) ∧
   (∀ (i:Nat) (e:MapEntry) (x : κ×α),E.toList[i]? =some e→es[i]? =some x→∃ cs,Q8V ag cs=some e.val∧R.p F w cs x.2)∧
   (es.map (·.1)).Nodup∧(∀ x∈es,K.ok x.1)∧(E.toList.map (·.born)).Nodup∧∀ e∈E.toList,e.born < clock
theorem MapE.good {κ α:Type} {P:Program} {k:TypeId} {K:KeyL P k κ} {ag:Bool} {R:Rep α} {b:Nat} {es:List (κ×α)} {N N' F G:Q1O} {w w' : World} (hN : ∀ k,N k→N' k)(ha:Q2W N w w')(hF : ∀ k,F k→G k)(hb:Q2W F w w')(h:MapE K ag R N F b es w):MapE K ag R N' G b es w':=by
 obtain ⟨h1,E,clock,h2,h3,h4,h5⟩:=h
 refine ⟨hN _ h1,E,clock,(ha b h1).trans h2,h3,fun i e x hi hx=>?_,h5⟩
 obtain ⟨cs,q1,q2⟩:=h4 i e x hi hx
 exact ⟨cs,q1,R.good hF hb q2⟩
def mapE {κ α:Type} {P:Program} {k:TypeId} (K:KeyL P k κ)(ag:Bool)(R:Rep α)(b:Nat)(es:List (κ×α)):Fact:=.duo (fun N F w=>MapE K ag R N F b es w) MapE.good
def Q9A:Rep Value where
 p _ _ cs x:=cs=[x]∧x.oneCell' =true
 good:=fun _ _ h=>h
 one:=fun h u hu=>by
  rw [h.1] at hu
  simp at hu;subst hu;exact h.2
theorem Q4i:Q8B Q9A (fun x (_:Unit)=>[x]) (fun _ _=>True) (fun _ _=>[]):=fun _ _ _ _ h=>⟨(),h.1,trivial,fun _ hφ=>by cases hφ⟩
section rules
variable {P:Program} {C:Ctx} {n:FD} {Q:Exit → Act → World → Prop} {Φ Φ' : List Fact} {H H' : List Fact} {S S' : List (Nat × Value)} {ops:Array Oper} {rest:List Oper} {o:Oper} {d:Nat}
variable {κ α:Type} [DecidableEq κ] {k:TypeId} {K:KeyL P k κ} {ag:Bool} {R:Rep α} {b:Nat} {es:List (κ × α)}
omit [DecidableEq κ] in
theorem QC.allocMapE {w:World} (h:QC C Φ H w)(K:KeyL P k κ)(ag:Bool)(R:Rep α):QC C Φ (mapE K ag R w.heap.size [] :: H) (w.alloc (.map #[] 0)):=by
 obtain ⟨F,N,hi⟩:=h
 have hb:Below w.heap.size w (w.alloc (.map #[] 0)):=(Below.refl _ _).alloc (Nat.le_refl _) _
 refine ⟨F,consN (fun k=>k=w.heap.size) N,(hi.grow hb).push _ _ ⟨rfl,#[],0,heap_alloc_new w _,rfl,fun i e x hi=>by simp at hi,by simp,by simp,by simp,by simp⟩ ?_ ?_⟩
 ·rintro k rfl
  exact ⟨by simp,.inl hi.mod.size,fun hf=>Nat.lt_irrefl _ (hi.flt _ hf)⟩
 ·rintro i k hl rfl hn
  exact Nat.lt_irrefl _ (hi.nlt i _ hl hn).1
omit [DecidableEq κ] in
theorem wl_makeMapE {t:Nat} (K:KeyL P k κ)(ag:Bool)(R:Rep α)(hg:Q18 ops S o=some true)(hd:o.dst=some d)(hn:Nat.blt d n=true)(hS:Q4p d S=S')(ho:o.op=.makeMap t none)
  (next : ∀ g,WL P C n Q Φ (mapE K ag R g [] :: H) ((d,.map (some g)) :: S') ops rest):WL P C n Q Φ H S ops (o :: rest) :=
 Qaq hg hd hn hS fun a w hf hw=>⟨_,_,(by simp [execOp,ho,run_makeMap]),_,_,hw.allocMapE K ag R,next _⟩
theorem MapE.find {N F:Q1O} {w:World} (h:MapE K ag R N F b es w) {x : κ} (hx:K.ok x) : ∃ (E:Array MapEntry)(clock:Nat),w.heap[b]? =some (.map E clock)∧(Instr.checkKey E.isEmpty 10000 k (K.enc x)).run P w=.ok () w∧
  (((Instr.findKey k (K.enc x) E.toList).run P w = .ok none w ∧ Qcs x es = none ∧ x ∉ es.map (·.1)) ∨
    ∃ (i:Nat) (e:MapEntry) (a : α) (cs:List Value),(Instr.findKey k (K.enc x) E.toList).run P w=.ok (some (i,e.val)) w∧E.toList[i]? =some e∧es[i]? =some (x,a)∧Qcs x es=some a∧Q8V ag cs=some e.val∧R.p F w cs a):=by
 obtain ⟨_,E,clock,h2,h3,h4,h5,h6,_⟩:=h
 refine ⟨E,clock,h2,K.check hx _ _,?_⟩
 have h3' : E.toList.map (·.key)=(es.map (·.1)).map K.enc:=by rw [h3,List.map_map];rfl
 obtain ⟨r,q1,q2⟩:=K.find hx E.toList (es.map (·.1)) h3' (fun y hy=>by obtain ⟨z,hz,rfl⟩:=List.mem_map.1 hy;exact h6 z hz) w
 rcases q2 with ⟨rfl,q2⟩ | ⟨i,e,rfl,q2,q3⟩
 · exact .inl ⟨q1,mlook_none q2,q2⟩
 ·right
  rw [List.getElem?_map] at q3
  cases hes:es[i]? with
  | none=>rw [hes] at q3;cases q3
  | some y =>
    rw [hes] at q3
    simp only [Option.map_some,Option.some.injEq] at q3
    obtain ⟨y1,y2⟩:=y
    simp only at q3
    subst q3
    obtain ⟨cs,p1,p2⟩:=h4 i e _ q2 hes
    exact ⟨i,e,y2,cs,q1,q2,hes,mlook_at h5 hes,p1,p2⟩
theorem MapE.lookNo {N F:Q1O} {w:World} {t e:TypeId} {z:Value} (c:Bool)(h:MapE K ag R N F b es w) {x : κ} (hx:K.ok x)(ht:P.underlying t=some (.map k e))(hz:Q4P P e=some z)(hm:Qcs x es=none) :
  (Instr.lookup t (.map (some b)) (K.enc x) c).run P w=.ok (if c then .tuple #[z,.bool false] else z) w:=by
 obtain ⟨E,clock,h1,h2,h3⟩:=h.find hx
 rcases h3 with ⟨h3,_,_⟩ | ⟨i,e',a,cs,_,_,_,h3,_⟩
 · simp only [Instr.lookup,Sem.run_bind,run_underlying ht,Result.andThen,getObj_at h1,Sem.run_pure,h2,h3,Q9E hz w]
 · rw [hm] at h3;cases h3
theorem MapE.lookYes {N F:Q1O} {w:World} {t e:TypeId} {a : α} (c:Bool)(h:MapE K ag R N F b es w) {x : κ} (hx:K.ok x)(ht:P.underlying t=some (.map k e))(hm:Qcs x es=some a) :
  ∃ v cs,(Instr.lookup t (.map (some b)) (K.enc x) c).run P w=.ok (if c then .tuple #[v,.bool true] else v) w∧Q8V ag cs=some v∧R.p F w cs a:=by
 obtain ⟨E,clock,h1,h2,h3⟩:=h.find hx
 rcases h3 with ⟨_,h3,_⟩ | ⟨i,e',a',cs,h3,_,_,h4,h5,h6⟩
 · rw [hm] at h3;cases h3
 ·rw [hm] at h4;cases h4
  refine ⟨e'.val,cs,?_,h5,h6⟩
  simp only [Instr.lookup,Sem.run_bind,run_underlying ht,Result.andThen,getObj_at h1,Sem.run_pure,h2,h3]
theorem wl_lookNoE {t e:Nat} {x y:Operand} {i : κ} {z v:Value} {c:Bool} (j:Nat)(hg:Q18 ops S o=some true)(hd:o.dst=some d)(hn:Nat.blt d n=true)(hS:Q4p d S=S')(ho:o.op=.lookup t x y c)
  (hφ:H[j]? =some (mapE K ag R b es)) (hx:evS S x=some (.map (some b))) (hy:evS S y=some (K.enc i)) (hz:Q4P P e=some z) (ht:P.underlying t=some (.map k e)) (hi:K.ok i) (hm:Qcs i es=none)
  (hv:(if c then .tuple #[z,.bool false] else z)=v) (next:WL P C n Q Φ H ((d,v) :: S') ops rest):WL P C n Q Φ H S ops (o :: rest):=by
 refine Qc5 hg hd hn hS (fun a w hf hw=>?_) next
 obtain ⟨F,N,hi'⟩:=hw
 have h0:MapE K ag R (N j) F b es w:=hi'.owns j _ hφ
 have:=h0.lookNo c hi ht hz hm
 rw [hv] at this
 simp [execOp,ho,hf.eval hx,hf.eval hy,this]
theorem Q5f {t e:Nat} {x y:Operand} {i : κ} {a : α} {Λ:Type} {cells : α→Λ→List Value} {pure : α→Λ→Prop} {facts : α→Λ→List Fact} {c:Bool} {v u : Λ→Value} (op:Q8B R cells pure facts)(j:Nat)(hg:Q18 ops S o=some true)(hd:o.dst=some d)(hn:Nat.blt d n=true)(hS:Q4p d S=S')(ho:o.op=.lookup t x y c)
  (hφ:H[j]? =some (mapE K ag R b es)) (hx:evS S x=some (.map (some b))) (hy:evS S y=some (K.enc i)) (ht:P.underlying t=some (.map k e)) (hi:K.ok i) (hm:Qcs i es=some a)
  (hu : ∀ r,Q8V ag (cells a r)=some (u r)) (hv : ∀ r,(if c then .tuple #[u r,.bool true] else u r)=v r) (next : ∀ r,pure a r→WL P C n Q (facts a r++Φ) H ((d,v r) :: S') ops rest):WL P C n Q Φ H S ops (o :: rest):=by
 refine Qaq hg hd hn hS fun ac w hf hw=>?_
 obtain ⟨F,N,hi'⟩:=hw
 have h0:MapE K ag R (N j) F b es w:=hi'.owns j _ hφ
 obtain ⟨v0,cs,h1,h2,h3⟩:=h0.lookYes c hi ht hm
 obtain ⟨r,q1,q2,q3⟩:=op F w cs a h3
 subst q1
 rw [hu r] at h2;cases h2
 rw [hv r] at h1
 refine ⟨v r,w,?_,facts a r++Φ,H,⟨F,N,{ hi' with facts:=fun φ hφ'=>?_ }⟩,next r q2⟩
 · simp [execOp,ho,hf.eval hx,hf.eval hy,h1]
 ·rcases List.mem_append.1 hφ' with hφ' | hφ'
  · exact q3 φ hφ'
  · exact hi'.facts φ hφ'
theorem World.set_mod {N:Q1O} {w:World} {b:Nat} {o o' : Obj} (hb:w.heap[b]? =some o)(hN:N b):Mod N w { w with heap:=w.heap.setIfInBounds b o' } :=
 ⟨rfl,rfl,rfl,by simp,fun q _ hn=>by
  have:b≠q:=fun e=>hn (e ▸ hN)
  simp [Array.getElem?_setIfInBounds,this]⟩
theorem MapE.put {N F:Q1O} {w:World} {t e:TypeId} {x : κ} {u : α} {cs:List Value} {v:Value} (h:MapE K ag R N F b es w)(hx:K.ok x)(ht:P.underlying t=some (.map k e))(hv:Q8V ag cs=some v) :
  ∃ w',(Instr.mapUpdate t (.map (some b)) (K.enc x) v).run P w=.ok () w' ∧Mod N w w' ∧(R.p F w' cs u→(∀ cs y,R.p F w cs y→R.p F w' cs y)→MapE K ag R N F b (mput x u es) w'):=by
 obtain ⟨hN,E,clock,h2,h3,h4,h5,h6,h7,h8⟩:=id h
 obtain ⟨E',clock',g1,g2,g3⟩:=h.find hx
 rw [h2] at g1;cases g1
 have hrun : ∀ r,(Instr.findKey k (K.enc x) E.toList).run P w=.ok r w→(Instr.mapUpdate t (.map (some b)) (K.enc x) v).run P w=((match r with
   | some (i,_)=>do
     let key ← Instr.keyThatStays (((E[i]?).map (·.key)).getD (K.enc x)) (K.enc x)
     setObj b (.map (E.modify i fun e=>{ e with key,val:=v }) clock)
   | none=>setObj b (.map (E.push { key:=K.enc x,val:=v,born:=clock }) (clock+1)):Sem Unit)).run P w:=fun r hr=>by
  unfold Instr.mapUpdate
  simp only [Sem.run_bind,run_underlying ht,Result.andThen,getObj_at h2,K.check hx,hr]
  rcases r with _ | ⟨_,_⟩ <;> rfl
 rcases g3 with ⟨q1,q2,q3⟩ | ⟨i,e',a,cs',q1,q2,q3,q4,q5,q6⟩
 ·refine ⟨_,(hrun _ q1).trans (setObj_at _ h2),World.set_mod h2 hN,fun hu hold=>?_⟩
  have hlt:=(Array.getElem?_eq_some_iff.1 h2).1
  refine ⟨hN,E.push { key:=K.enc x,val:=v,born:=clock },clock+1,by simp [Array.getElem?_setIfInBounds,hlt],?_⟩
  rw [mput_new q3]
  have hl:E.toList.length=es.length:=by simpa using congrArg List.length h3
  refine ⟨by simp [h3],fun q e y he hy=>?_,?_,fun y hy=>?_,?_,fun e he=>?_⟩
  ·simp only [Array.toList_push] at he
   rcases Nat.lt_or_ge q es.length with hq | hq
   · rw [List.getElem?_append_left (by omega)] at he
     rw [List.getElem?_append_left hq] at hy
     obtain ⟨cs0,p1,p2⟩:=h4 q e y he hy
     exact ⟨cs0,p1,hold _ _ p2⟩
   · rw [List.getElem?_append_right (by omega),hl] at he
     rw [List.getElem?_append_right hq] at hy
     have:q - es.length=0:=by
      have:=(List.getElem?_eq_some_iff.1 hy).1;simp at this;omega
     rw [this] at he hy
     simp at he hy
     subst he;subst hy
     exact ⟨cs,hv,hu⟩
  ·rw [List.map_append]
   refine List.nodup_append.2 ⟨h5,by simp,fun a ha b' hb' e=>?_⟩
   simp at hb';subst hb';subst e;exact q3 ha
  ·rcases List.mem_append.1 hy with hy | hy
   · exact h6 y hy
   · simp at hy;subst hy;exact hx
  ·simp only [Array.toList_push,List.map_append]
   refine List.nodup_append.2 ⟨h7,by simp,fun a ha b' hb' e=>?_⟩
   obtain ⟨e0,he0,rfl⟩:=List.mem_map.1 ha
   simp at hb'
   have:=h8 e0 he0
   omega
  ·simp only [Array.toList_push] at he
   rcases List.mem_append.1 he with he | he
   · have:=h8 e he;omega
   · simp at he;subst he;simp
 ·have hk:(((E[i]?).map (·.key)).getD (K.enc x))=K.enc x:=by
   have e1:(E.toList.map (·.key))[i]? =some e'.key:=by rw [List.getElem?_map,q2];rfl
   rw [h3,List.getElem?_map,q3] at e1
   simp only [Option.map_some,Option.some.injEq] at e1
   have e2:E[i]? =some e':=by simpa using q2
   rw [e2];exact e1.symm
  have hlt:=(Array.getElem?_eq_some_iff.1 h2).1
  refine ⟨_,(hrun _ q1).trans (by
   simp only [hk,Sem.run_bind,K.stays hx,Result.andThen]
   exact setObj_at _ h2),World.set_mod h2 hN,fun hu hold=>?_⟩
  refine ⟨hN,E.modify i fun e=>{ e with key:=K.enc x,val:=v },clock,by simp [Array.getElem?_setIfInBounds,hlt],?_⟩
  rw [modify_list q2,mput_at h5 q3]
  have hxs:(es.set i (x,u)).map (·.1)=es.map (·.1):=by rw [List.map_set];exact set_get (by simp [q3])
  refine ⟨?_,fun q e y he hy=>?_,by rw [hxs];exact h5,fun y hy=>?_,?_,fun e he=>?_⟩
  · rw [List.map_set,List.map_set,h3]
  ·rw [List.getElem?_set] at he hy
   by_cases hq:i=q
   · subst hq
     rw [if_pos rfl] at he hy
     rw [if_pos (List.getElem?_eq_some_iff.1 q2).1] at he
     rw [if_pos (List.getElem?_eq_some_iff.1 q3).1] at hy
     cases he;cases hy
     exact ⟨cs,hv,hu⟩
   · rw [if_neg hq] at he hy
     obtain ⟨cs0,p1,p2⟩:=h4 q e y he hy
     exact ⟨cs0,p1,hold _ _ p2⟩
  ·rcases List.mem_or_eq_of_mem_set hy with hy | rfl
   · exact h6 y hy
   · exact hx
  ·rw [List.map_set]
   have:(E.toList.map (·.born)).set i e'.born=E.toList.map (·.born):=set_get (by rw [List.getElem?_map,q2];rfl)
   rw [this];exact h7
  ·rcases List.mem_or_eq_of_mem_set he with he | rfl
   · exact h8 e he
   · exact h8 e' (List.mem_of_getElem? q2)
theorem Q6A {t e:Nat} {x y z:Operand} {i : κ} {u : α} {cs:List Value} {v:Value} (j:Nat)(hg:Q18 ops S o=some true)(hd:o.dst=none)(ho:o.op=.mapUpdate t x y z∨o.op=.insert t x y z)
  (hφ:H[j]? =some (mapE K ag R b es)) (hx:evS S x=some (.map (some b))) (hy:evS S y=some (K.enc i)) (hz:evS S z=some v) (ht:P.underlying t=some (.map k e)) (hi:K.ok i) (hv:Q8V ag cs=some v)
  (hr : ∀ F w,(∀ ψ∈Φ,ψ.p F w)→R.p F w cs u) (hH:H.set j (mapE K ag R b (mput i u es))=H') (next:WL P C n Q Φ H' S ops rest):WL P C n Q Φ H S ops (o :: rest):=by
 refine wl_do (Φ':=Φ) hg hd (fun a w hf hw=>?_) next
 obtain ⟨F,N,hi'⟩:=hw
 have hlt:=(List.getElem?_eq_some_iff.1 hφ).1
 have h0:MapE K ag R (N j) F b es w:=hi'.owns j _ hφ
 obtain ⟨w',r1,r2,r3⟩:=h0.put (u:=u) hi ht hv
 refine ⟨w',by rcases ho with ho | ho <;> simp [execOp,ho,hf.eval hx,hf.eval hy,hf.eval hz,r1],?_⟩
 subst hH
 have hag:Q2W F w w':=fun q hq=>r2.block q (hi'.flt q hq) (fun hn=>(hi'.nlt j q hlt hn).2.2 hq)
 refine ⟨F,N,hi'.set j hlt r2 _ (r3 (R.good (fun _ h=>h) hag (hr F w hi'.facts)) (fun _ _ h=>R.good (fun _ h=>h) hag h))⟩
end rules
end Go.Proofs.YtbgodclhmgmcgaaGreatDoor
