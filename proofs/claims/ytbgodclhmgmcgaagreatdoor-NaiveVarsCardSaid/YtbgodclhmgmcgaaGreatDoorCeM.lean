import Derived.Test.YtbgodclhmgmcgaaGreatDoorCeH
import Derived.Test.YtbgodclhmgmcgaaGreatDoorCeG
namespace Go.Proofs.YtbgodclhmgmcgaaGreatDoor
open Go.RowKit
noncomputable section
def tMap (P:Program) (t:Nat):Option (Nat × Nat × TypeDesc):=match P.underlying t with
 | some (.map k e)=>match P.underlying k with
   | some d=>some (k,e,d)
   | none=>none
 | _=>none
theorem Q7Q {P:Program} {t k e:Nat} {d:TypeDesc} (h:tMap P t = some (k,e,d)):P.underlying t = some (.map k e) ∧ P.underlying k = some d:=by
 unfold tMap at h
 split at h
 ·rename_i hu
  split at h
  · rename_i hk; cases h; exact ⟨hu,hk⟩
  · cases h
 · cases h
def Q6P:TypeDesc → Bool
 | .int _=>true
 | .string=>true
 | .bool=>true
 | _=>false
def hitC (P:Program) (kt:Nat) (d:TypeDesc) (k y:Value):Option Bool:=match Q6P d with
 | true=>Instr.sameNow d k y
 | false=>Q7h P (Op.equal kt k y)
def Q7Z (P:Program) (kt:Nat) (d:TypeDesc) (k:Value):List (SV × SV × Nat) → Nat → Option (Option (Nat × SV × Nat))
 | [],_=>some none
 | (kk,v,b) :: r,i=>match closeV kk with
   | some y=>match hitC P kt d k y with
     | some true=>some (some (i,v,b))
     | some false=>Q7Z P kt d k r (i + 1)
     | none=>none
   | none=>none
section
variable {P:Program} {ρ:Env} {E:List Value}
theorem sameNow_none {d:TypeDesc} (h:Q6P d = false) (a b:Value):Instr.sameNow d a b = none:=by
 unfold Instr.sameNow
 split <;> first | rfl | (simp [Q6P] at h)
def FoundD (ρ:Env) (E:List Value):Option (Nat × SV × Nat) → Option (Nat × Value) → Prop
 | none,none=>True
 | some (i,v,_),some (j,x)=>i = j ∧ v.den ρ E = some x
 | _,_=>False
theorem mpFind_now {kt:Nat} {d:TypeDesc} {k:Value} (hs:Q6P d = true) : ∀ {es:List (SV × SV × Nat)} {es' : List MapEntry} {i:Nat} {r:Option (Nat × SV × Nat)},Q37 ρ E es es' → Q7Z P kt d k es i = some r → ∃ r',FoundD ρ E r r' ∧ Instr.findNow d k es' i = some r'
 | [],[],i,r,_,h=>by cases h; exact ⟨none,trivial,rfl⟩
 | (kk,v,b) :: s,e :: es',i,r,hd,h=>by
   obtain ⟨h1,h2,h3,h4⟩:=hd
   unfold Q7Z at h
   split at h
   ·rename_i y hy
    rw [SV.close_den kk y hy] at h1
    cases h1
    simp only [hitC,hs] at h
    unfold Instr.findNow
    split at h
    ·rename_i hh
     cases h
     rw [hh]
     exact ⟨some (i,e.val),⟨rfl,h2⟩,rfl⟩
    ·rename_i hh
     rw [hh]
     exact mpFind_now hs h4 h
    · cases h
   · cases h
 | [],_ :: _,_,_,hd,_=>hd.elim
 | _ :: _,[],_,_,hd,_=>hd.elim
theorem mpFind_ask {kt:Nat} {d:TypeDesc} {k:Value} (hs:Q6P d = false) : ∀ {es:List (SV × SV × Nat)} {es' : List MapEntry} {i:Nat} {r:Option (Nat × SV × Nat)},Q37 ρ E es es' → Q7Z P kt d k es i = some r → ∃ r',FoundD ρ E r r' ∧ ∀ w,(Instr.findAsking kt k es' i).run P w = .ok r' w
 | [],[],i,r,_,h=>by cases h; exact ⟨none,trivial,fun w=>by simp [Instr.findAsking]⟩
 | (kk,v,b) :: s,e :: es',i,r,hd,h=>by
   obtain ⟨h1,h2,h3,h4⟩:=hd
   unfold Q7Z at h
   split at h
   ·rename_i y hy
    rw [SV.close_den kk y hy] at h1
    cases h1
    simp only [hitC,hs] at h
    split at h
    ·rename_i hh
     cases h
     refine ⟨some (i,e.val),⟨rfl,h2⟩,fun w=>?_⟩
     unfold Instr.findAsking
     simp [Q3r hh w]
    ·rename_i hh
     obtain ⟨r',h5,h6⟩:=mpFind_ask hs h4 h
     refine ⟨r',h5,fun w=>?_⟩
     unfold Instr.findAsking
     simp [Q3r hh w,h6 w]
    · cases h
   · cases h
 | [],_ :: _,_,_,hd,_=>hd.elim
 | _ :: _,[],_,_,hd,_=>hd.elim
theorem findNow_none {d:TypeDesc} (h:Q6P d = false) (k:Value) : ∀ (es:List MapEntry) (i:Nat),Instr.findNow d k es i = none ∨ es = []
 | [],_=>.inr rfl
 | e :: es,i=>.inl (by unfold Instr.findNow; rw [sameNow_none h])
theorem Q5K {kt:Nat} {d:TypeDesc} {k:Value} {es:List (SV × SV × Nat)} {es' : List MapEntry} {r:Option (Nat × SV × Nat)} (hk:P.underlying kt = some d) (hd:Q37 ρ E es es') (h:Q7Z P kt d k es 0 = some r) :
   ∃ r',FoundD ρ E r r' ∧ ∀ w,(Instr.findKey kt k es').run P w = .ok r' w:=by
 cases hs:Q6P d with
 | true =>
   obtain ⟨r',h1,h2⟩:=mpFind_now hs hd h
   exact ⟨r',h1,fun w=>by simp [Instr.findKey,run_underlying hk,h2]⟩
 | false =>
   obtain ⟨r',h1,h2⟩:=mpFind_ask hs hd h
   refine ⟨r',h1,fun w=>?_⟩
   rcases findNow_none hs k es' 0 with h3 | h3
   · simp [Instr.findKey,run_underlying hk,h3,h2 w]
   ·subst h3
    have h4:=h2 w
    have h5:Instr.findNow d k [] 0 = some none:=rfl
    simp [Instr.findAsking] at h4
    simp [Instr.findKey,run_underlying hk,h5,h4]
theorem Q37.len : ∀ {l:List (SV × SV × Nat)} {m:List MapEntry},Q37 ρ E l m → m.length = l.length
 | [],[],_=>rfl
 | (_,_,_) :: _,_ :: _,hd=>by simp [Q37.len hd.2.2.2]
 | [],_ :: _,hd=>hd.elim
 | _ :: _,[],hd=>hd.elim
end
def rm_lookup (P:Program) (fr:Tr) (hp:Q16) (t:Nat) (m:Operand) (i:Operand) (c:Bool):Option (SV × Option Nat):=match tMap P t,evC fr m,Q8R fr i with
 | some (k,e,d),some (.mp g),some key=>match hget hp g,Q4f P e with
   | some (.mp es _),some z=>match Q7h P (Instr.checkKey es.isEmpty 10000 k key),Q7Z P k d key es 0 with
     | some _,some (some (_,v,_))=>some (if c then .tup [v,.v (.bool true)] else v,some g)
     | some _,some none=>some (if c then .tup [SV.of z,.v (.bool false)] else SV.of z,some g)
     | _,_=>none
   | _,_=>none
 | _,_,_=>none
def rm_binOp (P:Program) (fr:Tr) (hp:Q16) (op:BinOp) (t:Nat) (x:Operand) (y:Operand):Option (SV × Option Nat):=match evC fr x,evC fr y,tMap P t with
 | some (.mp _),some (.v (.map none)),some _=>match op with
   | .eql=>some (.v (.bool false),none)
   | .neq=>some (.v (.bool true),none)
   | _=>none
 | _,_,_=>none
def rm_len (P:Program) (fr:Tr) (hp:Q16) (xs:Array Operand) (ts:Array Nat):Option (SV × Option Nat):=match xs.toList,ts.toList with
 | [x],[t]=>match evC fr x,tMap P t with
   | some (.mp g),some _=>match hget hp g with
     | some (.mp es _)=>some (.v (.int .i64 (.ofNat es.length)),some g)
     | _=>none
   | _,_=>none
 | _,_=>none
def readMC (P:Program) (fr:Tr) (hp:Q16):Op → Option (SV × Option Nat)
 | .lookup t m i c=>rm_lookup P fr hp t m i c
 | .binOp op t x y _=>rm_binOp P fr hp op t x y
 | .call { callee:=.builtin .len,args:=xs,argTypes:=ts }=>rm_len P fr hp xs ts
 | _=>none
section
variable {P:Program} {n:FD} {ρ:Env} {E:List Value} {fr:Tr} {hp:Q16} {S:List (Nat × Value)} {H:List Fact}
theorem mp_obj {g:Nat} {es:List (SV × SV × Nat)} {c:Nat} {φ:Fact} (h:(HO.mp es c).isFact ρ E g φ) : ∃ b c1 es',ρ g = some (b,c1,0) ∧ Q37 ρ E es es' ∧ ∀ N F w,φ.op N F w → w.heap[b]? = some (.map es'.toArray c):=by
 obtain ⟨b,c1,es',h1,h2,rfl⟩:=h
 exact ⟨b,c1,es',h1,h2,fun N F w hop=>hop.2⟩
theorem Q5p {b:Nat} {es:Array MapEntry} {c:Nat} {w:World} (h:w.heap[b]? = some (.map es c)):(getObj b).run P w = .ok (.map es c) w:=by
 simp [getObj,Sem.run,h]
theorem mapNil_run {t k e:Nat} {d:TypeDesc} (ht:tMap P t = some (k,e,d)) (x y:Operand) (b:Nat) (w:World) :
  (do eqGuard .eql t x y (.map (some b)) (.map none); binOp .eql t (.map (some b)) (.map none):Sem Value).run P w = .ok (.bool false) w ∧ (do eqGuard .neq t x y (.map (some b)) (.map none); binOp .neq t (.map (some b)) (.map none):Sem Value).run P w = .ok (.bool true) w:=by
 have hu:=(Q7Q ht).1
 have h1 : ∀ n,(Op.equalIn (n + 1) t (.map (some b)) (.map none)).run P w = .ok false w:=fun n=>by simp [Op.equalIn,run_underlying hu]
 constructor
 ·rw [Sem.run_bind,show (eqGuard .eql t x y (.map (some b)) (.map none)).run P w = .ok () w from rfl,Result.andThen_ok]
  simp [binOp,Op.equal,Op.maxDepth,h1 9999]
 ·rw [Sem.run_bind,show (eqGuard .neq t x y (.map (some b)) (.map none)).run P w = .ok () w from rfl,Result.andThen_ok]
  simp [binOp,Op.equal,Op.maxDepth,h1 9999]
theorem readMC_spec (h:Rel ρ E fr hp S H) {o:Oper} {v:SV} {d:Option Nat} (he:readMC P fr hp o.op = some (v,d)):ReadOk P n ρ E hp S H o v d:=by
 unfold readMC at he
 split at he
 ·
  rename_i t m i c ho
  unfold rm_lookup at he
  split at he
  ·rename_i k e dd g key ht hm hi
   split at he
   ·rename_i es clock z hg hz
    obtain ⟨hu,hk⟩:=Q7Q ht
    obtain ⟨q,φ,k1,k2,_,_⟩:=Q2m h.hp hg
    obtain ⟨b,c1,es',k3,k4,k5⟩:=mp_obj k2
    obtain ⟨y,h1,h2⟩:=Q1l h hm
    simp only [SV.den,k3,Option.map_some,Option.some.injEq] at h1
    subst h1
    have h3:=Q75 h hi
    have hemp:es'.isEmpty = es.isEmpty:=by
     have:=k4.len
     cases es <;> cases es' <;> simp_all
    split at he
    ·rename_i u v1 _ hck hfd
     cases he
     obtain ⟨r',f1,f2⟩:=Q5K hk k4 hfd
     obtain ⟨j,x⟩ | _:=r'
     · exact f1.elim
     · rename_i jx
       obtain ⟨j,x⟩:=jx
       obtain ⟨_,hx⟩:=f1
       refine ⟨if c then .tuple #[x,.bool true] else x,[φ],[q],?_,Q9p k1,(fun e=>by cases e),(fun g' e=>by cases e; exact ⟨_,φ,hg,k2,rfl⟩),fun a w hf hw=>?_⟩
       ·cases c
        · simpa using hx
        · simp [SV.den,SV.dens,hx]
       ·obtain ⟨N,F,hop⟩:=hw.2 φ (by simp)
        have hgo:=Q5p (P:=P) (k5 N F w hop)
        have hck':=Q3r hck w
        simp [execOp,ho,hf.eval h2,hf.eval h3,Instr.lookup,run_underlying hu,hgo,hemp,hck',f2 w]
    ·rename_i u hck hfd
     cases he
     obtain ⟨r',f1,f2⟩:=Q5K hk k4 hfd
     cases r' with
     | some x=>exact f1.elim
     | none =>
       refine ⟨if c then .tuple #[z,.bool false] else z,[φ],[q],?_,Q9p k1,(fun e=>by cases e),(fun g' e=>by cases e; exact ⟨_,φ,hg,k2,rfl⟩),fun a w hf hw=>?_⟩
       ·cases c
        · simpa using SV.of_den z
        · simp [SV.den,SV.dens,SV.of_den z]
       ·obtain ⟨N,F,hop⟩:=hw.2 φ (by simp)
        have hgo:=Q5p (P:=P) (k5 N F w hop)
        have hck':=Q3r hck w
        simp [execOp,ho,hf.eval h2,hf.eval h3,Instr.lookup,run_underlying hu,hgo,hemp,hck',f2 w,Q6Z hz]
    · cases he
   · cases he
  · cases he
 ·
  rename_i op t x y u ho
  unfold rm_binOp at he
  split at he
  ·rename_i g r hx hy ht
   obtain ⟨k,e,dd⟩:=r
   obtain ⟨y',h1,h2⟩:=Q1l h hx
   simp only [SV.den,Option.map_eq_some_iff] at h1
   obtain ⟨en,h3,rfl⟩:=h1
   split at he
   ·cases he
    exact Q48 rfl (Q6j ho h2 (Q41 h hy) fun w=>(mapNil_run ht _ _ _ w).1)
   ·cases he
    exact Q48 rfl (Q6j ho h2 (Q41 h hy) fun w=>(mapNil_run ht _ _ _ w).2)
   · cases he
  · cases he
 ·
  rename_i xs ts ho
  unfold rm_len at he
  split at he
  ·rename_i x t hxs hts
   have hxs' : xs = #[x]:=by cases xs; simp_all
   have hts' : ts = #[t]:=by cases ts; simp_all
   subst hxs'; subst hts'
   split at he
   ·rename_i g r hx ht
    obtain ⟨k,e,dd⟩:=r
    split at he
    ·rename_i es clock hg
     cases he
     obtain ⟨q,φ,k1,k2,_,_⟩:=Q2m h.hp hg
     obtain ⟨b,c1,es',k3,k4,k5⟩:=mp_obj k2
     obtain ⟨y,h1,h2⟩:=Q1l h hx
     simp only [SV.den,k3,Option.map_some,Option.some.injEq] at h1
     subst h1
     refine ⟨.int .i64 (es'.length:Int),[φ],[q],by simp [SV.den,k4.len],Q9p k1,(fun e=>by cases e),(fun g' e=>by cases e; exact ⟨_,φ,hg,k2,rfl⟩),fun a w hf hw=>?_⟩
     obtain ⟨N,F,hop⟩:=hw.2 φ (by simp)
     have hgo:=Q5p (P:=P) (k5 N F w hop)
     simp [execOp,ho,resolve,invoke,builtin,Builtin.len_,hf.eval h2,run_underlying (Q7Q ht).1,hgo,goInt]
    · cases he
   · cases he
  · cases he
 · cases he
end
end
end Go.Proofs.YtbgodclhmgmcgaaGreatDoor
