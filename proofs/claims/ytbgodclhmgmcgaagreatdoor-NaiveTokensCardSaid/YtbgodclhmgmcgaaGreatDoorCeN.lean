import Derived.Test.YtbgodclhmgmcgaaGreatDoorCeM
import Derived.Laws.BytesString
namespace Go.Proofs.YtbgodclhmgmcgaaGreatDoor
open Go.RowKit
noncomputable section
def entSet (i:Nat)(k:SV)(v:Option SV):List (SV×SV×Nat)→List (SV×SV×Nat)
 | []=>[]
 | (kk,vv,b) :: r=>match i with
   | 0=>(k,(match v with | some x=>x | none=>vv),b) :: r
   | i+1=>(kk,vv,b) :: entSet i k v r
def keyAt:List (SV×SV×Nat)→Nat→Option SV
 | [],_=>none
 | (kk,_,_) :: r,i=>match i with
   | 0=>some kk
   | i+1=>keyAt r i
def sameKey (es:List (SV×SV×Nat))(i:Nat)(key:Value):Bool:=match keyAt es i with
 | some kk=>match closeV kk with
   | some y=>Instr.sameBits 10000 y key
   | none=>false
 | none=>false
def bytesC:List SV→ByteArray→Option ByteArray
 | [],s=>some s
 | .v (.int .u8 n) :: r,s=>bytesC r (s.push (UInt8.ofNat n.toNat))
 | _ :: _,_=>none
def Qel (n:Nat):List (SV×SV×Nat)→Option Nat
 | []=>none
 | (_,_,b) :: r=>match Nat.beq b n with
   | true=>some 0
   | false=>match Qel n r with
     | some i=>some (i+1)
     | none=>none
def entAt:List (SV×SV×Nat)→Nat→Option (SV×SV)
 | [],_=>none
 | (k,v,b) :: r,n=>match Nat.beq b n with
   | true=>some (k,v)
   | false=>entAt r n
def hm_makeMap (P:Program)(fr:Tr)(hp:Q1a)(lo:Nat)  : Option (Option SV×Q1a×Nat):=some (some (.mp lo),(lo,.mp [] 0) :: hp,lo+1)
def hm_mapUpdate (P:Program)(fr:Tr)(hp:Q1a)(lo:Nat)(t:Nat)(m:Operand)(i:Operand)(x:Operand):Option (Option SV×Q1a×Nat):=match tMap P t,evC fr m,Qcq fr i with
 | some (k,_,d),some (.mp g),some key=>match hget hp g,evC fr x,evC fr i with
   | some (.mp es c),some v,some ks=>match Q9X P (Instr.checkKey false 10000 k key),QaP P k d key es 0 with
     | some _,some (some (j,_,_))=>match sameKey es j key with
       | true=>some (none,hset hp g (.mp (entSet j ks (some v) es) c),lo)
       | false=>none
     | some _,some none=>some (none,hset hp g (.mp (es++[(ks,v,c)]) (c+1)),lo)
     | _,_=>none
   | _,_,_=>none
 | _,_,_=>none
def hm_mapEntry (P:Program)(fr:Tr)(hp:Q1a)(lo:Nat)(t:Nat)(m:Operand)(i:Operand):Option (Option SV×Q1a×Nat):=match tMap P t,evC fr m,Qcq fr i with
 | some (k,e,d),some (.mp g),some key=>match hget hp g,Q4P P e,evC fr i with
   | some (.mp es c),some z,some ks=>match Q9X P (Instr.checkKey false 10000 k key),QaP P k d key es 0 with
     | some _,some (some (j,v,b))=>match sameKey es j key with
       | true=>some (some (.tup [v,.v (.int .i64 (.ofNat b))]),hset hp g (.mp (entSet j ks none es) c),lo)
       | false=>none
     | some _,some none=>some (some (.tup [SV.of z,.v (.int .i64 (.ofNat c))]),hset hp g (.mp (es++[(ks,SV.of z,c)]) (c+1)),lo)
     | _,_=>none
   | _,_,_=>none
 | _,_,_=>none
def Qes (P:Program)(fr:Tr)(hp:Q1a)(lo:Nat)(m:Operand)(s:Operand)(x:Operand):Option (Option SV×Q1a×Nat):=match evC fr m,evC fr s,evC fr x with
 | some (.mp g),some (.v (.int .i64 (.ofNat b))),some v=>match hget hp g with
   | some (.mp es c)=>match Qel b es with
     | some j=>match keyAt es j with
       | some ks=>some (none,hset hp g (.mp (entSet j ks (some v) es) c),lo)
       | none=>none
     | none=>none
   | _=>none
 | _,_,_=>none
def hm_delete (P:Program)(fr:Tr)(hp:Q1a)(lo:Nat)(xs:Array Operand)(ts:Array Nat):Option (Option SV×Q1a×Nat):=match xs.toList,ts.toList with
 | [m,i],[t,_]=>match tMap P t,evC fr m,Qcq fr i with
   | some (k,_,d),some (.mp g),some key=>match hget hp g with
     | some (.mp es c)=>match Q9X P (Instr.checkKey es.isEmpty 10000 k key),QaP P k d key es 0 with
       | some _,some (some (j,_,_))=>some (some (.v (.tuple #[])),hset hp g (.mp (es.eraseIdx j) c),lo)
       | some _,some none=>some (some (.v (.tuple #[])),hset hp g (.mp es c),lo)
       | _,_=>none
     | _=>none
   | _,_,_=>none
 | _,_=>none
def hm_range (P:Program)(fr:Tr)(hp:Q1a)(lo:Nat)(t:Nat)(x:Operand):Option (Option SV×Q1a×Nat):=match tMap P t,evC fr x with
 | some _,some (.v (.map none))=>some (some (.ptr lo 0),(lo,.it none 0 [] 0) :: hp,lo+1)
 | some _,some (.mp g)=>match hget hp g with
   | some (.mp _ c)=>some (some (.ptr lo 0),(lo,.it (some g) c [] c) :: hp,lo+1)
   | _=>none
 | _,_=>none
def hm_next (P:Program)(fr:Tr)(hp:Q1a)(lo:Nat)(x:Operand):Option (Option SV×Q1a×Nat):=match evC fr x with
 | some (.ptr r 0)=>match hget hp r with
   | some (.it none _ _ _)=>some (some (.tup [.v (.bool false)]),hp,lo)
   | some (.it (some g) since seen last)=>match hget hp g with
     | some (.mp es c)=>match !seen.isEmpty && !es.isEmpty && es.all (fun e=>decide (last ≤ e.2.2)) with
       | true=>none
       | false=>match es.filter (fun e=>!seen.contains e.2.2) with
         | []=>some (some (.tup [.v (.bool false)]),hp,lo)
         | [(k,v,b)]=>match Nat.blt b since with
           | true=>some (some (.tup [.v (.bool true),k,v]),hset hp r (.it (some g) since (seen++[b]) c),lo)
           | false=>none
         | _=>none
     | _=>none
   | _=>none
 | _=>none
def hm_entry (P:Program)(fr:Tr)(hp:Q1a)(lo:Nat)(x:Operand):Option (Option SV×Q1a×Nat):=match evC fr x with
 | some (.ptr r 0)=>match hget hp r with
   | some (.it (some g) _ seen stepped)=>match hget hp g,seen.getLast? with
     | some (.mp es c),some b=>match Nat.beq c stepped,entAt es b with
       | true,some (k,v)=>some (some (.tup [k,v]),hp,lo)
       | _,_=>none
     | _,_=>none
   | _=>none
 | _=>none
def hm_convert (P:Program)(fr:Tr)(hp:Q1a)(lo:Nat)(src:Nat)(dst:Nat)(x:Operand):Option (Option SV×Q1a×Nat):=match evC fr x with
 | some (.sl g off len cap own)=>match Q2d P src,Q2d P dst with
   | some _,some e=>match P.underlying e with
     | some (.int .u8)=>match Nat.beq src dst,hget hp g with
       | true,some (.blk cs _)=>some (some (.sl g off len cap own),hset hp g (.ro cs),lo)
       | true,some (.ro cs)=>some (some (.sl g off len cap own),hset hp g (.ro cs),lo)
       | _,_=>none
     | _=>none
   | some e,none=>match P.underlying e,P.underlying dst with
     | some (.int .u8),some .string=>match hread hp g off len with
       | some cs=>match bytesC cs ByteArray.empty with
         | some s=>some (some (.v (.string s)),hp,lo)
         | none=>none
       | none=>none
     | _,_=>none
   | _,_=>none
 | _=>none
def heavyMC (P:Program)(fr:Tr)(hp:Q1a)(lo:Nat):Op→Option (Option SV×Q1a×Nat)
 | .makeMap _ none=>hm_makeMap P fr hp lo 
 | .mapUpdate t m i x=>hm_mapUpdate P fr hp lo t m i x
 | .mapEntry t m i=>hm_mapEntry P fr hp lo t m i
 | .entryStore _ m s x=>Qes P fr hp lo m s x
 | .call { callee:=.builtin .delete,args:=xs,argTypes:=ts }=>hm_delete P fr hp lo xs ts
 | .range t x=>hm_range P fr hp lo t x
 | .next x false=>hm_next P fr hp lo x
 | .entry x=>hm_entry P fr hp lo x
 | .convert src dst x=>hm_convert P fr hp lo src dst x
 | _=>none
section
variable {P:Program} {C:Ctx} {n:FD} {ρ:Env} {E:List Value} {fr:Tr} {hp:Q1a} {S:List (Nat × Value)} {H:List Fact}
def Q5z (w:World)(b:Nat)(o:Obj):World:={ w with heap:=w.heap.setIfInBounds b o }
theorem QC.setObj {w:World} (hw:QC C [] H w) {k b:Nat} {o o' : Obj} (hk:H[k]? =some (objF b o)):QC C [] (H.set k (objF b o')) (Q5z w b o'):=by
 obtain ⟨F,N,hi⟩:=hw
 have hlt:=(List.getElem?_eq_some_iff.1 hk).1
 obtain ⟨hNb,hob⟩:=hi.owns k _ hk
 have hbl:=(Array.getElem?_eq_some_iff.1 hob).1
 have hM:Mod (N k) w (Q5z w b o'):=⟨rfl,rfl,rfl,by simp [Q5z],fun i hi hn=>by
  simp only [Q5z]
  rw [Array.getElem?_setIfInBounds_ne]
  rintro rfl;exact hn hNb⟩
 refine ⟨F,N,hi.set k hlt hM (objF b o') ⟨hNb,?_⟩⟩
 ·simp only [Q5z]
  rw [Array.getElem?_setIfInBounds_self];simp [hbl]
theorem Q9y {b:Nat} {es:Array MapEntry} {c:Nat} {o:Obj} {w:World} (h:w.heap[b]? =some (.map es c)):(setObj b o).run P w=.ok () (Q5z w b o):=by
 simp [setObj,Sem.run,h,Q5z]
theorem Qcr {k : SV} {key : Value} (hk : k.den ρ E=some key) {v : Option SV} {x : Option Value} (hv : match v,x with | some s,some y=> s.den ρ E=some y | none,none=> True | _,_=> False) : ∀ {es : List (SV×SV×Nat)} {es' : List MapEntry} {i : Nat},Q3Z ρ E es es' →Q3Z ρ E (entSet i k v es) (es'.modify i fun e=> { e with key :=key,val :=x.getD e.val })
 | [],[],i,_=>by simp [entSet,Q3Z]
 | (kk,vv,b) :: r,e :: s,0,hd=>by
   obtain ⟨h1,h2,h3,h4⟩:=hd
   cases v <;> cases x <;> first | exact hv.elim | skip
   · exact ⟨hk,h2,h3,h4⟩
   · exact ⟨hk,hv,h3,h4⟩
 | (kk,vv,b) :: r,e :: s,i + 1,hd=>by
   obtain ⟨h1,h2,h3,h4⟩:=hd
   exact ⟨h1,h2,h3,Qcr hk hv h4⟩
 | [],_ :: _,_,hd=>hd.elim
 | _ :: _,[],_,hd=>hd.elim
theorem keyAt_spec : ∀ {es:List (SV×SV×Nat)} {es' : List MapEntry} {i:Nat} {kk:SV},Q3Z ρ E es es' →keyAt es i=some kk→∃ e,es'[i]? =some e∧kk.den ρ E=some e.key
 | (kk,vv,b) :: r,e :: s,0,k,hd,h=>by cases h;exact ⟨e,rfl,hd.1⟩
 | (kk,vv,b) :: r,e :: s,i+1,k,hd,h=>by simpa using keyAt_spec hd.2.2.2 h
 | [],_,_,_,_,h=>by cases h
 | _ :: _,[],_,_,hd,_=>hd.elim
theorem Q3Z.push {k v:SV} {key x:Value} {b:Nat} (hk:k.den ρ E=some key)(hv:v.den ρ E=some x) : ∀ {es:List (SV×SV×Nat)} {es' : List MapEntry},Q3Z ρ E es es' →Q3Z ρ E (es++[(k,v,b)]) (es' ++[⟨key,x,b⟩])
 | [],[],_=>⟨hk,hv,rfl,trivial⟩
 | (_,_,_) :: _,_ :: _,hd=>⟨hd.1,hd.2.1,hd.2.2.1,Q3Z.push hk hv hd.2.2.2⟩
 | [],_ :: _,hd=>hd.elim
 | _ :: _,[],hd=>hd.elim
theorem Q3Z.erase : ∀ {es:List (SV×SV×Nat)} {es' : List MapEntry} (i:Nat),Q3Z ρ E es es' →Q3Z ρ E (es.eraseIdx i) (es'.eraseIdx i)
 | [],[],_,_=>trivial
 | (_,_,_) :: _,_ :: _,0,hd=>hd.2.2.2
 | (_,_,_) :: _,_ :: _,i+1,hd=>⟨hd.1,hd.2.1,hd.2.2.1,Q3Z.erase i hd.2.2.2⟩
 | [],_ :: _,_,hd=>hd.elim
 | _ :: _,[],_,hd=>hd.elim
theorem QdZ : ∀ {kt:Nat} {d:TypeDesc} {k:Value} {es:List (SV×SV×Nat)} {es' : List MapEntry} {i j b:Nat} {v:SV},Q3Z ρ E es es' →QaP P kt d k es i=some (some (j,v,b))→i≤j∧∃ e,es'[j - i]? =some e∧e.born=b
 | kt,d,k,(kk,vv,bb) :: r,e :: s,i,j,b,v,hd,h=>by
   obtain ⟨h1,h2,h3,h4⟩:=hd
   unfold QaP at h
   split at h
   ·split at h
    ·cases h
     exact ⟨Nat.le_refl _,e,by simp,h3.symm⟩
    ·obtain ⟨h5,e',h6,h7⟩:=QdZ h4 h
     refine ⟨by omega,e',?_,h7⟩
     rw [show j - i=(j - (i+1))+1 from by omega]
     simpa using h6
    · cases h
   · cases h
 | _,_,_,[],_,_,_,_,_,_,h=>by cases h
 | _,_,_,_ :: _,[],_,_,_,_,hd,_=>hd.elim
theorem QdU {b : Nat} : ∀ {es : List (SV×SV×Nat)} {es' : List MapEntry} {j : Nat},Q3Z ρ E es es' →Qel b es=some j→es'.findIdx? (fun e=> (e.born : Int)==(b : Int))=some j
 | (kk,vv,bb) :: r,e :: s,j,hd,h=>by
   obtain ⟨h1,h2,h3,h4⟩:=hd
   unfold Qel at h
   rw [List.findIdx?_cons]
   split at h
   ·rename_i hb
    cases h
    have:=Qw hb
    have e1:((e.born:Int)==(b:Int))=true:=by rw [← h3,this];simp
    rw [e1];rfl
   ·rename_i hb
    have:=Q3E hb
    have e1:((e.born:Int)==(b:Int))=false:=by rw [← h3];simp;omega
    rw [e1]
    split at h
    ·rename_i i hi
     cases h
     simp [QdU h4 hi]
    · cases h
 | [],_,_,_,h=>by cases h
 | _ :: _,[],_,hd,_=>hd.elim
theorem entAt_spec {b : Nat} : ∀ {es : List (SV×SV×Nat)} {es' : List MapEntry} {k v : SV},Q3Z ρ E es es' →entAt es b=some (k,v)→∃ e,es'.find? (fun e=> e.born==b)=some e∧k.den ρ E=some e.key∧v.den ρ E=some e.val
 | (kk,vv,bb) :: r,e :: s,k,v,hd,h=>by
   obtain ⟨h1,h2,h3,h4⟩:=hd
   unfold entAt at h
   split at h
   ·rename_i hb
    cases h
    have:=Qw hb
    exact ⟨e,by simp [List.find?_cons,← h3,this],h1,h2⟩
   ·rename_i hb
    have:=Q3E hb
    obtain ⟨e',h5,h6⟩:=entAt_spec h4 h
    refine ⟨e',?_,h6⟩
    rw [List.find?_cons]
    have e1:(e.born==b)=false:=by rw [← h3];simpa using this
    rw [e1];exact h5
 | [],_,_,_,_,h=>by cases h
 | _ :: _,[],_,_,hd,_=>hd.elim
theorem Q3Z.filter (f : Nat→Bool) : ∀ {es : List (SV×SV×Nat)} {es' : List MapEntry},Q3Z ρ E es es' →Q3Z ρ E (es.filter fun x=> f x.2.2) (es'.filter fun e=> f e.born)
 | [],[],_=>trivial
 | (k,v,b) :: r,e :: s,hd=>by
   obtain ⟨h1,h2,h3,h4⟩:=hd
   have:=Q3Z.filter f h4
   simp only [List.filter_cons,← h3]
   split
   · exact ⟨h1,h2,h3,this⟩
   · exact this
 | [],_ :: _,hd=>hd.elim
 | _ :: _,[],hd=>hd.elim
theorem Q3Z.all (f : Nat→Bool) : ∀ {es : List (SV×SV×Nat)} {es' : List MapEntry},Q3Z ρ E es es' →(es'.all fun e=> f e.born)=es.all fun x=> f x.2.2
 | [],[],_=>rfl
 | (k,v,b) :: r,e :: s,hd=>by
   obtain ⟨h1,h2,h3,h4⟩:=hd
   simp only [List.all_cons,← h3,Q3Z.all f h4]
 | [],_ :: _,hd=>hd.elim
 | _ :: _,[],hd=>hd.elim
theorem bytesC_spec : ∀ {cs : List SV} {vs : List Value} {s r : ByteArray},SV.dens ρ E cs=some vs→bytesC cs s=some r→∃ ns : List Int,vs=ns.map (Value.int .u8)∧ns.foldl (fun r n=> r.push (UInt8.ofNat n.toNat)) s=r
 | [],vs,s,r,hd,h=>by cases hd;cases h;exact ⟨[],rfl,rfl⟩
 | c :: l,vs,s,r,hd,h=>by
   obtain ⟨v,ws,rfl,h1,h2⟩:=Q5A hd
   unfold bytesC at h
   split at h
   · rename_i e;cases e
   ·rename_i n r' e
    cases e
    cases h1
    obtain ⟨ns,h3,h4⟩:=bytesC_spec h2 h
    exact ⟨n :: ns,by simp [h3],by simpa using h4⟩
   · cases h
theorem QC.allocObj {w:World} (hw:QC C [] H w)(o:Obj):QC C [] (objF w.heap.size o :: H) (w.alloc o):=by
 obtain ⟨F,N,hi⟩:=hw
 have hb:Below w.heap.size w (w.alloc o):=(Below.refl _ _).alloc (Nat.le_refl _) _
 refine ⟨F,consN (fun k=>k=w.heap.size) N,(hi.grow hb).push _ _ ⟨rfl,heap_alloc_new w o⟩ ?_ ?_⟩
 ·rintro k rfl
  exact ⟨by simp,.inl hi.mod.size,fun hf=>Nat.lt_irrefl _ (hi.flt _ hf)⟩
 ·rintro i k hl rfl hn
  exact Nat.lt_irrefl _ (hi.nlt i _ hl hn).1
theorem after_obj {lo hi:Nat} {ob:HO} {o:Obj} {w:World} (r:SV) {x:Value} (hf:Q9h ρ lo hi)(hlt:lo+1≤hi)(hd:Q4q ρ E hp H)(hw:QC C [] H w)(ho : ∀ ρ' : Env,ρ.le ρ' →ρ' lo=some (w.heap.size,0,0)→ob.isFact ρ' E lo (objF w.heap.size o))(hr : ∀ ρ' : Env,ρ' lo=some (w.heap.size,0,0)→r.den ρ' E=some x) :
  After C ρ E lo hi (some r) ((lo,ob) :: hp) (lo+1) (.value x) (w.alloc o):=by
 have hg:=hf lo (Nat.le_refl _) (by omega)
 have he:=Env.put_ext (e:=(w.heap.size,0,0)) hg (show lo < hi by omega)
 exact ⟨ρ.put lo (w.heap.size,0,0),objF w.heap.size o :: H,he,⟨ho _ he.le Env.put_same,hd.mono he.le⟩,Env.put_free hf,by omega,hw.allocObj o,x,rfl,hr _ Env.put_same⟩
theorem after_skip {lo hi:Nat} {w:World} {H' : List Fact} {hp' : Q1a} (hf:Q9h ρ lo hi)(hd:Q4q ρ E hp' H')(hw:QC C [] H' w):After C ρ E lo hi none hp' lo .skip w :=
 ⟨ρ,H',Ext.refl _ _ _,hd,hf,Nat.le_refl _,hw,rfl⟩
theorem sameKey_spec {es:List (SV×SV×Nat)} {es' : List MapEntry} {j:Nat} {key:Value} (hd:Q3Z ρ E es es')(h:sameKey es j key=true)(w:World):(Instr.keyThatStays (((es'.toArray[j]?).map (·.key)).getD key) key).run P w=.ok key w:=by
 unfold sameKey at h
 split at h
 ·rename_i kk hkk
  split at h
  ·rename_i y hy
   obtain ⟨e,h1,h2⟩:=keyAt_spec hd hkk
   rw [SV.close_den kk y hy] at h2
   cases h2
   simp [Instr.keyThatStays,h1,h]
  · cases h
 · cases h
theorem freeze_cell {w:World} {a x:Addr} {n:Nat}:(w.freeze a n).cell? x=w.cell? x:=by
 unfold World.freeze
 split
 · rfl
 ·unfold World.cell?
  simp only [Array.getElem?_modify]
  by_cases hb:a.block=x.block
  ·simp only [hb,if_true]
   cases hw:w.heap[x.block]? with
   | none=>rfl
   | some o=>cases o <;> rfl
  · simp [hb]
theorem stringish_run {b off:Nat} {w:World} : ∃ w',(markStringish ⟨b,off,none⟩).run P w=.ok () w' ∧Mod (fun k=>k=b) w w' ∧∀ x,w'.cell? x=w.cell? x:=by
 unfold markStringish
 cases hs:w.shape? b with
 | none=>exact ⟨w,by simp [shape,Sem.run,hs],Mod.refl _ _,fun _=>rfl⟩
 | some r =>
   refine ⟨w.freeze ⟨b,r.2,none⟩ 1,by simp [shape,freeze,Sem.run,hs],⟨?_,?_,?_,?_,fun k hk hn=>?_⟩,fun _=>freeze_cell⟩
   · simp [World.freeze]
   · simp [World.freeze]
   · simp [World.freeze]
   · simp [World.freeze]
   ·simp only [World.freeze]
    rw [if_neg (by decide)]
    simp only [Array.getElem?_modify]
    rw [if_neg (fun e=>hn e.symm)]
theorem QC.toRo {w w' : World} (hw:QC C [] H w) {k b:Nat} {φ:Fact} {vs:List Value} (hk:H[k]? =some φ)(hN : ∀ N F,φ.op N F w→N b∧Q3D w b 0 vs)(hm:Mod (fun k=>k=b) w w')(hc : ∀ x,w'.cell? x=w.cell? x):QC C [] (H.set k (cellsF b vs)) w':=by
 obtain ⟨F,N,hi⟩:=hw
 have hlt:=(List.getElem?_eq_some_iff.1 hk).1
 obtain ⟨hNb,hcs⟩:=hN _ _ (hi.owns k _ hk)
 exact ⟨F,N,hi.set k hlt (hm.mono fun i _ e=>by subst e;exact hNb) (cellsF b vs) ⟨hNb,fun j u hu=>(hc _).trans (hcs j u hu)⟩⟩
theorem heavyMC_spec (h:Rel ρ E fr hp S H) {lo hi lo' : Nat} {o:Oper} {r:Option SV} {hp' : Q1a} (hf:Q9h ρ lo hi) (he:heavyMC P fr hp lo o.op = some (r,hp',lo')) (hlo:lo' ≤ hi) :
  ∀ (a:Act) w,Frm n S a→QC C [] H w→∃ nx w',(execOp a.eval o).run P w=.ok nx w' ∧After C ρ E lo hi r hp' lo' nx w':=by
 intro a w hfr hw
 unfold heavyMC at he
 split at he
 ·
  rename_i t ho
  unfold hm_makeMap at he
  cases he
  refine ⟨.value (.map (some w.heap.size)),w.alloc (.map #[] 0),by simp [execOp,ho,run_makeMap],after_obj _ hf hlo h.hp hw (fun ρ' _ e=>⟨_,_,[],e,trivial,rfl⟩) (fun ρ' e=>by simp [SV.den,e])⟩
 ·
  rename_i t m i x ho
  unfold hm_mapUpdate at he
  split at he
  ·rename_i k e d g key ht hm hi
   split at he
   ·rename_i es c v ks hg hx hks
    obtain ⟨hu,hk⟩:=QaE ht
    obtain ⟨q,φ,k1,k2,k3,_⟩:=Q2L h.hp hg
    obtain ⟨b,c1,es',k4,k5,rfl⟩:=k2
    obtain ⟨y,h1,h2⟩:=Q1r h hm
    simp only [SV.den,k4,Option.map_some,Option.some.injEq] at h1
    subst h1
    have h3:=Q9N h hi
    obtain ⟨vx,h4,h5⟩:=Q1r h hx
    obtain ⟨kx,h6,h7⟩:=Q1r h hks
    rw [h3] at h7;cases h7
    obtain ⟨N,F,hop⟩ : ∃ N F,(objF b (.map es'.toArray c)).op N F w:=by obtain ⟨F,N,hi⟩:=hw;exact ⟨_,_,hi.owns q _ k1⟩
    have hgo:=Q7G (P:=P) hop.2
    split at he
    · rename_i u j vv bb hck hfd
      split at he
      · rename_i hsk
        cases he
        obtain ⟨r',f1,f2⟩:=Q89 hk k5 hfd
        cases r' with
        | none=>exact f1.elim
        | some jx =>
          obtain ⟨j',xo⟩:=jx
          obtain ⟨rfl,_⟩:=f1
          have hck':=Q4D hck w
          have hsk':=sameKey_spec (P:=P) k5 hsk w
          refine ⟨.skip,Q5z w b (.map (es'.modify j fun e=>{ e with key:=key,val:=(some vx).getD e.val }).toArray c),?_,after_skip hf (k3 ρ _ _ (fun _ _ h=>h) ⟨b,c1,_,k4,Qcr h6 (v:=some v) (x:=some vx) h4 k5,rfl⟩) (hw.setObj k1)⟩
          have hso:=Q9y (P:=P) (o:=.map (es'.modify j fun e=>{ e with key:=key,val:=vx }).toArray c) hop.2
          simp [execOp,ho,hfr.eval h2,hfr.eval h3,hfr.eval h5,Instr.mapUpdate,run_underlying hu,hgo,hck',f2 w]
          simp at hsk' hso
          simp [hsk',hso]
      · cases he
    · rename_i u hck hfd
      cases he
      obtain ⟨r',f1,f2⟩:=Q89 hk k5 hfd
      cases r' with
      | some x=>exact f1.elim
      | none =>
        have hck':=Q4D hck w
        refine ⟨.skip,Q5z w b (.map (es' ++[(⟨key,vx,c⟩ : MapEntry)]).toArray (c+1)),?_,after_skip hf (k3 ρ (.mp (es++[(ks,v,c)]) (c+1)) (objF b (.map (es' ++[(⟨key,vx,c⟩ : MapEntry)]).toArray (c+1))) (fun _ _ h=>h) ⟨b,c1,_,k4,k5.push h6 h4,rfl⟩) (hw.setObj k1)⟩
        have hso:=Q9y (P:=P) (o:=.map (es' ++[(⟨key,vx,c⟩ : MapEntry)]).toArray (c+1)) hop.2
        simp [execOp,ho,hfr.eval h2,hfr.eval h3,hfr.eval h5,Instr.mapUpdate,run_underlying hu,hgo,hck',f2 w]
        try simp at hso
        simp [hso]
    · cases he
   · cases he
  · cases he
 ·
  rename_i t m i ho
  unfold hm_mapEntry at he
  split at he
  ·rename_i k e d g key ht hm hi
   split at he
   ·rename_i es c z ks hg hz hks
    obtain ⟨hu,hk⟩:=QaE ht
    obtain ⟨q,φ,k1,k2,k3,_⟩:=Q2L h.hp hg
    obtain ⟨b,c1,es',k4,k5,rfl⟩:=k2
    obtain ⟨y,h1,h2⟩:=Q1r h hm
    simp only [SV.den,k4,Option.map_some,Option.some.injEq] at h1
    subst h1
    have h3:=Q9N h hi
    obtain ⟨kx,h6,h7⟩:=Q1r h hks
    rw [h3] at h7;cases h7
    obtain ⟨N,F,hop⟩ : ∃ N F,(objF b (.map es'.toArray c)).op N F w:=by obtain ⟨F,N,hi⟩:=hw;exact ⟨_,_,hi.owns q _ k1⟩
    have hgo:=Q7G (P:=P) hop.2
    split at he
    · rename_i u j vv bb hck hfd
      split at he
      · rename_i hsk
        cases he
        obtain ⟨_,e0,hb1,hb2⟩:=QdZ k5 hfd
        obtain ⟨r',f1,f2⟩:=Q89 hk k5 hfd
        cases r' with
        | none=>exact f1.elim
        | some jx =>
          obtain ⟨j',xo⟩:=jx
          obtain ⟨rfl,hxo⟩:=f1
          have hck':=Q4D hck w
          have hsk':=sameKey_spec (P:=P) k5 hsk w
          refine ⟨.value (.tuple #[xo,.int .i64 (bb:Int)]),Q5z w b (.map (es'.modify j fun e=>{ e with key:=key,val:=(none:Option Value).getD e.val }).toArray c),?_,Q2h hf (k3 ρ _ _ (fun _ _ h=>h) ⟨b,c1,_,k4,Qcr h6 (v:=none) (x:=none) trivial k5,rfl⟩) (hw.setObj k1) (by simp [SV.den,SV.dens,hxo])⟩
          have hso:=Q9y (P:=P) (o:=.map (es'.modify j fun e=>{ e with key:=key }).toArray c) hop.2
          simp at hb1
          simp [execOp,ho,hfr.eval h2,hfr.eval h3,Instr.mapEntry,run_underlying hu,hgo,hck',f2 w]
          simp [hb1] at hsk' hso
          simp [hb1,hsk',hso,hb2,goInt]
      · cases he
    · rename_i u hck hfd
      cases he
      obtain ⟨r',f1,f2⟩:=Q89 hk k5 hfd
      cases r' with
      | some x=>exact f1.elim
      | none =>
        have hck':=Q4D hck w
        refine ⟨.value (.tuple #[z,.int .i64 (c:Int)]),Q5z w b (.map (es' ++[(⟨key,z,c⟩ : MapEntry)]).toArray (c+1)),?_,Q2h hf (k3 ρ (.mp (es++[(ks,SV.of z,c)]) (c+1)) (objF b (.map (es' ++[(⟨key,z,c⟩ : MapEntry)]).toArray (c+1))) (fun _ _ h=>h) ⟨b,c1,_,k4,k5.push h6 (SV.of_den z),rfl⟩) (hw.setObj k1) (by simp [SV.den,SV.dens,SV.of_den z])⟩
        have hso:=Q9y (P:=P) (o:=.map (es' ++[(⟨key,z,c⟩ : MapEntry)]).toArray (c+1)) hop.2
        simp [execOp,ho,hfr.eval h2,hfr.eval h3,Instr.mapEntry,run_underlying hu,hgo,hck',f2 w,Q9E hz]
        try simp at hso
        simp [hso,goInt]
    · cases he
   · cases he
  · cases he
 ·
  rename_i t m s x ho
  unfold Qes at he
  split at he
  ·rename_i g bb v hm hs hx
   split at he
   ·rename_i es c hg
    split at he
    · rename_i j hj
      split at he
      · rename_i ks hks
        cases he
        obtain ⟨q,φ,k1,k2,k3,_⟩:=Q2L h.hp hg
        obtain ⟨b,c1,es',k4,k5,rfl⟩:=k2
        obtain ⟨y,h1,h2⟩:=Q1r h hm
        simp only [SV.den,k4,Option.map_some,Option.some.injEq] at h1
        subst h1
        have h3:=Q5L h hs
        obtain ⟨vx,h4,h5⟩:=Q1r h hx
        obtain ⟨N,F,hop⟩ : ∃ N F,(objF b (.map es'.toArray c)).op N F w:=by obtain ⟨F,N,hi⟩:=hw;exact ⟨_,_,hi.owns q _ k1⟩
        have hgo:=Q7G (P:=P) hop.2
        obtain ⟨e0,h6,h7⟩:=keyAt_spec k5 hks
        have hfi:=QdU k5 hj
        have hmod:(es'.modify j fun e=>{ e with key:=e0.key,val:=(some vx).getD e.val })=es'.modify j fun e=>{ e with val:=vx }:=by
          apply List.ext_getElem?
          intro i
          simp only [List.getElem?_modify]
          by_cases hij:j=i
          · subst hij;simp [h6]
          · simp [hij]
        refine ⟨.skip,Q5z w b (.map (es'.modify j fun e=>{ e with key:=e0.key,val:=(some vx).getD e.val }).toArray c),?_,after_skip hf (k3 ρ _ _ (fun _ _ h=>h) ⟨b,c1,_,k4,Qcr h7 (v:=some v) (x:=some vx) h4 k5,rfl⟩) (hw.setObj k1)⟩
        rw [hmod]
        have hso:=Q9y (P:=P) (o:=.map (es'.modify j fun e=>{ e with val:=vx }).toArray c) hop.2
        simp [execOp,ho,hfr.eval h2,hfr.eval h3,hfr.eval h5,Instr.entryStore,hgo,asInt,asIntOf]
        try simp at hso
        try simp at hfi
        simp [hfi,hso]
      · cases he
    · cases he
   · cases he
  · cases he
 ·
  rename_i xs ts ho
  unfold hm_delete at he
  split at he
  ·rename_i m i t t2 hxs hts
   have hxs' : xs=#[m,i]:=by cases xs;simp_all
   have hts' : ts=#[t,t2]:=by cases ts;simp_all
   subst hxs';subst hts'
   split at he
   ·rename_i k e d g key ht hm hi
    split at he
    · rename_i es c hg
      obtain ⟨hu,hk⟩:=QaE ht
      obtain ⟨q,φ,k1,k2,k3,_⟩:=Q2L h.hp hg
      obtain ⟨b,c1,es',k4,k5,rfl⟩:=k2
      obtain ⟨y,h1,h2⟩:=Q1r h hm
      simp only [SV.den,k4,Option.map_some,Option.some.injEq] at h1
      subst h1
      have h3:=Q9N h hi
      obtain ⟨N,F,hop⟩ : ∃ N F,(objF b (.map es'.toArray c)).op N F w:=by obtain ⟨F,N,hi⟩:=hw;exact ⟨_,_,hi.owns q _ k1⟩
      have hgo:=Q7G (P:=P) hop.2
      have hemp:es'.isEmpty=es.isEmpty:=by
        have:=k5.len
        cases es <;> cases es' <;> simp_all
      split at he
      · rename_i u j vv bb hck hfd
        cases he
        obtain ⟨_,e0,hb1,hb2⟩:=QdZ k5 hfd
        obtain ⟨r',f1,f2⟩:=Q89 hk k5 hfd
        cases r' with
        | none=>exact f1.elim
        | some jx =>
          obtain ⟨j',xo⟩:=jx
          obtain ⟨rfl,hxo⟩:=f1
          have hck':=Q4D hck w
          refine ⟨.value (.tuple #[]),Q5z w b (.map (es'.eraseIdx j).toArray c),?_,Q2h hf (k3 ρ (.mp (es.eraseIdx j) c) (objF b (.map (es'.eraseIdx j).toArray c)) (fun _ _ h=>h) ⟨b,c1,_,k4,k5.erase j,rfl⟩) (hw.setObj k1) rfl⟩
          have hso:=Q9y (P:=P) (o:=.map (es'.eraseIdx j).toArray c) hop.2
          simp [execOp,ho,resolve,invoke,builtin,Builtin.delete_,hfr.eval h2,hfr.eval h3,run_underlying hu,hgo,hemp,hck',f2 w]
          try simp at hso
          simp [hso]
      · rename_i u hck hfd
        cases he
        obtain ⟨r',f1,f2⟩:=Q89 hk k5 hfd
        cases r' with
        | some x=>exact f1.elim
        | none =>
          have hck':=Q4D hck w
          refine ⟨.value (.tuple #[]),Q5z w b (.map es'.toArray c),?_,Q2h hf (k3 ρ (.mp es c) (objF b (.map es'.toArray c)) (fun _ _ h=>h) ⟨b,c1,_,k4,k5,rfl⟩) (hw.setObj k1) rfl⟩
          have hso:=Q9y (P:=P) (o:=.map es'.toArray c) hop.2
          simp [execOp,ho,resolve,invoke,builtin,Builtin.delete_,hfr.eval h2,hfr.eval h3,run_underlying hu,hgo,hemp,hck',f2 w,hso]
      · cases he
    · cases he
   · cases he
  · cases he
 ·
  rename_i t x ho
  unfold hm_range at he
  split at he
  ·rename_i r0 ht hx
   obtain ⟨k,e,d⟩:=r0
   cases he
   refine ⟨.value (.pointer (some ⟨w.heap.size,0,none⟩)),w.alloc (.mapIter none 0 #[] 0),?_,after_obj _ hf hlo h.hp hw (fun ρ' _ e=>⟨_,_,none,e,trivial,rfl⟩) (fun ρ' e=>by simp [SV.den,e])⟩
   simp [execOp,ho,Instr.range,hfr.eval (Q5L h hx),run_underlying (QaE ht).1,newObj]
   rfl
  ·rename_i r0 g ht hx
   obtain ⟨k,e,d⟩:=r0
   split at he
   ·rename_i es c hg
    cases he
    obtain ⟨q,φ,k1,k2,k3,_⟩:=Q2L h.hp hg
    obtain ⟨b,c1,es',k4,k5,rfl⟩:=k2
    obtain ⟨y,h1,h2⟩:=Q1r h hx
    simp only [SV.den,k4,Option.map_some,Option.some.injEq] at h1
    subst h1
    obtain ⟨N,F,hop⟩ : ∃ N F,(objF b (.map es'.toArray c)).op N F w:=by obtain ⟨F,N,hi⟩:=hw;exact ⟨_,_,hi.owns q _ k1⟩
    have hgo:=Q7G (P:=P) hop.2
    refine ⟨.value (.pointer (some ⟨w.heap.size,0,none⟩)),w.alloc (.mapIter (some b) c #[] c),?_,after_obj _ hf hlo h.hp hw (fun ρ' hle e=>⟨_,_,some b,e,⟨c1,hle _ _ k4⟩,rfl⟩) (fun ρ' e=>by simp [SV.den,e])⟩
    simp [execOp,ho,Instr.range,hfr.eval h2,run_underlying (QaE ht).1,hgo,newObj]
    rfl
   · cases he
  · cases he
 ·
  rename_i x ho
  unfold hm_next at he
  split at he
  ·rename_i r0 hx
   obtain ⟨y,h1,h2⟩:=Q1r h hx
   split at he
   ·rename_i since seen stepped hg
    cases he
    obtain ⟨q,φ,k1,k2,k3,_⟩:=Q2L h.hp hg
    obtain ⟨b,c1,bm,k4,k5,rfl⟩:=k2
    cases bm with
    | some _=>exact k5.elim
    | none =>
      simp only [SV.den,k4,Option.map_some,Option.some.injEq] at h1
      subst h1
      obtain ⟨N,F,hop⟩ : ∃ N F,(objF b (.mapIter none since seen.toArray stepped)).op N F w:=by obtain ⟨F,N,hi⟩:=hw;exact ⟨_,_,hi.owns q _ k1⟩
      have hgo:(getObj b).run P w=.ok (.mapIter none since seen.toArray stepped) w:=by simp [getObj,Sem.run,hop.2]
      refine ⟨.value (.tuple #[.bool false]),w,?_,Q2h hf h.hp hw rfl⟩
      simp [execOp,ho,hfr.eval h2,Instr.next,hgo]
   ·rename_i g since seen last hg
    split at he
    · rename_i es c hgm
      split at he
      · cases he
      · rename_i hcond
        obtain ⟨q,φ,k1,k2,k3,_⟩:=Q2L h.hp hg
        obtain ⟨b,c1,bm,k4,k5,rfl⟩:=k2
        obtain ⟨q',φ',j1,j2,j3,_⟩:=Q2L h.hp hgm
        obtain ⟨b',c1',es',j4,j5,rfl⟩:=j2
        cases bm with
        | none=>exact k5.elim
        | some bm =>
          obtain ⟨c2,k5⟩:=k5
          rw [j4] at k5;cases k5
          simp only [SV.den,k4,Option.map_some,Option.some.injEq] at h1
          subst h1
          obtain ⟨hop,hop'⟩ : w.heap[b]? =some (.mapIter (some b') since seen.toArray last)∧w.heap[b']? =some (.map es'.toArray c):=by obtain ⟨F,N,hi⟩:=hw;exact ⟨(hi.owns q _ k1).2,(hi.owns q' _ j1).2⟩
          have hgo:(getObj b).run P w=.ok (.mapIter (some b') since seen.toArray last) w:=by simp [getObj,Sem.run,hop]
          have hgo':=Q7G (P:=P) hop'
          have hemp:es'.isEmpty=es.isEmpty:=by
           have:=j5.len
           cases es <;> cases es' <;> simp_all
          have hall:=j5.all (fun n=>decide (last≤n))
          have hcond' : (!seen.isEmpty && !es'.isEmpty && es'.all fun e=>decide (last≤e.born))=false:=by rw [hemp,hall];exact hcond
          have hfil:=j5.filter (fun n=>!seen.contains n)
          split at he
          ·rename_i hl
           cases he
           rw [hl] at hfil
           have hl' : (es'.filter fun e=>!seen.contains e.born)=[]:=by
            cases hc:es'.filter fun e=>!seen.contains e.born with
            | nil=>rfl
            | cons _ _=>rw [hc] at hfil;exact hfil.elim
           refine ⟨.value (.tuple #[.bool false]),w,?_,Q2h hf h.hp hw rfl⟩
           have h9:(Instr.next (.pointer (some ⟨b,0,none⟩)) false o.type).run P w=.ok (.tuple #[.bool false]) w:=by
            unfold Instr.next
            have c1' : (!seen.toArray.isEmpty && !es'.toArray.isEmpty && es'.toArray.all fun x=>decide (x.born ≥ last))=false:=by simpa using hcond'
            have c2' : (es'.toArray.filter fun e=>!seen.toArray.contains e.born)=#[]:=by simpa using hl'
            simp only [Sem.run_bind,hgo,hgo',Result.andThen_ok,c1',c2']
            simp [choose,Sem.run,Question.forced]
           simp [execOp,ho,hfr.eval h2,h9]
          ·rename_i kk vv bb hl
           split at he
           ·rename_i hlt
            cases he
            have hlt:=Nat.le_of_ble_eq_true hlt
            rw [hl] at hfil
            obtain ⟨e,hl',f1,f2,f3⟩ : ∃ e,(es'.filter fun e=>!seen.contains e.born)=[e]∧kk.den ρ E=some e.key∧vv.den ρ E=some e.val∧bb=e.born:=by
             cases hc:es'.filter fun e=>!seen.contains e.born with
             | nil=>rw [hc] at hfil;exact hfil.elim
             |        cons e s =>
                      rw [hc] at hfil
                      obtain ⟨g1,g2,g3,g4⟩:=hfil
                      cases s with
                      | nil=>exact ⟨e,rfl,g1,g2,g3⟩
                      | cons _ _=>exact g4.elim
            refine ⟨.value (.tuple #[.bool true,e.key,e.val]),Q5z w b (.mapIter (some b') since (seen++[bb]).toArray c),?_,Q2h hf (k3 ρ (.it (some g) since (seen++[bb]) c) (objF b (.mapIter (some b') since (seen++[bb]).toArray c)) (fun _ _ h=>h) ⟨b,c1,some b',k4,⟨c1',j4⟩,rfl⟩) (hw.setObj k1) (by simp [SV.den,SV.dens,f1,f2])⟩
            have hso:(setObj b (.mapIter (some b') since (seen++[bb]).toArray c)).run P w=.ok () (Q5z w b (.mapIter (some b') since (seen++[bb]).toArray c)):=by simp [setObj,Sem.run,hop,Q5z]
            have h9:(Instr.next (.pointer (some ⟨b,0,none⟩)) false o.type).run P w=.ok (.tuple #[.bool true,e.key,e.val]) (Q5z w b (.mapIter (some b') since (seen++[bb]).toArray c)):=by
             unfold Instr.next
             have d1:(!seen.toArray.isEmpty && !es'.toArray.isEmpty && es'.toArray.all fun x=>decide (x.born ≥ last))=false:=by simpa using hcond'
             have d2:(es'.toArray.filter fun e=>!seen.toArray.contains e.born) = #[e]:=by
                      have:(es'.toArray.filter fun e=>!seen.toArray.contains e.born)=(es'.filter fun e=>!seen.contains e.born).toArray:=by simp
                      rw [this,hl']
             have d3:e.born < since:=by omega
             have d4 : ¬ e.born ≥ since:=by omega
             simp only [Sem.run_bind,hgo,hgo',Result.andThen_ok,d1,d2]
             subst f3
             try simp at hso
             simp [choose,Sem.run,Question.forced,d3,d4,hso]
            simp [execOp,ho,hfr.eval h2,h9]
           · cases he
          · cases he
    · cases he
   · cases he
  · cases he
 ·
  rename_i x ho
  unfold hm_entry at he
  split at he
  ·rename_i r0 hx
   obtain ⟨y,h1,h2⟩:=Q1r h hx
   split at he
   ·rename_i g since seen stepped hg
    split at he
    · rename_i es c bb hgm hlast
      split at he
      · rename_i kk vv hc hent
        cases he
        obtain ⟨q,φ,k1,k2,k3,_⟩:=Q2L h.hp hg
        obtain ⟨b,c1,bm,k4,k5,rfl⟩:=k2
        obtain ⟨q',φ',j1,j2,j3,_⟩:=Q2L h.hp hgm
        obtain ⟨b',c1',es',j4,j5,rfl⟩:=j2
        cases bm with
        | none=>exact k5.elim
        | some bm =>
          obtain ⟨c2,k5⟩:=k5
          rw [j4] at k5;cases k5
          simp only [SV.den,k4,Option.map_some,Option.some.injEq] at h1
          subst h1
          obtain ⟨hop,hop'⟩ : w.heap[b]? =some (.mapIter (some b') since seen.toArray stepped)∧w.heap[b']? =some (.map es'.toArray c):=by obtain ⟨F,N,hi⟩:=hw;exact ⟨(hi.owns q _ k1).2,(hi.owns q' _ j1).2⟩
          have hgo:(getObj b).run P w=.ok (.mapIter (some b') since seen.toArray stepped) w:=by simp [getObj,Sem.run,hop]
          have hgo':=Q7G (P:=P) hop'
          obtain ⟨e,f1,f2,f3⟩:=entAt_spec j5 hent
          have hc:=Qw hc
          refine ⟨.value (.tuple #[e.key,e.val]),w,?_,Q2h hf h.hp hw (by simp [SV.den,SV.dens,f2,f3])⟩
          have hb:seen.toArray.back? =some bb:=by simpa using hlast
          have h9:(Instr.entry (.pointer (some ⟨b,0,none⟩))).run P w=.ok (.tuple #[e.key,e.val]) w:=by
           unfold Instr.entry
           simp [hgo,hgo',hb,hc,f1]
          simp [execOp,ho,hfr.eval h2,h9]
      · cases he
    · cases he
   · cases he
  · cases he
 ·
  rename_i src dst x ho
  unfold hm_convert at he
  split at he
  ·rename_i g off len cap own hx
   obtain ⟨y,h1,h2⟩:=Q1r h hx
   have h1':=h1
   simp only [SV.den,Option.map_eq_some_iff] at h1
   obtain ⟨en,hen,rfl⟩:=h1
   split at he
   ·rename_i e0 e hsrc hdst
    split at he
    · rename_i hu8
      have key : ∀ {ob:HO} {cs:List SV},hget hp g=some ob→ob.cs=some cs→Nat.beq src dst=true→(r,hp',lo')=(some (.sl g off len cap own),hset hp g (.ro cs),lo)→∃ nx w',(execOp a.eval o).run P w=.ok nx w' ∧After C ρ E lo hi r hp' lo' nx w':=by
        intro ob cs hg hcs heq hr
        cases hr
        obtain ⟨q,φ,k1,k2,k3,_⟩:=Q2L h.hp hg
        obtain ⟨b,c,vs,k4,k5,k6⟩:=HO.cells_at k2 hcs
        rw [k4] at hen;cases hen
        obtain ⟨w',m1,m2,m3⟩:=stringish_run (P:=P) (b:=b) (off:=0+off) (w:=w)
        have hN : ∀ N F,φ.op N F w→N b∧Q3D w b 0 vs:=fun N F hop=>by
          refine ⟨?_,k6 N F w hop⟩
          cases ob with
          | blk cs' ty=>obtain ⟨b',c',vs',l1,l2,rfl⟩:=k2;rw [k4] at l1;cases l1;exact hop.1
          | row cs' n' sz ty=>obtain ⟨b',c',vs',l1,l2,rfl⟩:=k2;rw [k4] at l1;cases l1;exact hop.1
          | ro cs'=>obtain ⟨b',c',vs',l1,l2,rfl⟩:=k2;rw [k4] at l1;cases l1;exact hop.1
          | mp _ _=>cases hcs
          | it _ _ _ _=>cases hcs
        refine ⟨_,w',?_,Q2h hf (k3 ρ (.ro cs) (cellsF b vs) (fun _ _ h=>h) ⟨b,c,vs,k4,k5,rfl⟩) (hw.toRo k1 hN m2 m3) h1'⟩
        have:=Qw heq
        subst this
        try simp at m1
        simp [execOp,ho,hfr.eval h2,convert,run_underlying (Q1A hsrc),run_underlying hu8]
        rw [hsrc] at hdst;cases hdst
        simp [run_underlying hu8,m1]
      split at he
      · rename_i cs ty heq hg
        exact key hg rfl heq (Option.some.inj he).symm
      · rename_i cs heq hg
        exact key hg rfl heq (Option.some.inj he).symm
      · cases he
    · cases he
   ·rename_i e hsrc hdst
    split at he
    · rename_i hu8 hstr
      split at he
      · rename_i cs hr
        split at he
        · rename_i s hs
          cases he
          obtain ⟨b,c,vs,l1,l2,l3,l4⟩:=Qdl h.hp hr (C:=C)
          rw [l1] at hen;cases hen
          obtain ⟨ns,rfl,l5⟩:=bytesC_spec l2 hs
          refine ⟨.value (.string s),w,?_,Q2h hf h.hp hw rfl⟩
          have hl:len=(ns.map (Value.int .u8)).length:=by rw [Q4s l2,l3]
          have hload:(loadCells ⟨b,off,none⟩ len).run P w=.ok (ns.map (Value.int .u8)).toArray w:=by
           rw [hl]
           exact run_loadCells_list (P:=P) w ⟨b,off,none⟩ _ (fun j v hv=>by rw [Q4R];exact l4 w hw j v hv)
          have:=run_bytesToString (P:=P) w ⟨b,off,none⟩ len (if own then c - cap else cap) ns hload
          rw [l5] at this
          try simp at this
          simp [execOp,ho,hfr.eval h2,convert,run_underlying (Q1A hsrc),run_underlying hstr,run_underlying hu8,this]
        · cases he
      · cases he
    · cases he
   · cases he
  · cases he
 · cases he
def heavyG (P:Program)(fr:Tr)(hp:Q1a)(lo:Nat)(op:Op):Option (Option SV×Q1a×Nat):=match heavyC P fr hp lo op with
 | some r=>some r
 | none=>heavyMC P fr hp lo op
theorem heavyG_spec (h:Rel ρ E fr hp S H) {lo hi lo' : Nat} {o:Oper} {r:Option SV} {hp' : Q1a} (hf:Q9h ρ lo hi)(he:heavyG P fr hp lo o.op=some (r,hp',lo'))(hlo:lo' ≤hi) :
  ∀ (a:Act) w,Frm n S a→QC C [] H w→∃ nx w',(execOp a.eval o).run P w=.ok nx w' ∧After C ρ E lo hi r hp' lo' nx w':=by
 unfold heavyG at he
 split at he
 ·rename_i x hx
  cases he
  exact heavyC_spec h hf hx hlo
 · exact heavyMC_spec h hf he hlo
def readA (P:Program)(fr:Tr)(hp:Q1a)(o:Oper):Option (SV×Option Nat):=match readG P fr hp o with
 | some r=>some r
 | none=>readMC P fr hp o.op
theorem readA_spec (h:Rel ρ E fr hp S H) {o:Oper} {v:SV} {d:Option Nat} (he:readA P fr hp o=some (v,d)):ReadOk P n ρ E hp S H o v d:=by
 unfold readA at he
 split at he
 ·rename_i x hx
  cases he
  exact readG_spec h hx
 · exact readMC_spec h he
end
end
end Go.Proofs.YtbgodclhmgmcgaaGreatDoor
