import Derived.Test.YtbgodclhmgmcgaaGreatDoorCeV
namespace Go.Proofs.YtbgodclhmgmcgaaGreatDoor
open Go.RowKit
noncomputable section
def Q7h {α:Type} (P:Program):Sem α → Option α
 | .pure a=>some a
 | .program k=>Q7h P (k P)
 | .mark _ k=>Q7h P k
 | _=>none
theorem Q3r {α:Type} {P:Program} : ∀ {s:Sem α} {a : α},Q7h P s = some a → ∀ w,s.run P w = .ok a w
 | .pure a,b,h,w=>by cases h; rfl
 | .program k,b,h,w=>by
   unfold Q7h at h
   unfold Sem.run
   exact Q3r h w
 | .mark m k,b,h,w=>by
   unfold Q7h at h
   unfold Sem.run
   exact Q3r h w
 | .load _ _ _,_,h,_=>by cases h
 | .store _ _ _ _,_,h,_=>by cases h
 | .new _ _,_,h,_=>by cases h
 | .shape _ _,_,h,_=>by cases h
 | .freeze _ _ _,_,h,_=>by cases h
 | .frozen _ _,_,h,_=>by cases h
 | .getObj _ _,_,h,_=>by cases h
 | .setObj _ _ _,_,h,_=>by cases h
 | .choose _ _,_,h,_=>by cases h
 | .sys _ _,_,h,_=>by cases h
 | .halt _,_,h,_=>by cases h
def noEnv:Env:=fun _=>none
def closeV (v:SV):Option Value:=SV.den noEnv [] v
mutual
theorem SV.close_den {ρ:Env} {E:List Value} : ∀ (v:SV) (x:Value),v.den noEnv [] = some x → v.den ρ E = some x
 | .v _,_,e=>e
 | .opq i,x,e=>by simp [SV.den] at e
 | .ptr g off,x,e=>by simp [SV.den,noEnv] at e
 | .sl g off len cap own,x,e=>by simp [SV.den,noEnv] at e
 | .mp g,x,e=>by simp [SV.den,noEnv] at e
 | .fn f fi caps,x,e=>by
   obtain ⟨us,vs,h1,h2,rfl⟩:=fn_den e
   exact fn_mk (SV.close_dens fi us h1) (SV.close_dens caps vs h2)
 | .agg l,x,e=>by
   simp only [SV.den,Option.map_eq_some_iff] at e ⊢
   obtain ⟨a,h1,h2⟩:=e; exact ⟨a,SV.close_dens l a h1,h2⟩
 | .tup l,x,e=>by
   simp only [SV.den,Option.map_eq_some_iff] at e ⊢
   obtain ⟨a,h1,h2⟩:=e; exact ⟨a,SV.close_dens l a h1,h2⟩
theorem SV.close_dens {ρ:Env} {E:List Value} : ∀ (l:List SV) (xs:List Value),SV.dens noEnv [] l = some xs → SV.dens ρ E l = some xs
 | [],_,e=>e
 | x :: l,xs,e=>by
   obtain ⟨v,ws,rfl,h1,h2⟩:=Q3T e
   exact Q2h (SV.close_den x v h1) (SV.close_dens l ws h2)
end
def SV.ofT:Value → SV
 | .tuple vs=>.tup (vs.toList.map SV.of)
 | x=>SV.of x
theorem dens_of {ρ:Env} {E:List Value} : ∀ (l:List Value),SV.dens ρ E (l.map SV.of) = some l
 | []=>rfl
 | x :: l=>Q2h (SV.of_den x) (dens_of l)
theorem SV.ofT_den {ρ:Env} {E:List Value} (x:Value):(SV.ofT x).den ρ E = some x:=by
 unfold SV.ofT
 split
 · simp [SV.den,dens_of]
 · exact SV.of_den x
def Q8R (fr:Tr) (x:Operand):Option Value:=match evC fr x with
 | some v=>closeV v
 | none=>none
def valO (fr:Tr) (x:Operand):Value:=match Q8R fr x with
 | some y=>y
 | none=>undef
def isSelect:Op → Bool
 | .select _ _=>true
 | _=>false
def genC (P : Program) (fr : Tr) (o : Oper) : Option SV := match (o.op.operands.toList.all fun x => (Q8R fr x).isSome) && !isSelect o.op with
 | true=>match Q7h P (execOp (valO fr) o) with
   | some (.value v)=>some (SV.ofT v)
   | _=>none
 | false=>none
def tArrC (P:Program) (t:Nat):Option (Nat × Nat):=match P.underlying t with
 | some (.array n e)=>some (n,e)
 | _=>none
theorem tArr_run {P:Program} {t n e:Nat} (h:tArrC P t = some (n,e)):P.underlying t = some (.array n e):=by
 unfold tArrC at h
 split at h
 · rename_i hu; cases h; exact hu
 · cases h
def strC (P:Program) (fr:Tr):Op → Option SV
 | .binOp op _ x y _=>match evC fr x,evC fr y with
   | some (.v (.string a)),some (.v (.string b))=>match op with
     | .eql=>some (.v (.bool (a.data.toList == b.data.toList)))
     | .neq=>some (.v (.bool (!(a.data.toList == b.data.toList))))
     | .lss=>some (.v (.bool (Op.bytesLess a.data.toList b.data.toList)))
     | .gtr=>some (.v (.bool (!(Op.bytesLess a.data.toList b.data.toList || a.data.toList == b.data.toList))))
     | _=>none
   | _,_=>none
 | .indexAddr t x i=>match evC fr x,evC fr i,tArrC P t with
   | some (.ptr g off),some (.v (.int _ (.ofNat j))),some (n,e)=>match Q1v P e,Nat.blt j n with
     | some sz,true=>some (.ptr g (off + j * sz))
     | _,_=>none
   | _,_,_=>none
 | _=>none
def readG (P:Program) (fr:Tr) (hp:Q16) (o:Oper):Option (SV × Option Nat):=match readC P fr hp o.op with
 | some r=>some r
 | none=>match strC P fr o.op with
   | some v=>some (v,none)
   | none=>match genC P fr o with
     | some v=>some (v,none)
     | none=>none
section
variable {P:Program} {n:FD} {ρ:Env} {E:List Value} {fr:Tr} {hp:Q16} {S:List (Nat × Value)} {H:List Fact}
theorem Q75 (h:Rel ρ E fr hp S H) {x:Operand} {y:Value} (hx:Q8R fr x = some y):evS S x = some y:=by
 unfold Q8R at hx
 split at hx
 ·rename_i v hv
  obtain ⟨z,h1,h2⟩:=Q1l h hv
  rw [SV.close_den v y hx] at h1
  cases h1; exact h2
 · cases hx
theorem genC_spec (h:Rel ρ E fr hp S H) {o:Oper} {v:SV} (he:genC P fr o = some v):ReadOk P n ρ E hp S H o v none:=by
 unfold genC at he
 split at he
 ·rename_i hb
  simp only [Bool.and_eq_true,List.all_eq_true,Bool.not_eq_true'] at hb
  split at he
  ·rename_i y hy
   cases he
   refine Q48 (SV.ofT_den y) fun a w hf=>?_
   have hc:execOp a.eval o = execOp (valO fr) o:=execOp_congr o (fun cs b e=>by rw [e] at hb; exact absurd hb.2 (by simp [isSelect])) (fun x hx=>by
    have h1:=hb.1 x (by simpa using hx)
    obtain ⟨z,hz⟩:=Option.isSome_iff_exists.1 h1
    rw [hf.eval (Q75 h hz)]
    simp [valO,hz])
   rw [hc]
   exact Q3r hy w
  · cases he
 · cases he
theorem strC_spec (h:Rel ρ E fr hp S H) {o:Oper} {v:SV} (he:strC P fr o.op = some v):ReadOk P n ρ E hp S H o v none:=by
 unfold strC at he
 split at he
 ·rename_i op t x y u ho
  split at he
  ·rename_i a b hx hy
   split at he <;> first | (cases he; done) | (
    cases he
    exact Q48 rfl (Q6j ho (Q41 h hx) (Q41 h hy) fun w=>by simp [eqGuard,binOp,Op.stringOp,ByteArray.toList_eq]))
  · cases he
 ·rename_i t x i ho
  split at he
  ·rename_i g off ik j m e hx hi ht
   split at he
   ·rename_i sz hs hj
    cases he
    obtain ⟨y,h1,h2⟩:=Q1l h hx
    simp only [SV.den,Option.map_eq_some_iff] at h1
    obtain ⟨en,h3,rfl⟩:=h1
    have hi':=Q41 h hi
    have hlt:j < m:=Nat.le_of_ble_eq_true hj
    refine Q48 (x:=.pointer (some ⟨en.1,en.2.2 + off + j * sz,none⟩)) (by simp [SV.den,h3,Nat.add_assoc]) fun a w hf=>?_
    simp [execOp,ho,hf.eval h2,hf.eval hi',Instr.indexAt,asIntOf,Instr.sureAddr,run_underlying (tArr_run ht),hlt,Q3G hs,Q4v]
   · cases he
  · cases he
 · cases he
theorem readG_spec (h:Rel ρ E fr hp S H) {o:Oper} {v:SV} {d:Option Nat} (he:readG P fr hp o = some (v,d)):ReadOk P n ρ E hp S H o v d:=by
 unfold readG at he
 split at he
 ·rename_i r hr
  cases he
  exact readC_spec h hr
 ·split at he
  ·rename_i v' hv
   cases he
   exact strC_spec h hv
  ·split at he
   ·rename_i v' hv
    cases he
    exact genC_spec h hv
   · cases he
end
end
end Go.Proofs.YtbgodclhmgmcgaaGreatDoor
