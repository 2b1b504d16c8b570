import Derived.Test.YtbgodclhmgmcgaaGreatDoorCeV
import Derived.Test.YtbgodclhmgmcgaaGreatDoorCeH
namespace Go.Proofs.YtbgodclhmgmcgaaGreatDoor
open Go.RowKit
noncomputable section
def Q9X {α:Type} (P:Program):Sem α→Option α
 | .pure a=>some a
 | .program k=>Q9X P (k P)
 | .mark _ k=>Q9X P k
 | _=>none
theorem Q4D {α:Type} {P:Program} : ∀ {s:Sem α} {a : α},Q9X P s=some a→∀ w,s.run P w=.ok a w
 | .pure a,b,h,w=>by cases h;rfl
 | .program k,b,h,w=>by
   unfold Q9X at h
   unfold Sem.run
   exact Q4D h w
 | .mark m k,b,h,w=>by
   unfold Q9X at h
   unfold Sem.run
   exact Q4D h w
 | .load _ _ _,_,h,_=>by cases h
 | .store _ _ _ _,_,h,_=>by cases h
 | .new _ _,_,h,_=>by cases h
 | .shape _ _,_,h,_=>by cases h
 | .freeze _ _ _,_,h,_=>by cases h
 | .frozen _ _,_,h,_=>by cases h
 | .getObj _ _,_,h,_=>by cases h
 | .setObj _ _ _,_,h,_=>by cases h
 | .choose _ _,_,h,_=>by cases h
 | .sys _ _,_,h,_=>by cases h
 | .halt _,_,h,_=>by cases h
def noEnv:Env:=fun _=>none
def closeV (v:SV):Option Value:=SV.den noEnv [] v
mutual
theorem SV.close_den {ρ:Env} {E:List Value} : ∀ (v:SV)(x:Value),v.den noEnv []=some x→v.den ρ E=some x
 | .v _,_,e=>e
 | .opq i,x,e=>by simp [SV.den] at e
 | .ptr g off,x,e=>by simp [SV.den,noEnv] at e
 | .sl g off len cap own,x,e=>by simp [SV.den,noEnv] at e
 | .mp g,x,e=>by simp [SV.den,noEnv] at e
 | .fn f fi caps,x,e=>by
   obtain ⟨us,vs,h1,h2,rfl⟩:=fn_den e
   exact fn_mk (SV.close_dens fi us h1) (SV.close_dens caps vs h2)
 | .agg l,x,e=>by
   simp only [SV.den,Option.map_eq_some_iff] at e ⊢
   obtain ⟨a,h1,h2⟩:=e;exact ⟨a,SV.close_dens l a h1,h2⟩
 | .tup l,x,e=>by
   simp only [SV.den,Option.map_eq_some_iff] at e ⊢
   obtain ⟨a,h1,h2⟩:=e;exact ⟨a,SV.close_dens l a h1,h2⟩
theorem SV.close_dens {ρ:Env} {E:List Value} : ∀ (l:List SV)(xs:List Value),SV.dens noEnv [] l=some xs→SV.dens ρ E l=some xs
 | [],_,e=>e
 | x :: l,xs,e=>by
   obtain ⟨v,ws,rfl,h1,h2⟩:=Q5A e
   exact Q2B (SV.close_den x v h1) (SV.close_dens l ws h2)
end
def SV.ofT:Value→SV
 | .tuple vs=>.tup (vs.toList.map SV.of)
 | x=>SV.of x
theorem dens_of {ρ:Env} {E:List Value} : ∀ (l:List Value),SV.dens ρ E (l.map SV.of)=some l
 | []=>rfl
 | x :: l=>Q2B (SV.of_den x) (dens_of l)
theorem SV.ofT_den {ρ:Env} {E:List Value} (x:Value):(SV.ofT x).den ρ E=some x:=by
 unfold SV.ofT
 split
 · simp [SV.den,dens_of]
 · exact SV.of_den x
def Qcq (fr:Tr)(x:Operand):Option Value:=match evC fr x with
 | some v=>closeV v
 | none=>none
def valO (fr:Tr)(x:Operand):Value:=match Qcq fr x with
 | some y=>y
 | none=>undef
def isSelect:Op→Bool
 | .select _ _=>true
 | _=>false
def genC (P : Program)(fr : Tr)(o : Oper) : Option SV :=match (o.op.operands.toList.all fun x=> (Qcq fr x).isSome) && !isSelect o.op with
 | true=>match Q9X P (execOp (valO fr) o) with
   | some (.value v)=>some (SV.ofT v)
   | _=>none
 | false=>none
def tArrC (P:Program)(t:Nat):Option (Nat×Nat):=match P.underlying t with
 | some (.array n e)=>some (n,e)
 | _=>none
theorem tArr_run {P:Program} {t n e:Nat} (h:tArrC P t=some (n,e)):P.underlying t=some (.array n e):=by
 unfold tArrC at h
 split at h
 · rename_i hu;cases h;exact hu
 · cases h
def strC (P:Program)(fr:Tr):Op→Option SV
 | .binOp op _ x y _=>match evC fr x,evC fr y with
   | some (.v (.string a)),some (.v (.string b))=>match op with
     | .eql=>some (.v (.bool (a.data.toList==b.data.toList)))
     | .neq=>some (.v (.bool (!(a.data.toList==b.data.toList))))
     | .lss=>some (.v (.bool (Op.bytesLess a.data.toList b.data.toList)))
     | .gtr=>some (.v (.bool (!(Op.bytesLess a.data.toList b.data.toList || a.data.toList==b.data.toList))))
     | _=>none
   | _,_=>none
 | .indexAddr t x i=>match evC fr x,evC fr i,tArrC P t with
   | some (.ptr g off),some (.v (.int _ (.ofNat j))),some (n,e)=>match Q1m P e,Nat.blt j n with
     | some sz,true=>some (.ptr g (off+j * sz))
     | _,_=>none
   | _,_,_=>none
 | _=>none
def readG (P:Program)(fr:Tr)(hp:Q1a)(o:Oper):Option (SV×Option Nat):=match readC P fr hp o.op with
 | some r=>some r
 | none=>match strC P fr o.op with
   | some v=>some (v,none)
   | none=>match genC P fr o with
     | some v=>some (v,none)
     | none=>none
section
variable {P:Program} {n:FD} {ρ:Env} {E:List Value} {fr:Tr} {hp:Q1a} {S:List (Nat × Value)} {H:List Fact}
theorem Q9N (h:Rel ρ E fr hp S H) {x:Operand} {y:Value} (hx:Qcq fr x=some y):evS S x=some y:=by
 unfold Qcq at hx
 split at hx
 ·rename_i v hv
  obtain ⟨z,h1,h2⟩:=Q1r h hv
  rw [SV.close_den v y hx] at h1
  cases h1;exact h2
 · cases hx
theorem genC_spec (h:Rel ρ E fr hp S H) {o:Oper} {v:SV} (he:genC P fr o=some v):ReadOk P n ρ E hp S H o v none:=by
 unfold genC at he
 split at he
 ·rename_i hb
  simp only [Bool.and_eq_true,List.all_eq_true,Bool.not_eq_true'] at hb
  split at he
  ·rename_i y hy
   cases he
   refine Q5Y (SV.ofT_den y) fun a w hf=>?_
   have hc:execOp a.eval o=execOp (valO fr) o:=execOp_congr o (fun cs b e=>by rw [e] at hb;exact absurd hb.2 (by simp [isSelect])) (fun x hx=>by
    have h1:=hb.1 x (by simpa using hx)
    obtain ⟨z,hz⟩:=Option.isSome_iff_exists.1 h1
    rw [hf.eval (Q9N h hz)]
    simp [valO,hz])
   rw [hc]
   exact Q4D hy w
  · cases he
 · cases he
theorem strC_spec (h:Rel ρ E fr hp S H) {o:Oper} {v:SV} (he:strC P fr o.op=some v):ReadOk P n ρ E hp S H o v none:=by
 unfold strC at he
 split at he
 ·rename_i op t x y u ho
  split at he
  ·rename_i a b hx hy
   split at he <;> first | (cases he;done) | (
    cases he
    exact Q5Y rfl (Q8X ho (Q5L h hx) (Q5L h hy) fun w=>by simp [eqGuard,binOp,Op.stringOp,ByteArray.toList_eq]))
  · cases he
 ·rename_i t x i ho
  split at he
  ·rename_i g off ik j m e hx hi ht
   split at he
   ·rename_i sz hs hj
    cases he
    obtain ⟨y,h1,h2⟩:=Q1r h hx
    simp only [SV.den,Option.map_eq_some_iff] at h1
    obtain ⟨en,h3,rfl⟩:=h1
    have hi':=Q5L h hi
    have hlt:j < m:=Nat.le_of_ble_eq_true hj
    refine Q5Y (x:=.pointer (some ⟨en.1,en.2.2+off+j * sz,none⟩)) (by simp [SV.den,h3,Nat.add_assoc]) fun a w hf=>?_
    simp [execOp,ho,hf.eval h2,hf.eval hi',Instr.indexAt,asIntOf,Instr.sureAddr,run_underlying (tArr_run ht),hlt,Q3f hs,Q4R]
   · cases he
  · cases he
 · cases he
theorem readG_spec (h:Rel ρ E fr hp S H) {o:Oper} {v:SV} {d:Option Nat} (he:readG P fr hp o=some (v,d)):ReadOk P n ρ E hp S H o v d:=by
 unfold readG at he
 split at he
 ·rename_i r hr
  cases he
  exact readC_spec h hr
 ·split at he
  ·rename_i v' hv
   cases he
   exact strC_spec h hv
  ·split at he
   ·rename_i v' hv
    cases he
    exact genC_spec h hv
   · cases he
end
end
end Go.Proofs.YtbgodclhmgmcgaaGreatDoor
namespace Go.Proofs.YtbgodclhmgmcgaaGreatDoor
open Go.RowKit
noncomputable section
def tMap (P:Program)(t:Nat):Option (Nat×Nat×TypeDesc):=match P.underlying t with
 | some (.map k e)=>match P.underlying k with
   | some d=>some (k,e,d)
   | none=>none
 | _=>none
theorem QaE {P:Program} {t k e:Nat} {d:TypeDesc} (h:tMap P t=some (k,e,d)):P.underlying t=some (.map k e)∧P.underlying k=some d:=by
 unfold tMap at h
 split at h
 ·rename_i hu
  split at h
  · rename_i hk;cases h;exact ⟨hu,hk⟩
  · cases h
 · cases h
def Q9z:TypeDesc→Bool
 | .int _=>true
 | .string=>true
 | .bool=>true
 | _=>false
def hitC (P:Program)(kt:Nat)(d:TypeDesc)(k y:Value):Option Bool:=match Q9z d with
 | true=>Instr.sameNow d k y
 | false=>Q9X P (Op.equal kt k y)
def QaP (P:Program)(kt:Nat)(d:TypeDesc)(k:Value):List (SV×SV×Nat)→Nat→Option (Option (Nat×SV×Nat))
 | [],_=>some none
 | (kk,v,b) :: r,i=>match closeV kk with
   | some y=>match hitC P kt d k y with
     | some true=>some (some (i,v,b))
     | some false=>QaP P kt d k r (i+1)
     | none=>none
   | none=>none
section
variable {P:Program} {ρ:Env} {E:List Value}
theorem sameNow_none {d:TypeDesc} (h:Q9z d=false)(a b:Value):Instr.sameNow d a b=none:=by
 unfold Instr.sameNow
 split <;> first | rfl | (simp [Q9z] at h)
def FoundD (ρ:Env)(E:List Value):Option (Nat×SV×Nat)→Option (Nat×Value)→Prop
 | none,none=>True
 | some (i,v,_),some (j,x)=>i=j∧v.den ρ E=some x
 | _,_=>False
theorem mpFind_now {kt:Nat} {d:TypeDesc} {k:Value} (hs:Q9z d=true) : ∀ {es:List (SV×SV×Nat)} {es' : List MapEntry} {i:Nat} {r:Option (Nat×SV×Nat)},Q3Z ρ E es es' →QaP P kt d k es i=some r→∃ r',FoundD ρ E r r' ∧Instr.findNow d k es' i=some r'
 | [],[],i,r,_,h=>by cases h;exact ⟨none,trivial,rfl⟩
 | (kk,v,b) :: s,e :: es',i,r,hd,h=>by
   obtain ⟨h1,h2,h3,h4⟩:=hd
   unfold QaP at h
   split at h
   ·rename_i y hy
    rw [SV.close_den kk y hy] at h1
    cases h1
    simp only [hitC,hs] at h
    unfold Instr.findNow
    split at h
    ·rename_i hh
     cases h
     rw [hh]
     exact ⟨some (i,e.val),⟨rfl,h2⟩,rfl⟩
    ·rename_i hh
     rw [hh]
     exact mpFind_now hs h4 h
    · cases h
   · cases h
 | [],_ :: _,_,_,hd,_=>hd.elim
 | _ :: _,[],_,_,hd,_=>hd.elim
theorem mpFind_ask {kt:Nat} {d:TypeDesc} {k:Value} (hs:Q9z d=false) : ∀ {es:List (SV×SV×Nat)} {es' : List MapEntry} {i:Nat} {r:Option (Nat×SV×Nat)},Q3Z ρ E es es' →QaP P kt d k es i=some r→∃ r',FoundD ρ E r r' ∧∀ w,(Instr.findAsking kt k es' i).run P w=.ok r' w
 | [],[],i,r,_,h=>by cases h;exact ⟨none,trivial,fun w=>by simp [Instr.findAsking]⟩
 | (kk,v,b) :: s,e :: es',i,r,hd,h=>by
   obtain ⟨h1,h2,h3,h4⟩:=hd
   unfold QaP at h
   split at h
   ·rename_i y hy
    rw [SV.close_den kk y hy] at h1
    cases h1
    simp only [hitC,hs] at h
    split at h
    ·rename_i hh
     cases h
     refine ⟨some (i,e.val),⟨rfl,h2⟩,fun w=>?_⟩
     unfold Instr.findAsking
     simp [Q4D hh w]
    ·rename_i hh
     obtain ⟨r',h5,h6⟩:=mpFind_ask hs h4 h
     refine ⟨r',h5,fun w=>?_⟩
     unfold Instr.findAsking
     simp [Q4D hh w,h6 w]
    · cases h
   · cases h
 | [],_ :: _,_,_,hd,_=>hd.elim
 | _ :: _,[],_,_,hd,_=>hd.elim
theorem findNow_none {d:TypeDesc} (h:Q9z d=false)(k:Value) : ∀ (es:List MapEntry)(i:Nat),Instr.findNow d k es i=none∨es=[]
 | [],_=>.inr rfl
 | e :: es,i=>.inl (by unfold Instr.findNow;rw [sameNow_none h])
theorem Q89 {kt:Nat} {d:TypeDesc} {k:Value} {es:List (SV×SV×Nat)} {es' : List MapEntry} {r:Option (Nat×SV×Nat)} (hk:P.underlying kt=some d)(hd:Q3Z ρ E es es')(h:QaP P kt d k es 0=some r) :
   ∃ r',FoundD ρ E r r' ∧∀ w,(Instr.findKey kt k es').run P w=.ok r' w:=by
 cases hs:Q9z d with
 | true =>
   obtain ⟨r',h1,h2⟩:=mpFind_now hs hd h
   exact ⟨r',h1,fun w=>by simp [Instr.findKey,run_underlying hk,h2]⟩
 | false =>
   obtain ⟨r',h1,h2⟩:=mpFind_ask hs hd h
   refine ⟨r',h1,fun w=>?_⟩
   rcases findNow_none hs k es' 0 with h3 | h3
   · simp [Instr.findKey,run_underlying hk,h3,h2 w]
   ·subst h3
    have h4:=h2 w
    have h5:Instr.findNow d k [] 0=some none:=rfl
    simp [Instr.findAsking] at h4
    simp [Instr.findKey,run_underlying hk,h5,h4]
theorem Q3Z.len : ∀ {l:List (SV×SV×Nat)} {m:List MapEntry},Q3Z ρ E l m→m.length=l.length
 | [],[],_=>rfl
 | (_,_,_) :: _,_ :: _,hd=>by simp [Q3Z.len hd.2.2.2]
 | [],_ :: _,hd=>hd.elim
 | _ :: _,[],hd=>hd.elim
end
def rm_lookup (P:Program)(fr:Tr)(hp:Q1a)(t:Nat)(m:Operand)(i:Operand)(c:Bool):Option (SV×Option Nat):=match tMap P t,evC fr m,Qcq fr i with
 | some (k,e,d),some (.mp g),some key=>match hget hp g,Q4P P e with
   | some (.mp es _),some z=>match Q9X P (Instr.checkKey es.isEmpty 10000 k key),QaP P k d key es 0 with
     | some _,some (some (_,v,_))=>some (if c then .tup [v,.v (.bool true)] else v,some g)
     | some _,some none=>some (if c then .tup [SV.of z,.v (.bool false)] else SV.of z,some g)
     | _,_=>none
   | _,_=>none
 | _,_,_=>none
def rm_binOp (P:Program)(fr:Tr)(hp:Q1a)(op:BinOp)(t:Nat)(x:Operand)(y:Operand):Option (SV×Option Nat):=match evC fr x,evC fr y,tMap P t with
 | some (.mp _),some (.v (.map none)),some _=>match op with
   | .eql=>some (.v (.bool false),none)
   | .neq=>some (.v (.bool true),none)
   | _=>none
 | _,_,_=>none
def rm_len (P:Program)(fr:Tr)(hp:Q1a)(xs:Array Operand)(ts:Array Nat):Option (SV×Option Nat):=match xs.toList,ts.toList with
 | [x],[t]=>match evC fr x,tMap P t with
   | some (.mp g),some _=>match hget hp g with
     | some (.mp es _)=>some (.v (.int .i64 (.ofNat es.length)),some g)
     | _=>none
   | _,_=>none
 | _,_=>none
def readMC (P:Program)(fr:Tr)(hp:Q1a):Op→Option (SV×Option Nat)
 | .lookup t m i c=>rm_lookup P fr hp t m i c
 | .binOp op t x y _=>rm_binOp P fr hp op t x y
 | .call { callee:=.builtin .len,args:=xs,argTypes:=ts }=>rm_len P fr hp xs ts
 | _=>none
section
variable {P:Program} {n:FD} {ρ:Env} {E:List Value} {fr:Tr} {hp:Q1a} {S:List (Nat × Value)} {H:List Fact}
theorem mp_obj {g:Nat} {es:List (SV×SV×Nat)} {c:Nat} {φ:Fact} (h:(HO.mp es c).isFact ρ E g φ) : ∃ b c1 es',ρ g=some (b,c1,0)∧Q3Z ρ E es es' ∧∀ N F w,φ.op N F w→w.heap[b]? =some (.map es'.toArray c):=by
 obtain ⟨b,c1,es',h1,h2,rfl⟩:=h
 exact ⟨b,c1,es',h1,h2,fun N F w hop=>hop.2⟩
theorem Q7G {b:Nat} {es:Array MapEntry} {c:Nat} {w:World} (h:w.heap[b]? =some (.map es c)):(getObj b).run P w=.ok (.map es c) w:=by
 simp [getObj,Sem.run,h]
theorem mapNil_run {t k e:Nat} {d:TypeDesc} (ht:tMap P t=some (k,e,d))(x y:Operand)(b:Nat)(w:World) :
  (do eqGuard .eql t x y (.map (some b)) (.map none);binOp .eql t (.map (some b)) (.map none):Sem Value).run P w=.ok (.bool false) w∧(do eqGuard .neq t x y (.map (some b)) (.map none);binOp .neq t (.map (some b)) (.map none):Sem Value).run P w=.ok (.bool true) w:=by
 have hu:=(QaE ht).1
 have h1 : ∀ n,(Op.equalIn (n+1) t (.map (some b)) (.map none)).run P w=.ok false w:=fun n=>by simp [Op.equalIn,run_underlying hu]
 constructor
 ·rw [Sem.run_bind,show (eqGuard .eql t x y (.map (some b)) (.map none)).run P w=.ok () w from rfl,Result.andThen_ok]
  simp [binOp,Op.equal,Op.maxDepth,h1 9999]
 ·rw [Sem.run_bind,show (eqGuard .neq t x y (.map (some b)) (.map none)).run P w=.ok () w from rfl,Result.andThen_ok]
  simp [binOp,Op.equal,Op.maxDepth,h1 9999]
theorem readMC_spec (h:Rel ρ E fr hp S H) {o:Oper} {v:SV} {d:Option Nat} (he:readMC P fr hp o.op = some (v,d)):ReadOk P n ρ E hp S H o v d:=by
 unfold readMC at he
 split at he
 ·
  rename_i t m i c ho
  unfold rm_lookup at he
  split at he
  ·rename_i k e dd g key ht hm hi
   split at he
   ·rename_i es clock z hg hz
    obtain ⟨hu,hk⟩:=QaE ht
    obtain ⟨q,φ,k1,k2,_,_⟩:=Q2L h.hp hg
    obtain ⟨b,c1,es',k3,k4,k5⟩:=mp_obj k2
    obtain ⟨y,h1,h2⟩:=Q1r h hm
    simp only [SV.den,k3,Option.map_some,Option.some.injEq] at h1
    subst h1
    have h3:=Q9N h hi
    have hemp:es'.isEmpty=es.isEmpty:=by
     have:=k4.len
     cases es <;> cases es' <;> simp_all
    split at he
    ·rename_i u v1 _ hck hfd
     cases he
     obtain ⟨r',f1,f2⟩:=Q89 hk k4 hfd
     obtain ⟨j,x⟩ | _:=r'
     · exact f1.elim
     · rename_i jx
       obtain ⟨j,x⟩:=jx
       obtain ⟨_,hx⟩:=f1
       refine ⟨if c then .tuple #[x,.bool true] else x,[φ],[q],?_,QcZ k1,(fun e=>by cases e),(fun g' e=>by cases e;exact ⟨_,φ,hg,k2,rfl⟩),fun a w hf hw=>?_⟩
       ·cases c
        · simpa using hx
        · simp [SV.den,SV.dens,hx]
       ·obtain ⟨N,F,hop⟩:=hw.2 φ (by simp)
        have hgo:=Q7G (P:=P) (k5 N F w hop)
        have hck':=Q4D hck w
        simp [execOp,ho,hf.eval h2,hf.eval h3,Instr.lookup,run_underlying hu,hgo,hemp,hck',f2 w]
    ·rename_i u hck hfd
     cases he
     obtain ⟨r',f1,f2⟩:=Q89 hk k4 hfd
     cases r' with
     | some x=>exact f1.elim
     | none =>
       refine ⟨if c then .tuple #[z,.bool false] else z,[φ],[q],?_,QcZ k1,(fun e=>by cases e),(fun g' e=>by cases e;exact ⟨_,φ,hg,k2,rfl⟩),fun a w hf hw=>?_⟩
       ·cases c
        · simpa using SV.of_den z
        · simp [SV.den,SV.dens,SV.of_den z]
       ·obtain ⟨N,F,hop⟩:=hw.2 φ (by simp)
        have hgo:=Q7G (P:=P) (k5 N F w hop)
        have hck':=Q4D hck w
        simp [execOp,ho,hf.eval h2,hf.eval h3,Instr.lookup,run_underlying hu,hgo,hemp,hck',f2 w,Q9E hz]
    · cases he
   · cases he
  · cases he
 ·
  rename_i op t x y u ho
  unfold rm_binOp at he
  split at he
  ·rename_i g r hx hy ht
   obtain ⟨k,e,dd⟩:=r
   obtain ⟨y',h1,h2⟩:=Q1r h hx
   simp only [SV.den,Option.map_eq_some_iff] at h1
   obtain ⟨en,h3,rfl⟩:=h1
   split at he
   ·cases he
    exact Q5Y rfl (Q8X ho h2 (Q5L h hy) fun w=>(mapNil_run ht _ _ _ w).1)
   ·cases he
    exact Q5Y rfl (Q8X ho h2 (Q5L h hy) fun w=>(mapNil_run ht _ _ _ w).2)
   · cases he
  · cases he
 ·
  rename_i xs ts ho
  unfold rm_len at he
  split at he
  ·rename_i x t hxs hts
   have hxs' : xs=#[x]:=by cases xs;simp_all
   have hts' : ts=#[t]:=by cases ts;simp_all
   subst hxs';subst hts'
   split at he
   ·rename_i g r hx ht
    obtain ⟨k,e,dd⟩:=r
    split at he
    ·rename_i es clock hg
     cases he
     obtain ⟨q,φ,k1,k2,_,_⟩:=Q2L h.hp hg
     obtain ⟨b,c1,es',k3,k4,k5⟩:=mp_obj k2
     obtain ⟨y,h1,h2⟩:=Q1r h hx
     simp only [SV.den,k3,Option.map_some,Option.some.injEq] at h1
     subst h1
     refine ⟨.int .i64 (es'.length:Int),[φ],[q],by simp [SV.den,k4.len],QcZ k1,(fun e=>by cases e),(fun g' e=>by cases e;exact ⟨_,φ,hg,k2,rfl⟩),fun a w hf hw=>?_⟩
     obtain ⟨N,F,hop⟩:=hw.2 φ (by simp)
     have hgo:=Q7G (P:=P) (k5 N F w hop)
     simp [execOp,ho,resolve,invoke,builtin,Builtin.len_,hf.eval h2,run_underlying (QaE ht).1,hgo,goInt]
    · cases he
   · cases he
  · cases he
 · cases he
end
end
end Go.Proofs.YtbgodclhmgmcgaaGreatDoor
