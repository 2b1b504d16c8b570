import Derived.Test.YtbgodclhmgmcgaaGreatDoorCe
import Derived.Test.YtbgodclhmgmcgaaGreatDoorPtr
namespace Go.Proofs.YtbgodclhmgmcgaaGreatDoor
open Go.RowKit
noncomputable section
def evC (fr:Tr):Operand→Option SV
 | .tmp t=>fr.get t
 | .const v=>some (SV.of v)
 | .func f=>some (.fn f [] [])
 | .global _=>none
def evCL (fr:Tr):List Operand→Option (List SV)
 | []=>some []
 | x :: l=>match evC fr x,evCL fr l with
   | some v,some vs=>some (v :: vs)
   | _,_=>none
def wantC (ops:Array Oper)(fr:Tr)(o:Oper):Option Bool :=
 match o.guard with
 | none=>some true
 | some (j,want)=>match (ops[j]?).bind (·.dst) with
   | some d=>match fr.get d with
     | some (.v (.bool true))=>some want
     | some (.v (.bool false))=>some (!want)
     | some (.v (.tuple _))=>some false
     | _=>none
   | none=>none
section ev
variable {ρ:Env} {E:List Value} {fr:Tr} {hp:Q1a} {S:List (Nat × Value)} {H:List Fact}
theorem Q1r (h:Rel ρ E fr hp S H) {o:Operand} {v:SV} (he:evC fr o=some v) : ∃ x,v.den ρ E=some x∧evS S o=some x:=by
 cases o with
 | tmp t=>exact h.fr t v he
 | const c=>cases he;exact ⟨c,SV.of_den c,rfl⟩
 | func f=>cases he;exact ⟨_,rfl,rfl⟩
 | global g=>cases he
theorem Q5L (h:Rel ρ E fr hp S H) {o:Operand} {x:Value} (he:evC fr o=some (.v x)):evS S o=some x:=by
 obtain ⟨y,h1,h2⟩:=Q1r h he;cases h1;exact h2
theorem Qek (h:Rel ρ E fr hp S H) : ∀ {l:List Operand} {vs:List SV},evCL fr l=some vs→∃ xs,SV.dens ρ E vs=some xs∧evL S l=some xs
 | [],vs,he=>by cases he;exact ⟨[],rfl,rfl⟩
 | x :: l,vs,he=>by
   unfold evCL at he
   split at he
   ·rename_i v vs' h1 h2
    cases he
    obtain ⟨y,h3,h4⟩:=Q1r h h1
    obtain ⟨ys,h5,h6⟩:=Qek h h2
    exact ⟨y :: ys,Q2B h3 h5,by simp only [evL,h4,h6]⟩
   · cases he
theorem QdG (h:Rel ρ E fr hp S H) {ops:Array Oper} {o:Oper} {b:Bool} (hw:wantC ops fr o=some b):Q18 ops S o=some b:=by
 unfold wantC at hw
 unfold Q18
 rcases hg:o.guard with _ | ⟨j,want⟩
 · simpa [hg] using hw
 ·simp only [hg] at hw ⊢
  rcases hd:(ops[j]?).bind (·.dst) with _ | d
  · simp [hd] at hw
  ·simp only [hd] at hw ⊢
   split at hw
   ·rename_i hv
    obtain ⟨x,h1,h2⟩:=h.fr _ _ hv
    cases h1;simpa only [h2] using hw
   ·rename_i hv
    obtain ⟨x,h1,h2⟩:=h.fr _ _ hv
    cases h1;simpa only [h2] using hw
   ·rename_i hv
    obtain ⟨x,h1,h2⟩:=h.fr _ _ hv
    cases h1;simpa only [h2] using hw
   · cases hw
end ev
def pureC (fr:Tr):Op→Option SV
 | .move x=>evC fr x
 | .assign x=>evC fr x
 | .pick c a b=>match evC fr c with
   | some (.v (.bool true))=>evC fr a
   | some (.v (.bool false))=>evC fr b
   | _=>none
 | .binOp op _ x y _=>match evC fr x,evC fr y with
   | some (.v a),some (.v b)=>match binV op (some a) (some b) with
     | some r=>some (.v r)
     | none=>none
   | _,_=>none
 | .unOp .not _ x=>match evC fr x with
   | some (.v (.bool b))=>some (.v (.bool (!b)))
   | _=>none
 | .extract x i=>match evC fr x with
   | some (.tup vs)=>vs[i]?
   | _=>none
 | .nilCheck x=>match evC fr x with
   | some (.ptr g o)=>some (.ptr g o)
   | _=>none
 | _=>none
section pure
variable {ρ:Env} {E:List Value} {fr:Tr} {hp:Q1a} {S:List (Nat × Value)} {H:List Fact}
theorem pureC_spec (h:Rel ρ E fr hp S H) {op:Op} {v:SV} (he:pureC fr op=some v) : ∃ x,v.den ρ E=some x∧Q8T S op=some x:=by
 unfold pureC at he
 split at he
 · exact Q1r h he
 · exact Q1r h he
 ·rename_i c a b
  split at he
  ·rename_i hc
   obtain ⟨x,h1,h2⟩:=Q1r h he
   exact ⟨x,h1,by simp only [Q8T,Q5L h hc,h2]⟩
  ·rename_i hc
   obtain ⟨x,h1,h2⟩:=Q1r h he
   exact ⟨x,h1,by simp only [Q8T,Q5L h hc,h2]⟩
  · cases he
 ·rename_i op t x y u
  split at he
  ·rename_i a b ha hb
   split at he
   ·rename_i r hr
    cases he
    exact ⟨r,rfl,by simp only [Q8T,Q5L h ha,Q5L h hb,hr]⟩
   · cases he
  · cases he
 ·rename_i t x
  split at he
  ·rename_i b hb
   cases he
   exact ⟨_,rfl,by simp only [Q8T,Q5L h hb]⟩
  · cases he
 ·rename_i x i
  split at he
  ·rename_i vs hx
   obtain ⟨y,h1,h2⟩:=Q1r h hx
   simp only [SV.den,Option.map_eq_some_iff] at h1
   obtain ⟨ws,h3,rfl⟩:=h1
   obtain ⟨z,h4,h5⟩:=dens_get h3 he
   exact ⟨z,h5,by simp only [Q8T,h2];simpa using h4⟩
  · cases he
 ·rename_i x
  split at he
  ·rename_i g o hx
   cases he
   obtain ⟨y,h1,h2⟩:=Q1r h hx
   refine ⟨y,h1,?_⟩
   simp only [SV.den,Option.map_eq_some_iff] at h1
   obtain ⟨e,_,rfl⟩:=h1
   simp only [Q8T,h2]
  · cases he
 · cases he
end pure
def evCP (fr:Tr):List (Nat×Operand)→Option (List (Nat×SV))
 | []=>some []
 | (i,x) :: l=>match evC fr x,evCP fr l with
   | some v,some vs=>some ((i,v) :: vs)
   | _,_=>none
def putC (all:List SV)(j:Nat)(cs:List SV):List SV:=all.take j++cs++all.drop (j+cs.length)
def fillC (place:Nat→Option (Nat×Nat)):List SV→List (Nat×SV)→Option (List SV)
 | cs,[]=>some cs
 | cs,(i,v) :: r=>match place i with
   | none=>none
   | some (off,sz)=>match Nat.beq v.cells.length sz && Nat.ble (off + sz) cs.length && !v.isOpq with
     | true=>fillC place (putC cs off v.cells) r
     | false=>none
section fill
variable {ρ:Env} {E:List Value} {fr:Tr} {hp:Q1a} {S:List (Nat × Value)} {H:List Fact}
theorem dens_put {all cs:List SV} {as xs:List Value} (j:Nat)(h:SV.dens ρ E all=some as)(k:SV.dens ρ E cs=some xs):SV.dens ρ E (putC all j cs)=some (putL as j xs):=by
 unfold putC putL
 rw [Q4s k]
 exact Q7p (Q7p (Qej j h) k) (Qei _ h)
def PartsD (ρ:Env)(E:List Value):List (Nat×SV)→List (Nat×Value)→Prop
 | [],[]=>True
 | (i,v) :: r,(j,x) :: s=>i=j∧v.den ρ E=some x∧PartsD ρ E r s
 | _,_=>False
theorem evCP_spec (h:Rel ρ E fr hp S H) : ∀ {l:List (Nat×Operand)} {vs:List (Nat×SV)},evCP fr l=some vs→∃ xs,PartsD ρ E vs xs∧evP S l=some xs
 | [],vs,he=>by cases he;exact ⟨[],trivial,rfl⟩
 | (i,x) :: l,vs,he=>by
   unfold evCP at he
   split at he
   ·rename_i v vs' h1 h2
    cases he
    obtain ⟨y,h3,h4⟩:=Q1r h h1
    obtain ⟨ys,h5,h6⟩:=evCP_spec h h2
    exact ⟨(i,y) :: ys,⟨rfl,h3,h5⟩,by simp only [evP,h4,h6]⟩
   · cases he
theorem not_opq {v:SV} (h:(!v.isOpq)=true) : ∀ i,v≠.opq i:=fun i e=>by subst e;cases h
theorem fillC_spec {place:Nat→Option (Nat×Nat)} : ∀ {parts:List (Nat×SV)} {xs:List (Nat×Value)} {cs out:List SV} {as:List Value},SV.dens ρ E cs=some as→PartsD ρ E parts xs→fillC place cs parts=some out→∃ os,SV.dens ρ E out=some os∧fillG place as xs=some os
 | [],[],cs,out,as,h,_,hf=>by cases hf;exact ⟨as,h,rfl⟩
 | (i,v) :: r,(j,x) :: s,cs,out,as,h,hp,hf=>by
   obtain ⟨rfl,hv,hr⟩:=hp
   unfold fillC at hf
   unfold fillG
   split at hf
   · cases hf
   ·rename_i off sz hpl
    split at hf
    ·rename_i hb
     simp only [Bool.and_eq_true] at hb
     have hc:=SV.cells_den hv (not_opq hb.2)
     have hlen:=Q4s hc
     obtain ⟨os,h1,h2⟩:=fillC_spec (dens_put off h hc) hr hf
     refine ⟨os,h1,?_⟩
     have e1:Nat.beq x.cells.size sz=true:=by
      have:=hb.1.1;rw [← hlen,Array.length_toList] at this;exact this
     have e2:Nat.ble (off+sz) as.length=true:=by rw [Q4s h];exact hb.1.2
     simp only [hpl,e1,e2,Bool.and_true]
     exact h2
    · cases hf
 | [],_ :: _,_,_,_,_,hp,_=>hp.elim
 | _ :: _,[],_,_,_,_,hp,_=>hp.elim
end fill
def rd_fieldAddr (P:Program)(fr:Tr)(hp:Q1a)(t:Nat)(x:Operand)(k:Nat):Option (SV×Option Nat):=match evC fr x,Q1H P t k with
 | some (.ptr g o),some f=>some (.ptr g (o+f),none)
 | _,_=>none
def rd_load (P:Program)(fr:Tr)(hp:Q1a)(t:Nat)(x:Operand):Option (SV×Option Nat):=match evC fr x with
 | some (.ptr g o)=>match hget hp g,Q1m P t,Q58 P t with
   | some ob,some sz,some ag=>match ob.cs with
     | some cs=>match ag with
       | true=>match Nat.beq ((cs.drop o).take sz).length sz with
         | true=>some (.agg ((cs.drop o).take sz),some g)
         | false=>none
       | false=>match Nat.beq sz 1,(cs.drop o).take sz with
         | true,[c]=>some (c,some g)
         | _,_=>none
     | none=>none
   | _,_,_=>none
 | _=>none
def rd_indexAddr (P:Program)(fr:Tr)(hp:Q1a)(t:Nat)(x:Operand)(i:Operand):Option (SV×Option Nat):=match evC fr x,evC fr i,Q2d P t with
 | some (.sl g off len _ _),some (.v (.int _ (.ofNat j))),some e=>match Q1m P e,Nat.blt j len with
   | some sz,true=>some (.ptr g (off+j * sz),none)
   | _,_=>none
 | _,_,_=>none
def rd_makeFunc (P:Program)(fr:Tr)(hp:Q1a)(f:Nat)(fi:Array Operand)(xs:Array Operand):Option (SV×Option Nat):=match evCL fr fi.toList,evCL fr xs.toList with
 | some us,some vs=>some (.fn f us vs,none)
 | _,_=>none
def rd_binOp (P:Program)(fr:Tr)(hp:Q1a)(op:BinOp)(t:Nat)(x:Operand)(y:Operand):Option (SV×Option Nat):=match evC fr x,evC fr y with
 | some (.v (.int k a)),some (.v (.int k' b))=>match ikEq k k' && !decide (b = 0),op with
   | true,.quo=>some (.v (.int k (k.wrap (a.tdiv b))),none)
   | true,.rem=>some (.v (.int k (a.tmod b)),none)
   | _,_=>none
 | some (.sl _ _ _ _ _),some (.v (.slice none _ _))=>match Q2d P t,op with
   | some _,.eql=>some (.v (.bool false),none)
   | some _,.neq=>some (.v (.bool true),none)
   | _,_=>none
 | some (.v (.slice none _ _)),some (.v (.slice none _ _))=>match Q2d P t,op with
   | some _,.eql=>some (.v (.bool true),none)
   | some _,.neq=>some (.v (.bool false),none)
   | _,_=>none
 | some (.ptr _ _),some (.v (.pointer none))=>match tPtr P t,op with
   | some _,.eql=>some (.v (.bool false),none)
   | some _,.neq=>some (.v (.bool true),none)
   | _,_=>none
 | some (.v (.pointer none)),some (.v (.pointer none))=>match tPtr P t,op with
   | some _,.eql=>some (.v (.bool true),none)
   | some _,.neq=>some (.v (.bool false),none)
   | _,_=>none
 | _,_=>none
def rd_len (P:Program)(fr:Tr)(hp:Q1a)(xs:Array Operand)(ts:Array Nat):Option (SV×Option Nat):=match xs.toList,ts.toList with
 | [x],[t]=>match evC fr x with
   | some (.sl _ _ len _ _)=>match Q2d P t with
     | some _=>some (.v (.int .i64 (.ofNat len)),none)
     | none=>none
   | some (.v (.slice none len _))=>match Q2d P t with
     | some _=>some (.v (.int .i64 (.ofNat len)),none)
     | none=>none
   | _=>none
 | _,_=>none
def rd_build (P:Program)(fr:Tr)(hp:Q1a)(t:Nat)(ps:Array (Nat×Operand)):Option (SV×Option Nat):=match evCP fr ps.toList,Q4P P t,Q62 P t with
 | some parts,some z,some pl=>match fillC (Qd0 pl) (SV.of z).cells parts with
   | some out=>some (.agg out,none)
   | none=>none
 | _,_,_=>none
def readC (P:Program)(fr:Tr)(hp:Q1a):Op→Option (SV×Option Nat)
 | .fieldAddr t x k=>rd_fieldAddr P fr hp t x k
 | .load t x=>rd_load P fr hp t x
 | .indexAddr t x i=>rd_indexAddr P fr hp t x i
 | .makeFunc (.func f) fi xs=>rd_makeFunc P fr hp f fi xs
 | .binOp op t x y _=>rd_binOp P fr hp op t x y
 | .call { callee:=.builtin .len,args:=xs,argTypes:=ts }=>rd_len P fr hp xs ts
 | .build t ps=>rd_build P fr hp t ps
 | _=>none
section read
variable {P:Program} {n:FD} {ρ:Env} {E:List Value} {fr:Tr} {hp:Q1a} {S:List (Nat × Value)} {H:List Fact}
def ReadOk (P:Program)(n:FD)(ρ:Env)(E:List Value)(hp:Q1a)(S:List (Nat×Value))(H:List Fact)(o:Oper)(v:SV)(d:Option Nat):Prop :=
 ∃ x B m,v.den ρ E = some x ∧ Q1d H m = B ∧ (d = none → B = []) ∧ (∀ g,d = some g → ∃ ob φ,hget hp g = some ob ∧ ob.isFact ρ E g φ ∧ B = [φ]) ∧
   ∀ a w,Frm n S a→DepW [] B w→(execOp a.eval o).run P w=.ok (.value x) w
theorem Q5Y {o:Oper} {v:SV} {x:Value} (hv:v.den ρ E=some x)(h : ∀ a w,Frm n S a→(execOp a.eval o).run P w=.ok (.value x) w):ReadOk P n ρ E hp S H o v none :=
 ⟨x,[],[],hv,rfl,(fun _=>rfl),(fun _ h=>by cases h),fun a w hf _=>h a w hf⟩
theorem dens_agg {l:List SV} {vs:List Value} (h:SV.dens ρ E l=some vs):(SV.agg l).den ρ E=some (.agg vs.toArray):=by simp [SV.den,h]
theorem QcZ {k:Nat} {φ:Fact} (h:H[k]? =some φ):Q1d H [k]=[φ]:=by simp [Q1d,h]
theorem Q8X {o:Oper} {op:BinOp} {t u:TypeId} {x y:Operand} {a b v:Value} (ho:o.op=.binOp op t x y u)(hx:evS S x=some a)(hy:evS S y=some b)(hr : ∀ w,(do eqGuard op t x y a b;binOp op t a b:Sem Value).run P w=.ok v w) :
  ∀ (a' : Act) w,Frm n S a' →(execOp a'.eval o).run P w=.ok (.value v) w:=fun a' w hf=>by
 have h1:=hr w
 unfold execOp
 simp only [ho,hf.eval hx,hf.eval hy]
 rw [Sem.run_bind,h1];rfl
theorem Qdu {t e:Nat} (ht:tPtr P t=some e)(op:BinOp)(x y:Operand)(a:Option Addr)(w:World):(op=.eql→(do eqGuard op t x y (.pointer a) (.pointer none);binOp op t (.pointer a) (.pointer none):Sem Value).run P w=.ok (.bool a.isNone) w)∧
  (op=.neq→(do eqGuard op t x y (.pointer a) (.pointer none);binOp op t (.pointer a) (.pointer none):Sem Value).run P w=.ok (.bool (!a.isNone)) w) :=
 ⟨fun e=>by subst e;exact eqlP ht x y a w,fun e=>by subst e;exact neqP ht x y a w⟩
theorem readC_spec (h:Rel ρ E fr hp S H) {o:Oper} {v:SV} {d:Option Nat} (he:readC P fr hp o.op=some (v,d)):ReadOk P n ρ E hp S H o v d:=by
 unfold readC at he
 split at he
 ·
  rename_i t x k ho
  unfold rd_fieldAddr at he
  split at he
  ·rename_i g q f hx hk
   cases he
   obtain ⟨y,h1,h2⟩:=Q1r h hx
   simp only [SV.den,Option.map_eq_some_iff] at h1
   obtain ⟨e,h3,rfl⟩:=h1
   refine Q5Y (x:=.pointer (some ⟨e.1,e.2.2+q+f,none⟩)) (by simp [SV.den,h3,Nat.add_assoc]) fun a w hf=>?_
   simp [execOp,ho,hf.eval h2,fldOff_run hk]
  · cases he
 ·
  rename_i t x ho
  unfold rd_load at he
  split at he
  ·rename_i g q hx
   split at he
   ·rename_i ob sz ag hg hs ha
    split at he
    ·rename_i cs hc
     obtain ⟨y,h1,h2⟩:=Q1r h hx
     obtain ⟨k,φ,h3,h4,_,_⟩:=Q2L h.hp hg
     obtain ⟨b,c,vs,h5,h6,h7⟩:=HO.cells_at h4 hc
     simp only [SV.den,h5,Option.map_some,Option.some.injEq] at h1
     subst h1
     have hcell : ∀ w,DepW [] [φ] w→Q3D w b q ((vs.drop q).take sz):=fun w hw=>by
      obtain ⟨N,F,h8⟩:=hw.2 φ (by simp)
      have:=Qeo (j:=q) (h7 N F w h8) rfl (sz:=sz)
      rwa [Nat.zero_add] at this
     have hd:=Qej (ρ:=ρ) (E:=E) sz (Qei q h6)
     split at he
     ·split at he
      ·rename_i hb
       cases he
       refine ⟨.agg ((vs.drop q).take sz).toArray,[φ],[k],dens_agg hd,QcZ h3,(fun e=>by cases e),(fun g' e=>by cases e;exact ⟨ob,φ,hg,h4,rfl⟩),fun a w hf hw=>?_⟩
       have hl:((vs.drop q).take sz).length=sz:=by rw [Q4s hd];exact Qw hb
       have:=Q6l (P:=P) (hcell w hw) hs ha hl (v:=.agg ((vs.drop q).take sz).toArray) rfl
       simp [execOp,ho,hf.eval h2,Instr.loadAt,Instr.sureAddr,this]
      · cases he
     ·split at he
      ·rename_i c' hb hcs
       cases he
       rw [hcs] at hd
       obtain ⟨u,us,h8,h9,h10⟩:=Q5A hd
       cases h10
       refine ⟨u,[φ],[k],h9,QcZ h3,(fun e=>by cases e),(fun g' e=>by cases e;exact ⟨ob,φ,hg,h4,rfl⟩),fun a w hf hw=>?_⟩
       have:=Q6l (P:=P) (hcell w hw) hs ha (by rw [h8];exact (Qw hb).symm) (v:=u) (by rw [h8];rfl)
       simp [execOp,ho,hf.eval h2,Instr.loadAt,Instr.sureAddr,this]
      · cases he
    · cases he
   · cases he
  · cases he
 ·
  rename_i t x i ho
  unfold rd_indexAddr at he
  split at he
  ·rename_i g off len cap own ik j e hx hi hel
   split at he
   ·rename_i sz hs hj
    cases he
    obtain ⟨y,h1,h2⟩:=Q1r h hx
    simp only [SV.den,Option.map_eq_some_iff] at h1
    obtain ⟨en,h3,rfl⟩:=h1
    have hi':=Q5L h hi
    have hlt:j < len:=Nat.le_of_ble_eq_true hj
    refine Q5Y (x:=.pointer (some ⟨en.1,en.2.2+off+j * sz,none⟩)) (by simp [SV.den,h3,Nat.add_assoc]) fun a w hf=>?_
    have h9:(0:Int)≤(Int.ofNat j)∧(Int.ofNat j) < len:=by simp;omega
    simp [execOp,ho,hf.eval h2,hf.eval hi',Instr.indexAt,asIntOf,run_underlying (Q1A hel),hlt,Q3f hs,Addr.add]
    try omega
   · cases he
  · cases he
 ·
  rename_i f fi xs ho
  unfold rd_makeFunc at he
  split at he
  ·rename_i us vs hfi hxs
   cases he
   obtain ⟨ys,h1,h2⟩:=Qek h hxs
   obtain ⟨zs,h3,h4⟩:=Qek h hfi
   refine Q5Y (x:=.func (.func f) zs.toArray ys.toArray) (fn_mk h3 h1) fun a w hf=>?_
   have hargs:xs.map a.eval=ys.toArray:=by
    have:=hf.evalL h2
    have h0:xs=xs.toList.toArray:=by simp
    rw [← this,h0,List.map_toArray]
   have hargs2:fi.map a.eval=zs.toArray:=by
    have:=hf.evalL h4
    have h0:fi=fi.toList.toArray:=by simp
    rw [← this,h0,List.map_toArray]
   simp [execOp,ho,Instr.makeFunc,hargs,hargs2]
  · cases he
 ·
  rename_i op t x y u ho
  unfold rd_binOp at he
  split at he
  ·rename_i k a k' b hx hy
   split at he
   ·rename_i hb
    cases he
    simp only [Bool.and_eq_true,Bool.not_eq_true',decide_eq_false_iff_not] at hb
    obtain rfl:=ikEq_eq hb.1
    exact Q5Y rfl (Q8X ho (Q5L h hx) (Q5L h hy) fun w=>by simp [eqGuard,binOp,Op.intDiv,hb.2])
   ·rename_i hb
    cases he
    simp only [Bool.and_eq_true,Bool.not_eq_true',decide_eq_false_iff_not] at hb
    obtain rfl:=ikEq_eq hb.1
    exact Q5Y rfl (Q8X ho (Q5L h hx) (Q5L h hy) fun w=>by simp [eqGuard,binOp,Op.intDiv,hb.2])
   · cases he
  ·rename_i hx hy
   obtain ⟨y',h1,h2⟩:=Q1r h hx
   simp only [SV.den,Option.map_eq_some_iff] at h1
   obtain ⟨en,h3,rfl⟩:=h1
   split at he
   ·rename_i ht
    cases he
    exact Q5Y rfl (Q8X ho h2 (Q5L h hy) fun w=>run_eqlNil ht _ _ _ _ _ _ _ w)
   ·rename_i ht
    cases he
    exact Q5Y rfl (Q8X ho h2 (Q5L h hy) fun w=>run_neqNil ht _ _ _ _ _ _ _ w)
   · cases he
  ·rename_i hx hy
   split at he
   ·rename_i ht
    cases he
    exact Q5Y rfl (Q8X ho (Q5L h hx) (Q5L h hy) fun w=>run_eqlNil ht _ _ _ _ _ _ _ w)
   ·rename_i ht
    cases he
    exact Q5Y rfl (Q8X ho (Q5L h hx) (Q5L h hy) fun w=>run_neqNil ht _ _ _ _ _ _ _ w)
   · cases he
  ·rename_i hx hy
   obtain ⟨y',h1,h2⟩:=Q1r h hx
   simp only [SV.den,Option.map_eq_some_iff] at h1
   obtain ⟨en,h3,rfl⟩:=h1
   split at he
   ·rename_i ht
    cases he
    exact Q5Y rfl (Q8X ho h2 (Q5L h hy) fun w=>(Qdu ht _ _ _ _ w).1 rfl)
   ·rename_i ht
    cases he
    exact Q5Y rfl (Q8X ho h2 (Q5L h hy) fun w=>(Qdu ht _ _ _ _ w).2 rfl)
   · cases he
  ·rename_i hx hy
   split at he
   ·rename_i ht
    cases he
    exact Q5Y rfl (Q8X ho (Q5L h hx) (Q5L h hy) fun w=>(Qdu ht _ _ _ _ w).1 rfl)
   ·rename_i ht
    cases he
    exact Q5Y rfl (Q8X ho (Q5L h hx) (Q5L h hy) fun w=>(Qdu ht _ _ _ _ w).2 rfl)
   · cases he
  · cases he
 ·
  rename_i xs ts ho
  unfold rd_len at he
  split at he
  ·rename_i x t hxs hts
   have hxs' : xs=#[x]:=by cases xs;simp_all
   have hts' : ts=#[t]:=by cases ts;simp_all
   subst hxs';subst hts'
   split at he
   ·rename_i g off len cap own hx
    split at he
    ·rename_i e ht
     cases he
     obtain ⟨y,h1,h2⟩:=Q1r h hx
     simp only [SV.den,Option.map_eq_some_iff] at h1
     obtain ⟨en,h3,rfl⟩:=h1
     exact Q5Y rfl fun a w hf=>by simp [execOp,ho,resolve,invoke,builtin,Builtin.len_,hf.eval h2,run_underlying (Q1A ht),goInt]
    · cases he
   ·rename_i len cap hx
    split at he
    ·rename_i e ht
     cases he
     exact Q5Y rfl fun a w hf=>by simp [execOp,ho,resolve,invoke,builtin,Builtin.len_,hf.eval (Q5L h hx),run_underlying (Q1A ht),goInt]
    · cases he
   · cases he
  · cases he
 ·
  rename_i t ps ho
  unfold rd_build at he
  split at he
  ·rename_i parts z pl hps hz hpl
   split at he
   ·rename_i out hout
    cases he
    obtain ⟨xs,h1,h2⟩:=evCP_spec h hps
    have hzd:SV.dens ρ E (SV.of z).cells=some z.cells.toList:=SV.cells_den (SV.of_den z) (fun i=>by unfold SV.of;split <;> simp)
    obtain ⟨os,h3,h4⟩:=fillC_spec hzd h1 hout
    refine Q5Y (dens_agg h3) fun a w hfr=>?_
    have h0:ps.map (fun x=>(x.1,a.eval x.2))=xs.toArray:=by
     rw [← hfr.evalP h2,← List.map_toArray]
    have h1:=run_build hz hpl h4 w
    rw [← h0] at h1
    simp only [execOp,ho,Sem.run_bind]
    rw [show (ps.map fun x=>match x with | (i,x)=>(i,a.eval x))=ps.map (fun x=>(x.1,a.eval x.2)) from rfl,h1]
    rfl
   · cases he
  · cases he
 · cases he
end read
end
end Go.Proofs.YtbgodclhmgmcgaaGreatDoor
