import Derived.Test.YtocfkfhdcnjklaaGreatDoorDraw
namespace Go.Proofs.YtocfkfhdcnjklaaGreatDoor
section
open Go.RowKit
noncomputable section
def jm (fr:Tr):Operand->Option SV
 | .tmp t=>fr.get t
 | .const v=>some (SV.of v)
 | .func f=>some (.fn f [] [])
 | .global _=>none
def Gg (fr:Tr):List Operand->Option (List SV)
 |[]=>some []
 | x::l=>match jm fr x,Gg fr l with
   |some v,some vs=>some (v::vs)
   |_,_=>none
def FI (ops:Array Oper)(fr:Tr)(o:Oper):Option Bool:=
 match o.guard with
 |none=>some true
 | some (j,want)=>match(ops[j]?).bind (·.dst)with
   | some d=>match fr.get d with
     |some (.v (.bool true))=>some want
     |some (.v (.bool false))=>some (!want)
     |some (.v (.tuple _))=>some false
     |_=>none
   |none=>none
section ev
variable {ρ:Env} {E:List Value} {fr:Tr} {hp:di} {S:List (Nat×Value)} {H:List Fact}
theorem qN (h:Rel ρ E fr hp S H) {o:Operand} {v:SV} (he:jm fr o=some v):∃x,v.den ρ E=some x/\de S o=some x:=by
 cases o with
 |tmp t=>exact h.fr t v he
 |const c=>cases he;exact⟨c,SV.of_den c,rfl⟩
 |func f=>cases he;exact⟨_,rfl,rfl⟩
 |global g=>cases he
theorem mf (h:Rel ρ E fr hp S H) {o:Operand} {x:Value} (he:jm fr o=some (.v x)):de S o=some x:=by
 obtain⟨y,h1,U⟩:=qN h he;cases h1;exact U
theorem QbO (h:Rel ρ E fr hp S H):∀{l:List Operand} {vs:List SV},Gg fr l=some vs->∃xs,SV.dens ρ E vs=some xs/\vq S l=some xs
 |[],vs,he=>by cases he;exact⟨[],rfl,rfl⟩
 | x::l,vs,he=>by
   unfold Gg at he;split at he
   ·rename_i v vs' h1 U;cases he;obtain⟨y,h3,h4⟩:=qN h h1;obtain⟨ys,h5,h6⟩:=QbO h U;exact⟨y::ys,Cv h3 h5,by simp only[vq,h4,h6]⟩
   · cases he
theorem QaZ (h:Rel ρ E fr hp S H) {ops:Array Oper} {o:Oper} {b:Bool} (hw:FI ops fr o=some b):QI ops S o=some b:=by
 unfold FI at hw;unfold QI;rcases hg:o.guard with _|⟨j,want⟩
 · simpa[hg]using hw
 ·simp only[hg]at hw⊢;rcases hd:(ops[j]?).bind (·.dst)with _|d;· simp[hd]at hw
  ·simp only[hd]at hw⊢;split at hw
   ·rename_i hv;obtain⟨x,h1,U⟩:=h.fr _ _ hv;cases h1;simpa only[U]using hw
   ·rename_i hv;obtain⟨x,h1,U⟩:=h.fr _ _ hv;cases h1;simpa only[U]using hw
   ·rename_i hv;obtain⟨x,h1,U⟩:=h.fr _ _ hv;cases h1;simpa only[U]using hw
   · cases hw
end ev
def Ff (fr:Tr):Op->Option SV
 | .move x=>jm fr x
 | .assign x=>jm fr x
 | .pick c a b=>match jm fr c with
   |some (.v (.bool true))=>jm fr a
   |some (.v (.bool false))=>jm fr b
   |_=>none
 | .binOp op _ x y _=>match jm fr x,jm fr y with
   | some (.v a),some (.v b)=>match Sq op (some a) (some b)with
     |some r=>some (.v r)
     |none=>none
   |_,_=>none
 | .unOp .not _ x=>match jm fr x with
   |some (.v (.bool b))=>some (.v (.bool (!b)))
   |_=>none
 | .extract x i=>match jm fr x with
   |some (.tup vs)=>vs[i]?
   |_=>none
 | .nilCheck x=>match jm fr x with
   |some (.ptr g o)=>some (.ptr g o)
   |_=>none
 |_=>none
section pure
variable {ρ:Env} {E:List Value} {fr:Tr} {hp:di} {S:List (Nat×Value)} {H:List Fact}
theorem tx (h:Rel ρ E fr hp S H) {op:Op} {v:SV} (he:Ff fr op=some v):∃x,v.den ρ E=some x/\zj S op=some x:=by
 unfold Ff at he;split at he;· exact qN h he
 · exact qN h he
 ·rename_i c a b;split at he
  ·rename_i hc;obtain⟨x,h1,U⟩:=qN h he;exact⟨x,h1,by simp only[zj,mf h hc,U]⟩
  ·rename_i hc;obtain⟨x,h1,U⟩:=qN h he;exact⟨x,h1,by simp only[zj,mf h hc,U]⟩
  · cases he
 ·rename_i op t x y u;split at he
  ·rename_i a b ha hb;split at he
   ·rename_i r hr;cases he;exact⟨r,rfl,by simp only[zj,mf h ha,mf h hb,hr]⟩
   · cases he
  · cases he
 ·rename_i t x;split at he
  ·rename_i b hb;cases he;exact⟨_,rfl,by simp only[zj,mf h hb]⟩
  · cases he
 ·rename_i x i;split at he
  ·rename_i vs hx;obtain⟨y,h1,U⟩:=qN h hx;simp only[SV.den,Option.map_eq_some_iff]at h1;obtain⟨ws,h3,rfl⟩:=h1;obtain⟨z,h4,h5⟩:=zD h3 he;exact⟨z,h5,by simp only[zj,U];simpa using h4⟩
  · cases he
 ·rename_i x;split at he
  ·rename_i g o hx;cases he;obtain⟨y,h1,U⟩:=qN h hx;refine⟨y,h1,?_⟩;simp only[SV.den,Option.map_eq_some_iff]at h1;obtain⟨e,_,rfl⟩:=h1;simp only[zj,U]
  · cases he
 · cases he
end pure
def IX (fr:Tr):List (Nat×Operand)->Option (List (Nat×SV))
 |[]=>some []
 | (i,x)::l=>match jm fr x,IX fr l with
   |some v,some vs=>some ((i,v)::vs)
   |_,_=>none
def On (all:List SV)(j:Nat)(cs:List SV):List SV:=all.take j++cs++all.drop (j+cs.length)
def zL (place:Nat->Option (Nat×Nat)):List SV->List (Nat×SV)->Option (List SV)
 |cs,[]=>some cs
 | cs,(i,v)::r=>match place i with
   |none=>none
   | some (off,sz)=>match Nat.beq v.cells.length sz&&Nat.ble (off+sz) cs.length&& !v.isOpq with
     |true=>zL place (On cs off v.cells) r
     |false=>none
section fill
variable {ρ:Env} {E:List Value} {fr:Tr} {hp:di} {S:List (Nat×Value)} {H:List Fact}
theorem so {all cs:List SV} {as xs:List Value} (j:Nat)(h:SV.dens ρ E all=some as)(k:SV.dens ρ E cs=some xs):SV.dens ρ E (On all j cs)=some (uP as j xs):=by
 unfold On uP;rw[zd k];exact P5 (P5 (QbN j h) k) (QbM _ h)
def Cu (ρ:Env)(E:List Value):List (Nat×SV)->List (Nat×Value)->Prop
 |[],[]=>True
 |(i,v)::r,(j,x)::s=>i=j/\v.den ρ E=some x/\Cu ρ E r s
 |_,_=>False
theorem ow (h:Rel ρ E fr hp S H):∀{l:List (Nat×Operand)} {vs:List (Nat×SV)},IX fr l=some vs->∃xs,Cu ρ E vs xs/\Pz S l=some xs
 |[],vs,he=>by cases he;exact⟨[],trivial,rfl⟩
 | (i,x)::l,vs,he=>by
   unfold IX at he;split at he
   ·rename_i v vs' h1 U;cases he;obtain⟨y,h3,h4⟩:=qN h h1;obtain⟨ys,h5,h6⟩:=ow h U;exact⟨(i,y)::ys,⟨rfl,h3,h5⟩,by simp only[Pz,h4,h6]⟩
   · cases he
theorem Fa {v:SV} (h:(!v.isOpq)=true):∀i,v≠.opq i:=λi e=>by subst e;cases h
theorem kZ {place:Nat->Option (Nat×Nat)}:∀{parts:List (Nat×SV)} {xs:List (Nat×Value)} {cs out:List SV} {as:List Value},SV.dens ρ E cs=some as->Cu ρ E parts xs->zL place cs parts=some out->∃os,SV.dens ρ E out=some os/\kF place as xs=some os
 |[],[],cs,out,as,h,_,U=>by cases U;exact⟨as,h,rfl⟩
 | (i,v)::r,(j,x)::s,cs,out,as,h,hp,U=>by
   obtain⟨rfl,hv,hr⟩:=hp;unfold zL at U;unfold kF;split at U;· cases U
   ·rename_i off sz hpl;split at U
    ·rename_i hb;simp only[Bool.and_eq_true]at hb;have hc:=SV.cells_den hv (Fa hb.2);have hlen:=zd hc;obtain⟨os,h1,h2⟩:=kZ (so off h hc) hr U;refine⟨os,h1,?_⟩
     have e1:Nat.beq x.cells.size sz=true:=by
      have:=hb.1.1;rw[<-hlen,Array.length_toList]at this;exact this
     have e2:Nat.ble (off+sz) as.length=true:=by rw[zd h];exact hb.1.2
     simp only[hpl,e1,e2,Bool.and_true];exact h2
    · cases U
 |[],_::_,_,_,_,_,hp,_=>hp.elim
 |_::_,[],_,_,_,_,hp,_=>hp.elim
end fill
def nc (P:Program)(fr:Tr)(hp:di)(t:Nat)(x:Operand)(k:Nat):Option (SV×Option Nat):=match jm fr x,QR P t k with
 |some (.ptr g o),some f=>some (.ptr g (o+f),none)
 |_,_=>none
def Fg (P:Program)(fr:Tr)(hp:di)(t:Nat)(x:Operand):Option (SV×Option Nat):=match jm fr x with
 | some (.ptr g o)=>match kB hp g,QP P t,eY P t with
   | some ob,some sz,some U=>match ob.cs with
     | some cs=>match U with
       | true=>match Nat.beq ((cs.drop o).take sz).length sz with
         |true=>some (.agg ((cs.drop o).take sz),some g)
         |false=>none
       | false=>match Nat.beq sz 1,(cs.drop o).take sz with
         |true,[c]=>some (c,some g)
         |_,_=>none
     |none=>none
   |_,_,_=>none
 |_=>none
def nf (P:Program)(fr:Tr)(hp:di)(t:Nat)(x:Operand)(i:Operand):Option (SV×Option Nat):=match jm fr x,jm fr i,fR P t with
 | some (.sl g off len _ _),some (.v (.int _ (.ofNat j))),some e=>match QP P e,Nat.blt j len with
   |some sz,true=>some (.ptr g (off+j*sz),none)
   |_,_=>none
 |_,_,_=>none
def pP (P:Program)(fr:Tr)(hp:di)(f:Nat)(U:Array Operand)(xs:Array Operand):Option (SV×Option Nat):=match Gg fr U.toList,Gg fr xs.toList with
 |some us,some vs=>some (.fn f us vs,none)
 |_,_=>none
def AQ (P:Program)(fr:Tr)(hp:di)(op:BinOp)(t:Nat)(x:Operand)(y:Operand):Option (SV×Option Nat):=match jm fr x,jm fr y with
 | some (.v (.int k a)),some (.v (.int U b))=>match NW k U&& !decide (b=0),op with
   |true,.quo=>some (.v (.int k (k.wrap (a.tdiv b))),none)
   |true,.rem=>some (.v (.int k (a.tmod b)),none)
   |_,_=>none
 | some (.sl _ _ _ _ _),some (.v (.slice none _ _))=>match fR P t,op with
   |some _,.eql=>some (.v (.bool false),none)
   |some _,.neq=>some (.v (.bool true),none)
   |_,_=>none
 | some (.v (.slice none _ _)),some (.v (.slice none _ _))=>match fR P t,op with
   |some _,.eql=>some (.v (.bool true),none)
   |some _,.neq=>some (.v (.bool false),none)
   |_,_=>none
 | some (.ptr _ _),some (.v (.pointer none))=>match tS P t,op with
   |some _,.eql=>some (.v (.bool false),none)
   |some _,.neq=>some (.v (.bool true),none)
   |_,_=>none
 | some (.v (.pointer none)),some (.v (.pointer none))=>match tS P t,op with
   |some _,.eql=>some (.v (.bool true),none)
   |some _,.neq=>some (.v (.bool false),none)
   |_,_=>none
 |_,_=>none
def Ky (P:Program)(fr:Tr)(hp:di)(xs:Array Operand)(ts:Array Nat):Option (SV×Option Nat):=match xs.toList,ts.toList with
 | [x],[t]=>match jm fr x with
   | some (.sl _ _ len _ _)=>match fR P t with
     |some _=>some (.v (.int .i64 (.ofNat len)),none)
     |none=>none
   | some (.v (.slice none len _))=>match fR P t with
     |some _=>some (.v (.int .i64 (.ofNat len)),none)
     |none=>none
   |_=>none
 |_,_=>none
def AR (P:Program)(fr:Tr)(hp:di)(t:Nat)(U:Array (Nat×Operand)):Option (SV×Option Nat):=match IX fr U.toList,gW P t,qe P t with
 | some parts,some z,some pl=>match zL (W6 pl) (SV.of z).cells parts with
   |some out=>some (.agg out,none)
   |none=>none
 |_,_,_=>none
def KA (P:Program)(fr:Tr)(hp:di):Op->Option (SV×Option Nat)
 | .fieldAddr t x k=>nc P fr hp t x k
 | .load t x=>Fg P fr hp t x
 | .indexAddr t x i=>nf P fr hp t x i
 | .makeFunc (.func f) U xs=>pP P fr hp f U xs
 | .binOp op t x y _=>AQ P fr hp op t x y
 | .call {callee:=.builtin .len,args:=xs,argTypes:=ts}=>Ky P fr hp xs ts
 | .build t ps=>AR P fr hp t ps
 |_=>none
section read
variable {P:Program} {n:FD} {ρ:Env} {E:List Value} {fr:Tr} {hp:di} {S:List (Nat×Value)} {H:List Fact}
def kS (P:Program)(n:FD)(ρ:Env)(E:List Value)(hp:di)(S:List (Nat×Value))(H:List Fact)(o:Oper)(v:SV)(d:Option Nat):Prop:=
 ∃ x B m,v.den ρ E=some x/\QO H m=B/\(d=none->B=[])/\(∀g,d=some g->∃U φ,kB hp g=some U/\U.isFact ρ E g φ/\B=[φ])/\
   ∀a w,fq n S a->zb [] B w->(execOp a.eval o).run P w=.ok (.value x) w
theorem wY {o:Oper} {v:SV} {x:Value} (hv:v.den ρ E=some x)(h:∀a w,fq n S a->(execOp a.eval o).run P w=.ok (.value x) w):kS P n ρ E hp S H o v none:=
 ⟨x,[],[],hv,rfl,(λ_=>rfl),(λ_ h=>by cases h),λa w U _=>h a w U⟩
theorem sk {l:List SV} {vs:List Value} (h:SV.dens ρ E l=some vs):(SV.agg l).den ρ E=some (.agg vs.toArray):=by simp[SV.den,h]
theorem vV {k:Nat} {φ:Fact} (h:H[k]? =some φ):QO H [k]=[φ]:=by simp[QO,h]
theorem Ia {o:Oper} {op:BinOp} {t u:TypeId} {x y:Operand} {a b v:Value} (ho:o.op=.binOp op t x y u)(hx:de S x=some a)(hy:de S y=some b)(hr:∀w,(do eqGuard op t x y a b;binOp op t a b:Sem Value).run P w=.ok v w):
  ∀(U:Act) w,fq n S U->(execOp U.eval o).run P w=.ok (.value v) w:=λU w hf=>by
 have h1:=hr w;unfold execOp;simp only[ho,hf.eval hx,hf.eval hy];rw[Sem.run_bind,h1];rfl
theorem QaE {t e:Nat} (U:tS P t=some e)(op:BinOp)(x y:Operand)(a:Option Addr)(w:World):(op=.eql->(do eqGuard op t x y (.pointer a) (.pointer none);binOp op t (.pointer a) (.pointer none):Sem Value).run P w=.ok (.bool a.isNone) w)/\
  (op=.neq->(do eqGuard op t x y (.pointer a) (.pointer none);binOp op t (.pointer a) (.pointer none):Sem Value).run P w=.ok (.bool (!a.isNone)) w):=
 ⟨λe=>by subst e;exact IU U x y a w,λe=>by subst e;exact ZZ U x y a w⟩
theorem DG (h:Rel ρ E fr hp S H) {o:Oper} {v:SV} {d:Option Nat} (he:KA P fr hp o.op=some (v,d)):kS P n ρ E hp S H o v d:=by
 unfold KA at he;split at he
 ·
  rename_i t x k U;unfold nc at he;split at he
  ·rename_i g q f hx hk;cases he;obtain⟨y,h1,h2⟩:=qN h hx;simp only[SV.den,Option.map_eq_some_iff]at h1;obtain⟨e,h3,rfl⟩:=h1;refine wY (x:=.pointer (some ⟨e.1,e.2.2+q+f,none⟩)) (by simp[SV.den,h3,Nat.add_assoc]) λa w hf=>?_
   simp[execOp,U,hf.eval h2,la hk]
  · cases he
 ·
  rename_i t x U;unfold Fg at he;split at he
  ·rename_i g q hx;split at he
   ·rename_i ob sz ag hg hs ha;split at he
    ·rename_i cs hc;obtain⟨y,h1,h2⟩:=qN h hx;obtain⟨k,φ,h3,h4,_,_⟩:=MF h.hp hg;obtain⟨b,c,vs,h5,h6,h7⟩:=HO.cells_at h4 hc;simp only[SV.den,h5,Option.map_some,Option.some.injEq]at h1;subst h1
     have iW:∀w,zb [] [φ] w->py w b q ((vs.drop q).take sz):=λw hw=>by
      obtain⟨N,F,h8⟩:=hw.2 φ ax;have:=QbU (j:=q) (h7 N F w h8) rfl (sz:=sz);rwa [Nat.zero_add]at this
     have hd:=QbN (ρ:=ρ) (E:=E) sz (QbM q h6);split at he
     ·split at he
      ·rename_i hb;cases he;refine⟨.agg ((vs.drop q).take sz).toArray,[φ],[k],sk hd,vV h3,(λe=>by cases e),(λg' e=>by cases e;exact⟨ob,φ,hg,h4,rfl⟩),λa w hf hw=>?_⟩;have hl:((vs.drop q).take sz).length=sz:=by rw[zd hd];exact Qo hb
       have:=RJ (P:=P) (iW w hw) hs ha hl (v:=.agg ((vs.drop q).take sz).toArray) rfl;simp[execOp,U,hf.eval h2,Instr.loadAt,Instr.sureAddr,this]
      · cases he
     ·split at he
      ·rename_i c' hb qW;cases he;rw[qW]at hd;obtain⟨u,us,h8,h9,h10⟩:=QF hd;cases h10;refine⟨u,[φ],[k],h9,vV h3,(λe=>by cases e),(λg' e=>by cases e;exact⟨ob,φ,hg,h4,rfl⟩),λa w hf hw=>?_⟩;have:=RJ (P:=P) (iW w hw) hs ha (by rw[h8];exact(Qo hb).symm) (v:=u) (by rw[h8];rfl);simp[execOp,U,hf.eval h2,Instr.loadAt,Instr.sureAddr,this]
      · cases he
    · cases he
   · cases he
  · cases he
 ·
  rename_i t x i U;unfold nf at he;split at he
  ·rename_i g off len cap own ik j e hx hi hel;split at he
   ·rename_i sz hs hj;cases he;obtain⟨y,h1,h2⟩:=qN h hx;simp only[SV.den,Option.map_eq_some_iff]at h1;obtain⟨en,h3,rfl⟩:=h1;have eo:=mf h hi;have bq:j<len:=Nat.le_of_ble_eq_true hj;refine wY (x:=.pointer (some ⟨en.1,en.2.2+off+j*sz,none⟩)) (by simp[SV.den,h3,Nat.add_assoc]) λa w hf=>?_
    have h9:(0:Int)<=(Int.ofNat j)/\(Int.ofNat j)<len:=by simp;omega
    simp[execOp,U,hf.eval h2,hf.eval eo,Instr.indexAt,asIntOf,run_underlying (uu hel),bq,yM hs,Addr.add];try omega
   · cases he
  · cases he
 ·
  rename_i f fi xs U;unfold pP at he;split at he
  ·rename_i us vs Wk HN;cases he;obtain⟨ys,h1,h2⟩:=QbO h HN;obtain⟨zs,h3,h4⟩:=QbO h Wk;refine wY (x:=.func (.func f) zs.toArray ys.toArray) (Jn h3 h1) λa w hf=>?_
   have fx:xs.map a.eval=ys.toArray:=by
    have:=hf.evalL h2;have h0:xs=xs.toList.toArray:=ax
    rw[<-this,h0,List.map_toArray]
   have TJ:fi.map a.eval=zs.toArray:=by
    have:=hf.evalL h4;have h0:fi=fi.toList.toArray:=ax
    rw[<-this,h0,List.map_toArray]
   simp[execOp,U,Instr.makeFunc,fx,TJ]
  · cases he
 ·
  rename_i op t x y u U;unfold AQ at he;split at he
  ·rename_i k a k' b hx hy;split at he
   ·rename_i hb;cases he;simp only[Bool.and_eq_true,Bool.not_eq_true',decide_eq_false_iff_not]at hb;obtain rfl:=qZ hb.1;exact wY rfl (Ia U (mf h hx) (mf h hy) λw=>by simp[eqGuard,binOp,Op.intDiv,hb.2])
   ·rename_i hb;cases he;simp only[Bool.and_eq_true,Bool.not_eq_true',decide_eq_false_iff_not]at hb;obtain rfl:=qZ hb.1;exact wY rfl (Ia U (mf h hx) (mf h hy) λw=>by simp[eqGuard,binOp,Op.intDiv,hb.2])
   · cases he
  ·rename_i hx hy;obtain⟨y',h1,h2⟩:=qN h hx;simp only[SV.den,Option.map_eq_some_iff]at h1;obtain⟨en,h3,rfl⟩:=h1;split at he
   ·rename_i ht;cases he;exact wY rfl (Ia U h2 (mf h hy) λw=>lF ht _ _ _ _ _ _ _ w)
   ·rename_i ht;cases he;exact wY rfl (Ia U h2 (mf h hy) λw=>lG ht _ _ _ _ _ _ _ w)
   · cases he
  ·rename_i hx hy;split at he
   ·rename_i ht;cases he;exact wY rfl (Ia U (mf h hx) (mf h hy) λw=>lF ht _ _ _ _ _ _ _ w)
   ·rename_i ht;cases he;exact wY rfl (Ia U (mf h hx) (mf h hy) λw=>lG ht _ _ _ _ _ _ _ w)
   · cases he
  ·rename_i hx hy;obtain⟨y',h1,h2⟩:=qN h hx;simp only[SV.den,Option.map_eq_some_iff]at h1;obtain⟨en,h3,rfl⟩:=h1;split at he
   ·rename_i ht;cases he;exact wY rfl (Ia U h2 (mf h hy) λw=>(QaE ht _ _ _ _ w).1 rfl)
   ·rename_i ht;cases he;exact wY rfl (Ia U h2 (mf h hy) λw=>(QaE ht _ _ _ _ w).2 rfl)
   · cases he
  ·rename_i hx hy;split at he
   ·rename_i ht;cases he;exact wY rfl (Ia U (mf h hx) (mf h hy) λw=>(QaE ht _ _ _ _ w).1 rfl)
   ·rename_i ht;cases he;exact wY rfl (Ia U (mf h hx) (mf h hy) λw=>(QaE ht _ _ _ _ w).2 rfl)
   · cases he
  · cases he
 ·
  rename_i xs ts U;unfold Ky at he;split at he
  ·rename_i x t HN Wq;have Ue:xs=#[x]:=by cases xs;simp_all
   have Ua:ts=#[t]:=by cases ts;simp_all
   subst Ue;subst Ua;split at he
   ·rename_i g off len cap own hx;split at he
    ·rename_i e ht;cases he;obtain⟨y,h1,h2⟩:=qN h hx;simp only[SV.den,Option.map_eq_some_iff]at h1;obtain⟨en,h3,rfl⟩:=h1;exact wY rfl λa w hf=>by simp[execOp,U,resolve,invoke,builtin,Builtin.len_,hf.eval h2,run_underlying (uu ht),goInt]
    · cases he
   ·rename_i len cap hx;split at he
    ·rename_i e ht;cases he;exact wY rfl λa w hf=>by simp[execOp,U,resolve,invoke,builtin,Builtin.len_,hf.eval (mf h hx),run_underlying (uu ht),goInt]
    · cases he
   · cases he
  · cases he
 ·
  rename_i t ps U;unfold AR at he;split at he
  ·rename_i parts z pl NQ hz hpl;split at he
   ·rename_i out U5;cases he;obtain⟨xs,h1,h2⟩:=ow h NQ;have hzd:SV.dens ρ E (SV.of z).cells=some z.cells.toList:=SV.cells_den (SV.of_den z) (λi=>by unfold SV.of;split<;>simp);obtain⟨os,h3,h4⟩:=kZ hzd h1 U5;refine wY (sk h3) λa w eP=>?_
    have h0:ps.map (λx=>(x.1,a.eval x.2))=xs.toArray:=by
     rw[<-eP.evalP h2,<-List.map_toArray]
    have h1:=run_build hz hpl h4 w;rw[<-h0]at h1;simp only[execOp,U,Sem.run_bind];rw[show(ps.map λx=>match x with|(i,x)=>(i,a.eval x))=ps.map (λx=>(x.1,a.eval x.2))from rfl,h1];rfl
   · cases he
  · cases he
 · cases he
end read
end
end
section
open Go.RowKit
noncomputable section
def Ju (fr:Tr):Option Operand->Option (Option Nat)
 |none=>some none
 | some x=>match jm fr x with
   |some (.v (.int _ (.ofNat j)))=>some (some j)
   |_=>none
def eK (o:Option Nat)(d:Nat):Nat:=match o with
 |some x=>x
 |none=>d
def HO.with (cs:List SV):HO->HO
 | .blk _ ty=>.blk cs ty
 | .row _ n sz ty=>.row cs n sz ty
 |o=>o
def HO.wcs:HO->Option (List SV)
 | .blk cs _=>some cs
 | .row cs _ _ _=>some cs
 |_=>none
def xV (hp:di)(g j:Nat)(cs:List SV):Option di:=match kB hp g with
 | some o=>match o.wcs with
   | some all=>match Nat.ble (j+cs.length) all.length&&cs.all SV.one with
     |true=>some (xU hp g (o.with (On all j cs)))
     |false=>none
   |none=>none
 |none=>none
def pK (hp:di)(g j n:Nat):Option (List SV):=match kB hp g with
 | some o=>match o.cs with
   | some all=>match Nat.ble (j+n) all.length with
     |true=>some ((all.drop j).take n)
     |false=>none
   |none=>none
 |none=>none
def UD (hp:di)(sz:Nat):SV->Option (Nat×List SV)
 | .v (.slice none 0 _)=>some (0,[])
 | .sl g off len _ _=>match Nat.beq len 0 with
   |true=>some (0,[])
   | false=>match pK hp g off (len*sz)with
     |some cs=>some (len,cs)
     |none=>none
 |_=>none
def mY (n U sz:Nat)(z:Value):Bool:=Nat.ble n 9223372036854775807&&Nat.ble (n*U) 140737488355328&&Nat.beq z.cells.size sz&&Nat.blt 0 sz
def xm (P:Program) (hp:di) (lo t:Nat) (x y:SV):Option (SV×di×Nat):=match fR P t with
 |none=>none
 | some e=>match gO P e with
   |none=>none
   | some (z,sz,jk)=>match UD hp sz y with
     |none=>none
     | some (m,U)=>match x with
       | .v (.slice none 0 0)=>match Nat.beq m 0 with
         |true=>some (.v (.slice none 0 0),hp,lo)
         | false=>match mY (0+m) jk sz z&&U.all SV.one with
           |true=>some (.sl lo 0 (0+m) 0 true,(lo,.row ([]++U) (0+m) sz e)::hp,lo+1)
           |false=>none
       | .sl g off len cap own=>match kB hp g with
         | some (.row cs n Mo e')=>match Nat.beq Mo sz&&Nat.beq off (cap*sz)&&own&&Nat.ble (cap+(len+m)) n with
           | true=>match xV hp g (off+len*sz) U with
             |some dc=>some (.sl g off (len+m) cap own,dc,lo)
             |none=>none
           | false=>match own&&Nat.beq off 0&&Nat.beq cap 0&&Nat.beq len n&&Nat.beq Mo sz&&Nat.beq e' e&&mY (n+m) jk sz z&&U.all SV.one with
             |true=>some (.sl lo 0 (n+m) 0 true,GF hp g lo (.row (cs++U) (n+m) sz e),lo+1)
             | false=>match !own&&Nat.beq len cap&&mY (len+m) jk sz z&&Nat.blt 0 m with
               | true=>match pK hp g off (len*sz)with
                 |some old=>some (.sl lo 0 (len+m) 0 true,(lo,.row (old++U) (len+m) sz e)::hp,lo+1)
                 |none=>none
               |false=>none
         | some (.blk cs e')=>match !own&&Nat.beq off 0&&Nat.beq len cap&&Nat.beq (cap*sz) cs.length&&Nat.beq e' e&&mY (cap+m) jk sz z&&U.all SV.one with
           |true=>some (.sl lo 0 (cap+m) 0 true,GF hp g lo (.row (cs++U) (cap+m) sz e),lo+1)
           |false=>none
         |_=>none
       |_=>none
def DK (P:Program) (hp:di) (lo t:Nat) (x:SV) (l h m:Option Nat):Option (SV×di×Nat):=match fR P t with
 |none=>none
 | some e=>match QP P e with
   |none=>none
   | some sz=>match x with
     | .v (.slice none 0 0)=>match Nat.beq (eK l 0) 0&&Nat.beq (eK h 0) 0&&Nat.beq (eK m 0) 0 with
       |true=>some (.v (.slice none 0 0),hp,lo)
       |false=>none
     | .sl g off len cap own=>match own with
       | false=>match Nat.ble (eK l 0) (eK h len)&&Nat.ble (eK h len) (eK m cap)&&Nat.ble (eK m cap) cap with
         |true=>some (.sl g (match Nat.beq (eK m cap) (eK l 0)with|true=>off|false=>off+eK l 0*sz) (eK h len-eK l 0) (eK m cap-eK l 0) false,hp,lo)
         |false=>none
       | true=>match kB hp g with
         |  some (.row _ n _ _)=>match m with
            | some U=>match Nat.ble (eK l 0) (eK h len)&&Nat.ble (eK h len) U&&Nat.ble (cap+U) n with
              |true=>some (.sl g (match Nat.beq U (eK l 0)with|true=>off|false=>off+eK l 0*sz) (eK h len-eK l 0) (U-eK l 0) false,hp,lo)
              |false=>none
            | none=>match Nat.ble (eK l 0) (eK h len)&&Nat.ble (cap+eK h len) n with
              | true=>match Nat.beq (eK l 0) 0,Nat.blt (cap+eK l 0) n with
                |true,_=>some (.sl g off (eK h len) cap true,hp,lo)
                |false,true=>some (.sl g (off+eK l 0*sz) (eK h len-eK l 0) (cap+eK l 0) true,hp,lo)
                |false,false=>some (.sl lo 0 (eK h len-eK l 0) 0 true,hp,lo+1)
              |false=>none
         |_=>none
     |_=>none
def Ac (P:Program)(fr:Tr)(hp:di)(lo:Nat)(t:Nat):Option (Option SV×di×Nat):=match gW P t with
 |some z=>some (some (.ptr lo 0),(lo,.blk (SV.of z).cells t)::hp,lo+1)
 |none=>none
def K1 (P:Program)(fr:Tr)(hp:di)(lo:Nat)(t:Nat)(x:Operand):Option (Option SV×di×Nat):=match jm fr x with
 | some v=>match v.isOpq with
   |false=>some (some (.ptr lo 0),(lo,.blk v.cells t)::hp,lo+1)
   |true=>none
 |none=>none
def Qc8 (P:Program)(fr:Tr)(hp:di)(lo:Nat)(t:Nat)(len:Nat)(U:Array (Nat×Operand)):Option (Option SV×di×Nat):=match fR P t with
 | some e=>match QP P e,gW P e,IX fr U.toList with
   | some sz,some z,some parts=>match Nat.ble (len*sz) 16777216,zL (Y1 sz) ((xr len sz z).map .v) parts with
     |true,some out=>some (some (.sl lo 0 len len false),(lo,.blk out e)::hp,lo+1)
     |_,_=>none
   |_,_,_=>none
 |none=>none
def Ae (P:Program)(fr:Tr)(hp:di)(lo:Nat)(t:Nat)(x:Operand)(y:Operand):Option (Option SV×di×Nat):=match jm fr x,jm fr y with
 | some (.ptr g off),some v=>match !v.isOpq&&(match QP P t with|some sz=>Nat.beq v.cells.length sz|none=>false)with
   | true=>match xV hp g off v.cells with
     |some U=>some (none,U,lo)
     |none=>none
   |false=>none
 |_,_=>none
def Ad (P:Program)(fr:Tr)(hp:di)(lo:Nat)(t:Nat)(x:Operand)(l:Option Operand)(h:Option Operand)(m:Option Operand):Option (Option SV×di×Nat):=match jm fr x,Ju fr l,Ju fr h,Ju fr m with
 | some v,some l',some h',some m'=>match m'.isNone||h'.isSome with
   | true=>match DK P hp lo t v l' h' m' with
     |some (r,U,dv)=>some (some r,U,dv)
     |none=>none
   |false=>none
 |_,_,_,_=>none
def vC (P:Program)(fr:Tr)(hp:di)(lo:Nat)(xs:Array Operand)(ts:Array Nat):Option (Option SV×di×Nat):=match xs.toList,ts.toList with
 | [x,y],[t,t']=>match jm fr x,jm fr y,Nat.beq t t' with
   | some v,some u,true=>match xm P hp lo t v u with
     |some (r,U,dv)=>some (some r,U,dv)
     |none=>none
   |_,_,_=>none
 |_,_=>none
def Dk (P:Program)(fr:Tr)(hp:di)(lo:Nat):Op->Option (Option SV×di×Nat)
 | .alloc t=>Ac P fr hp lo t
 | .box t x=>K1 P fr hp lo t x
 | .buildSlice t len U=>Qc8 P fr hp lo t len U
 | .store t x y=>Ae P fr hp lo t x y
 | .slice t x l h m=>Ad P fr hp lo t x l h m
 | .call {callee:=.builtin .append,args:=xs,argTypes:=ts}=>vC P fr hp lo xs ts
 |_=>none
section ER
variable {P:Program} {C:Ctx} {n:FD} {ρ:Env} {E:List Value} {fr:Tr} {hp:di} {S:List (Nat×Value)} {H:List Fact}
theorem Qbx:∀(cs l:List Value)(j k:Nat),(HC l j cs).take k=HC (l.take k) j cs
 |[],_,_,_=>rfl
 | c::cs,l,j,k=>by
   unfold HC;rw[Qbx cs,List.take_set]
theorem lj {g j m:Nat} {cs:List SV} (hd:iH ρ E hp H)(h:pK hp g j m=some cs):∃b c vs,ρ g=some (b,c,0)/\SV.dens ρ E cs=some vs/\cs.length=m/\∀w,Qj C [] H w->py w b j vs:=by
 unfold pK at h;split at h
 ·rename_i o ho;split at h
  ·rename_i all U;split at h
   ·rename_i hle;cases h;obtain⟨k,φ,h1,h2,_,_⟩:=MF hd ho;obtain⟨b,c,vs,h3,h4,h5⟩:=HO.cells_at h2 U;have:=Nat.le_of_ble_eq_true hle;refine⟨b,c,_,h3,QbN m (QbM j h4),by simp;omega,λw ⟨F,N,hi⟩=>?_⟩;have:=QbU (j:=j) (h5 _ _ _ (hi.owns k _ h1)) rfl (sz:=m);rwa [Nat.zero_add]at this
   · cases h
  · cases h
 · cases h
theorem pL {g j:Nat} {cs:List SV} {xs:List Value} {dc:di} (hd:iH ρ E hp H) (h:xV hp g j cs=some dc) (hx:SV.dens ρ E cs=some xs):
  ∃b c,ρ g=some (b,c,0)/\∃H',iH ρ E dc H'/\∀w,Qj C [] H w->(storeCells ⟨b,j,none⟩ xs 0).run P w=.ok () (FW w b j xs)/\Qj C [] H' (FW w b j xs):=by
 unfold xV at h;split at h
 ·rename_i o ho;split at h
  ·rename_i all ef;split at h
   ·rename_i hb;cases h;simp only[Bool.and_eq_true]at hb;have hle:=Nat.le_of_ble_eq_true hb.1;obtain⟨k,φ,h1,h2,h3,_⟩:=MF hd ho;have NP:=na hx hb.2;have hlen:=zd hx;cases o with
    | blk yU ty=>
      cases ef;obtain⟨b,c,vs,h4,U,rfl⟩:=h2;refine⟨b,c,h4,_,h3 ρ _ (.blk b (uP vs j xs) ty) (λ_ _ h=>h) ⟨b,c,_,h4,so j U hx,rfl⟩,λw hw=>⟨?_,hw.store j h1 (by rw[hlen,zd U];omega) rfl rfl⟩⟩;obtain⟨F,N,hi⟩:=hw;have:=Xh (P:=P) xs vs j 0 w (hi.owns k _ h1).2 (by rw[hlen,zd U];omega) NP;simpa using this
    | row yU m sz ty=>
      cases ef;obtain⟨b,c,vs,h4,U,rfl⟩:=h2;have K2:=zd U;refine⟨b,c,h4,_,h3 ρ _ (yk ty sz b m c (uP vs j xs)) (λ_ _ h=>h) ⟨b,c,_,h4,so j U hx,rfl⟩,λw hw=>?_⟩;obtain⟨F,N,hi⟩:=hw;have bq:=(List.getElem?_eq_some_iff.1 h1).1;obtain⟨hNb,fb⟩:=hi.owns k _ h1;have hol:=fb.1;rcases fb.2 with⟨h0,_⟩|⟨g',cap,cur,hv,hbg,hg,yZ,JH,qW,fz⟩
      · cases h0
      ·cases hv;have hg':w.heap[b]? =some (.cells cur.toList.toArray ty):=by simpa using hg
       have hmc:m*sz<=c*sz:=Nat.mul_le_mul_right _ yZ;have Mi:j+xs.length<=m*sz:=by rw[<-hol,K2,hlen];exact hle
       have hr:=Xh (P:=P) xs cur.toList j 0 w hg' (by simp;omega) NP;refine⟨by simpa using hr,F,N,hi.set k bq ((QaG b xs j w).mono λi _ e=>by subst e;exact hNb) _ ⟨hNb,?_⟩⟩;have hs:=QaF xs cur.toList j w hg';refine⟨?_,.inr ⟨b,c,_,rfl,Nat.zero_le _,hs,yZ,JH,?_,?_⟩⟩
       ·rw[<-Q9G _ _ _ an,<-fz,<-Qbx,XM xs cur.toList j (by simp;omega)];simp;omega
       · rw[XM xs cur.toList j (by simp;omega)];simp;omega
       ·simp only[List.toList_toArray];rw[Qbx,fz,Q9G _ _ _ an]
    |mp es c=>cases ef
    |it m since seen jT=>cases ef
    |ro cs=>cases ef
   · cases h
  · cases h
 · cases h
def uX (C:Ctx)(ρ:Env)(E:List Value)(lo hi:Nat)(r:Option SV)(dc:di)(dv:Nat)(nx:Next)(w':World):Prop:=
 ∃ U H',Ext ρ U lo hi/\iH U E dc H'/\mg U dv hi/\lo<=dv/\Qj C [] H' w'/\match r with
   |some v=>∃x,nx=.value x/\v.den U E=some x
   |none=>nx=.skip
theorem RU {lo hi:Nat} {r:SV} {x:Value} {w:World} {H':List Fact} {U:di} (hf:mg ρ lo hi)(hd:iH ρ E U H')(hw:Qj C [] H' w)(hr:r.den ρ E=some x):uX C ρ E lo hi (some r) U lo (.value x) w:=
 ⟨ρ,H',Ext.refl _ _ _,hd,hf,Nat.le_refl _,hw,x,rfl,hr⟩
theorem oo {lo hi ty off:Nat} {cs:List SV} {xs:List Value} {w:World} (r:SV) {x:Value} (hf:mg ρ lo hi)(bq:lo+1<=hi)(hd:iH ρ E hp H)(hw:Qj C [] H w)(hx:SV.dens ρ E cs=some xs)(hr:∀U:Env,U lo=some (w.heap.size,off,0)->r.den U E=some x):
  uX C ρ E lo hi (some r) ((lo,.blk cs ty)::hp) (lo+1) (.value x) (w.alloc (.cells xs.toArray ty)):=by
 have hg:=hf lo (Nat.le_refl _) an;have he:=Env.put_ext (e:=(w.heap.size,off,0)) hg (show lo<hi by omega);refine⟨ρ.put lo (w.heap.size,off,0),.blk w.heap.size xs ty::H,he,⟨⟨_,_,xs,Env.put_same,SV.dens_mono he.le _ _ hx,rfl⟩,hd.mono he.le⟩,Env.put_free hf,an,?_,x,rfl,hr _ Env.put_same⟩;have:=hw.alloc xs.toArray ty;simpa using this
theorem Qj.swap {w w':World} (hw:Qj C [] H w) {k:Nat} {ψ:Fact} {v:Value} {φ:Fact} (hk:H[k]? =some ψ)(hN:∀N F,ψ.op N F w->∀j,v.ownBlock=some j->N j)(U:w.grownBy w' v.ownBlock)(b:Nat)
  (hb:v.ownBlock=some b\/(b=w.heap.size/\b<w'.heap.size)) (jc:∀(N F:eh),N b->φ.op N F w'):Qj C [] (H.set k φ) w':=by
 obtain⟨F,N,hi⟩:=hw;have bq:=(List.getElem?_eq_some_iff.1 hk).1;have hNk:=hN _ _ (hi.owns k _ hk);have hM:Mod (N k) w w':=⟨U.os,U.tape,U.output,U.size,λj hj hn=>U.block j hj λe=>hn (hNk j e.symm)⟩
 exact ⟨F,_,hi.set' k bq hM (λj=>j=b) (λi e=>by
  subst e;rcases hb with hb|hb;· exact .inl (hNk _ hb)
  · exact .inr ⟨an,hb.2⟩) φ (jc _ F rfl)⟩
theorem H5 {sz m:Nat} {y:SV} {ys:List SV} {u:Value} (hd:iH ρ E hp H)(h:UD hp sz y=some (m,ys))(hu:y.den ρ E=some u):
  ∃p c vs,u=.slice p m c/\SV.dens ρ E ys=some vs/\vs.length=m*sz/\∀w,Qj C [] H w->(0<m->∃b off,p=some ⟨b,off,none⟩/\py w b off vs):=by
 unfold UD at h;split at h;· cases h;cases hu;exact⟨_,_,[],rfl,rfl,ax,λ_ _ h=>absurd h an⟩
 ·rename_i g off len cap own;simp only[SV.den,Option.map_eq_some_iff]at hu;obtain⟨e,h1,rfl⟩:=hu;split at h
  ·rename_i h0;cases h;have:=Qo h0;subst this;exact⟨_,_,[],rfl,rfl,ax,λ_ _ h=>absurd h an⟩
  ·split at h
   ·rename_i cs hr;cases h;obtain⟨b,c,vs,U,h3,h4,h5⟩:=lj hd hr (C:=C);rw[h1]at U;cases U;exact⟨_,_,vs,rfl,h3,by rw[zd h3,h4],λw hw _=>⟨b,off,ax,h5 w hw⟩⟩
   · cases h
 · cases h
theorem kT {t ty e sz jk m k c:Nat} {z:Value} {v:Value} {xs vs:List Value} {p:Option Addr} {w:World} (ht:fR P t=some e)(hr:gO P e=some (z,sz,jk))(cn:mY (k+m) jk sz z=true)
  (fb:w.ownsRow 0 e sz v k xs) (hl:vs.length=m*sz) (hp:0<m->∃b off,p=some ⟨b,off,none⟩/\py w b off vs) (h1:∀u∈vs,u.oneCell'=true) (hm:0<k+m\/v≠.slice none 0 0):
  ∃b c' w',(Builtin.append_ #[t,t] ty #[v,.slice p m c]).run P w=.ok (.slice (some ⟨b,0,none⟩) (k+m) c') w'/\w'.ownsRow 0 e sz (.slice (some ⟨b,0,none⟩) (k+m) c') (k+m) (xs++vs)/\w.grownBy w' v.ownBlock/\(v.ownBlock=some b\/(b=w.heap.size/\b<w'.heap.size)):=by
 simp only[mY,Bool.and_eq_true]at cn;obtain⟨⟨⟨a1,a2⟩,a3⟩,a4⟩:=cn;obtain⟨i,sV,hz,mK,gH⟩:=XN hr;obtain⟨v',w',h2,h3,h4,U⟩:=Qbv (P:=P) (w:=w) t ty e i z sz jk (uu ht) sV hz mK gH (Qo a3) (Nat.le_of_ble_eq_true a4) v k xs fb p m c vs hl hp h1 (by unfold maxLen;exact Nat.le_of_ble_eq_true a1) (Nat.le_of_ble_eq_true a2);have Jz:=h3;rcases h3.2 with⟨rfl,h0⟩|⟨g,cap,cur,rfl,hbg,hg,yZ,JH,qW,fz⟩
 ·rcases hm with hm|hm;· omega
  ·exfalso;rcases fb.2 with⟨h6,_⟩|⟨g,cap,cur,rfl,hbg,hg,yZ,JH,qW,fz⟩
   · exact hm h6
   · rcases U with U|U<;>cases U
 ·refine⟨g,cap,w',h2,Jz,h4,?_⟩;rcases U with U|U;· exact .inl (by rw[<-U];rfl)
  ·have:=Jz.lt g rfl;cases U;exact .inr ⟨rfl,this.2⟩
theorem Qj.pushNew {w w':World} (hw:Qj C [] H w) {φ:Fact} (U:w.grownBy w' none)(jd:w.heap.size<w'.heap.size)(jc:∀(N F:eh),N w.heap.size->φ.op N F w'):Qj C [] (φ::H) w':=by
 obtain⟨F,N,hi⟩:=hw;have hb:Below w.heap.size w w':=⟨U.os,U.tape,U.output,U.size,λk hk=>U.block k hk ax⟩
 refine⟨F,si (λk=>k=w.heap.size) N,(hi.grow hb).push _ _ (jc _ F rfl) ?_ ?_⟩
 ·rintro k rfl;exact⟨jd,.inl hi.mod.size,λhf=>Nat.lt_irrefl _ (hi.flt _ hf)⟩
 ·rintro i k hl rfl hn;exact Nat.lt_irrefl _ (hi.nlt i _ hl hn).1
theorem Qbp {sz m c:Nat} {p:Option Addr} {vs:List Value} {w:World} (U:vs.length=m*sz)(hp:0<m->∃b off,p=some ⟨b,off,none⟩/\py w b off vs):(Builtin.firstCells sz m (.slice p m c)).run P w=.ok vs.toArray w:=by
 by_cases hm:0<m
 ·obtain⟨b,off,rfl,hc⟩:=hp hm;simp only[Builtin.firstCells];rw[<-U];exact run_loadCells_list (P:=P) w ⟨b,off,none⟩ vs (λj v hv=>by rw[Ed];exact hc j v hv)
 ·have:m=0:=an
  subst this;have:vs=[]:=List.eq_nil_of_length_eq_zero (cv U);subst this;cases p<;>simp[Builtin.firstCells,loadCells,loadCellsFrom]
theorem rV {t ty e sz:Nat} {p:Option Addr} {c:Nat} {w:World} (U:fR P t=some e)(hs:QP P e=some sz):(Builtin.append_ #[t,t] ty #[.slice none 0 0,.slice p 0 c]).run P w=.ok (.slice none 0 0) w:=by
 have:=Qbp (P:=P) (sz:=sz) (m:=0) (c:=c) (p:=p) (vs:=[]) (w:=w) ax (λh=>absurd h an);simp[Builtin.append_,run_underlying (uu U),yM hs,Builtin.lenOf,this]
theorem uD {t ty e sz m c q b off len cap:Nat} {p:Option Addr} {vs:List Value} {w w':World} (U:fR P t=some e)(hs:QP P e=some sz)(hle:len+m<=cap)(hl:vs.length=m*sz)(hp:0<m->∃b off,p=some ⟨b,off,none⟩/\py w b off vs)
  (hq:off+len*sz=q) (bw:(storeCells ⟨b,q,none⟩ vs 0).run P w=.ok () w'):(Builtin.append_ #[t,t] ty #[.slice (some ⟨b,off,none⟩) len cap,.slice p m c]).run P w=.ok (.slice (some ⟨b,off,none⟩) (len+m) cap) w':=by
 have:=Qbp (P:=P) (sz:=sz) (c:=c) hl hp;have hu:(underlying t).run P w=.ok (.slice e) w:=run_underlying (uu U) w;subst hq;simp[Builtin.append_,run_underlying (uu U),yM hs,Builtin.lenOf,this,hle,Ed,bw]
theorem H9 {e sz U:Nat} {z:Value} (h:gO P e=some (z,sz,U)):QP P e=some sz:=by
 obtain⟨i,hi,_,hs,_⟩:=XN h;simp[QP,hi,hs]
theorem zq {t ty e sz jk m len off b c:Nat} {z:Value} {xs vs:List Value} {p:Option Addr} {w:World} (ht:fR P t=some e)(hr:gO P e=some (z,sz,jk))(cn:mY (len+m) jk sz z=true)
  (hx:xs.length=len*sz) (hxc:py w b off xs) (hl:vs.length=m*sz) (hp:0<m->∃b off,p=some ⟨b,off,none⟩/\py w b off vs) (hm:0<m):
  ∃c' U,(Builtin.append_ #[t,t] ty #[.slice (some ⟨b,off,none⟩) len len,.slice p m c]).run P w=.ok (.slice (some ⟨w.heap.size,0,none⟩) (len+m) c') U/\U.ownsRow 0 e sz (.slice (some ⟨w.heap.size,0,none⟩) (len+m) c') (len+m) (xs++vs)/\w.grownBy U none/\w.heap.size<U.heap.size:=by
 simp only[mY,Bool.and_eq_true]at cn;obtain⟨⟨⟨a1,a2⟩,a3⟩,a4⟩:=cn;obtain⟨i,sV,hz,mK,gH⟩:=XN hr;have a1:=Nat.le_of_ble_eq_true a1;have a2:=Nat.le_of_ble_eq_true a2;have uk:=Qo a3;have hM:len+m<=maxLen:=by unfold maxLen;exact a1
 obtain⟨q,qo,rfl,hq⟩:=hp hm;subst mK;subst gH;have holds:∀j u,xs[j]? =some u->w.cell? ((⟨b,off,none⟩:Addr).add j)=some u:=λj u hj=>by rw[Ed];exact hxc j u hj
 have JY:∀j u,vs[j]? =some u->w.cell? ((⟨q,qo,none⟩:Addr).add j)=some u:=λj u hj=>by rw[Ed];exact hq j u hj
 have pI:=grownCap_ge w (len+m) len e;have JH:grownCap w (len+m) len e<=maxLen:=grownCap_le_maxLen w (len+m) len e hM;have hlen:(xs++vs).length=(len+m)*i.size:=by rw[List.length_append,hx,hl,Nat.add_mul]
 have eR:=run_append_grow (P:=P) (w:=w) t ty e i z (uu ht) sV hz ⟨b,off,none⟩ len len xs hx holds ⟨q,qo,none⟩ m c vs hl JY an an (growslice_fits an a2);refine⟨_,_,eR,⟨hlen,.inr ⟨w.heap.size,_,_,rfl,Nat.zero_le _,heap_alloc_new w.drew _,pI,JH,?_,?_⟩⟩,⟨rfl,rfl,rfl,ax,λk hk _=>Go.heap_alloc_old w.drew _ (show k<w.drew.heap.size from hk)⟩,ax⟩
 ·simp only[Array.size_append,List.size_toArray,size_zeroCells,uk,hx,hl,<-Nat.add_mul];congr 1;omega
 ·simp only[Array.toList_append,List.append_assoc];rw[<-List.append_assoc,<-hlen];exact List.take_left
theorem xo {lo hi dv t ty:Nat} {x y r:SV} {dc:di} {v u:Value} (hf:mg ρ lo hi) (hd:iH ρ E hp H) (hv:x.den ρ E=some v) (hu:y.den ρ E=some u) (h:xm P hp lo t x y=some (r,dc,dv)) (Cf:dv<=hi) {w:World} (hw:Qj C [] H w):
  ∃val w',(Builtin.append_ #[t,t] ty #[v,u]).run P w=.ok val w'/\uX C ρ E lo hi (some r) dc dv (.value val) w':=by
 unfold xm at h;split at h;· cases h
 ·rename_i e ht;split at h;· cases h
  ·rename_i z sz jk hr;have hs:=H9 hr;split at h;· cases h
   ·rename_i m ys U9;obtain⟨p,c,vs,rfl,HQ,K2,Zu⟩:=H5 hd U9 hu (C:=C);have Zw:=Zu w hw;split at h
    ·
     cases hv;split at h
     ·rename_i h0;have:=Qo h0;subst this;cases h;exact⟨_,w,rV ht hs,RU hf hd hw rfl⟩
     ·rename_i h0;split at h
      ·rename_i cn;cases h;simp only[Bool.and_eq_true]at cn;have hm:=LO h0;obtain⟨b,c',w',h1,h2,h3,h4⟩:=kT (ty:=ty) (c:=c) ht hr cn.1 (World.ownsRow_nil w 0 e sz) K2 Zw (na HQ cn.2) (.inl an);have hb:b=w.heap.size/\b<w'.heap.size:=by rcases h4 with h4|h4;cases h4;exact h4
       obtain⟨rfl,hb⟩:=hb;simp only[List.nil_append,Nat.zero_add]at h1 h2⊢;refine⟨_,w',h1,?_⟩;have hg:=hf lo (Nat.le_refl _) an;have he:=Env.put_ext (e:=(w.heap.size,c',0)) hg (show lo<hi by omega)
       exact ⟨ρ.put lo (w.heap.size,c',0),yk e sz w.heap.size m c' vs::H,he,⟨⟨_,_,vs,Env.put_same,SV.dens_mono he.le _ _ HQ,rfl⟩,hd.mono he.le⟩,Env.put_free hf,an,
        hw.pushNew h3 hb (λN F hN=>⟨hN,h2⟩),_,rfl,by simp[SV.den,Env.put_same]⟩
      · cases h
    ·rename_i g off len cap own;simp only[SV.den,Option.map_eq_some_iff]at hv;obtain⟨en,NH,rfl⟩:=hv;split at h
     ·rename_i cs n' Mo e' ho;obtain⟨k,φ,k1,k2,k3,k4⟩:=MF hd ho;obtain⟨b,cc,xs,k5,k6,rfl⟩:=k2;rw[k5]at NH;cases NH;obtain⟨_,_,jc⟩:∃N F,(yk e' Mo b n' cc xs).op N F w:=by obtain⟨F,N,hi⟩:=hw;exact⟨_,_,hi.owns k _ k1⟩
      have fb:=jc.2
      have yZ:n'<=cc:=by
       rcases fb.2 with⟨h0,_⟩|⟨g',Yc,cur,NS,_,_,yZ,_⟩
       · cases h0
       · cases NS;exact yZ
      split at h
      ·rename_i hb;simp only[Bool.and_eq_true]at hb;obtain⟨⟨⟨b1,b2⟩,b3⟩,U⟩:=hb;have b1:=Qo b1;have b2:=Qo b2;have U:=Nat.le_of_ble_eq_true U;subst b1;subst b2;subst b3;split at h
       ·rename_i gY bw;cases h;obtain⟨b',c2,l1,H2,l2,l3⟩:=pL (P:=P) (C:=C) hd bw HQ;rw[k5]at l1;cases l1;obtain⟨l4,l5⟩:=l3 w hw;refine⟨_,_,uD ht hs (by simp;omega) K2 Zw ax l4,?_⟩;exact RU hf l2 l5 (by simp[SV.den,k5])
       · cases h
      ·split at h
       ·rename_i hb;cases h;simp only[Bool.and_eq_true]at hb;obtain⟨⟨⟨⟨⟨⟨⟨b1,b2⟩,b3⟩,U⟩,b5⟩,b6⟩,b7⟩,b8⟩:=hb;have b2:=Qo b2;have b3:=Qo b3;have U:=Qo U;have b5:=Qo b5;have b6:=Qo b6;subst b1;subst b2;subst b3;subst U;subst b5;subst b6;obtain⟨b',c',w',h1,h2,h3,h4⟩:=kT (ty:=ty) (c:=c) ht hr b7 fb K2 Zw (na HQ b8) (.inr ax);refine⟨_,w',by simpa using h1,?_⟩;have hg:=hf lo (Nat.le_refl _) an;have he:=Env.put_ext (e:=(b',c',0)) hg (show lo<hi by omega)
        exact ⟨ρ.put lo (b',c',0),_,he,k4 _ lo _ (yk e' Mo b' (len+m) c' (xs++vs)) he.le ⟨_,_,_,Env.put_same,SV.dens_mono he.le _ _ (P5 k6 HQ),rfl⟩,Env.put_free hf,an,
         hw.swap k1 (λN F h j hj=>by cases hj;exact h.1) h3 b' h4 (λN F hN=>⟨hN,h2⟩),_,rfl,by simp[SV.den,Env.put_same]⟩
       ·split at h
        ·rename_i hb;simp only[Bool.and_eq_true,Bool.not_eq_true']at hb;obtain⟨⟨⟨b1,b2⟩,b3⟩,U⟩:=hb;have b2:=Qo b2;have U:=Nat.le_of_ble_eq_true U;subst b1;subst b2;split at h
         ·rename_i old GD;cases h;obtain⟨bb,c2,os,l1,l2,l3,l4⟩:=lj (C:=C) hd GD;rw[k5]at l1;cases l1;obtain⟨c',w',h1,h2,h3,h4⟩:=zq (ty:=ty) (c:=c) ht hr b3 (by rw[zd l2,l3]) (l4 w hw) K2 Zw U;refine⟨_,w',by simpa using h1,?_⟩;have hg:=hf lo (Nat.le_refl _) an;have he:=Env.put_ext (e:=(w.heap.size,c',0)) hg (show lo<hi by omega)
          exact ⟨ρ.put lo (w.heap.size,c',0),yk e sz w.heap.size (len+m) c' (os++vs)::H,he,⟨⟨_,_,_,Env.put_same,SV.dens_mono he.le _ _ (P5 l2 HQ),rfl⟩,hd.mono he.le⟩,Env.put_free hf,an,
           hw.pushNew h3 h4 (λN F hN=>⟨hN,h2⟩),_,rfl,by simp[SV.den,Env.put_same]⟩
         · cases h
        · cases h
     ·rename_i cs e' ho;obtain⟨k,φ,k1,k2,k3,k4⟩:=MF hd ho;obtain⟨b,cc,xs,k5,k6,rfl⟩:=k2;rw[k5]at NH;cases NH;obtain⟨_,_,jc⟩:∃N F,(Fact.blk b xs e').op N F w:=by obtain⟨F,N,hi⟩:=hw;exact⟨_,_,hi.owns k _ k1⟩
      split at h
      ·rename_i hb;cases h;simp only[Bool.and_eq_true,Bool.not_eq_true']at hb;obtain⟨⟨⟨⟨⟨⟨b1,b2⟩,b3⟩,U⟩,b5⟩,b6⟩,b7⟩:=hb;have b2:=Qo b2;have b3:=Qo b3;have U:=Qo U;have b5:=Qo b5;subst b1;subst b2;subst b3;subst b5;have hxl:=zd k6
       have U0:len<=maxLen:=by
        simp only[mY,Bool.and_eq_true]at b6;have:=Nat.le_of_ble_eq_true b6.1.1.1;unfold maxLen;omega
       have fb:w.ownsRow 0 e' sz (.slice (some ⟨b,0,none⟩) len len) len xs:=⟨by rw[hxl,U],.inr ⟨b,len,xs.toArray,rfl,Nat.zero_le _,jc.2,Nat.le_refl _,U0,by simp[hxl,U],by simp[U,<-hxl]⟩⟩
       obtain⟨b',c',w',h1,h2,h3,h4⟩:=kT (ty:=ty) (c:=c) ht hr b6 fb K2 Zw (na HQ b7) (.inr ax);refine⟨_,w',by simpa using h1,?_⟩;have hg:=hf lo (Nat.le_refl _) an;have he:=Env.put_ext (e:=(b',c',0)) hg (show lo<hi by omega)
       exact ⟨ρ.put lo (b',c',0),_,he,k4 _ lo _ (yk e' sz b' (len+m) c' (xs++vs)) he.le ⟨_,_,_,Env.put_same,SV.dens_mono he.le _ _ (P5 k6 HQ),rfl⟩,Env.put_free hf,an,
        hw.swap (v:=.slice (some ⟨b,0,none⟩) len len) k1 (λN F h j hj=>by cases hj;exact h.1) h3 b' h4 (λN F hN=>⟨hN,h2⟩),_,rfl,by simp[SV.den,Env.put_same]⟩
      · cases h
     · cases h
    · cases h
def M4:Option Nat->Option Value->Prop
 |none,none=>True
 |some j,some v=>∃k,v=.int k (j:Int)
 |_,_=>False
theorem oD (h:Rel ρ E fr hp S H) {o:Option Operand} {b:Option Nat} (U:Ju fr o=some b) {a:Act} (hf:fq n S a):M4 b (o.map a.eval):=by
 unfold Ju at U;split at U;· cases U;trivial
 ·split at U
  ·rename_i x k j hx;cases U;exact⟨k,by simp[hf.eval (mf h hx)]⟩
  · cases U
theorem My {k:IntKind} {j y:Nat} {c:BoundsCode} {w:World} (h:j<=y):(Instr.sliceBound (.int k (j:Int)) y c).run P w=.ok j w:=by
 have:(0:Int)<=(j:Int)/\(j:Int)<=(y:Int):=an
 simp[Instr.sliceBound,asIntOf,h]
theorem qq {len cap:Nat} {l h m:Option Nat} {lv hv mv:Option Value} {w:World} (hl:M4 l lv)(hh:M4 h hv)(hm:M4 m mv)(PS:(m.isNone||h.isSome)=true)
  (h1:eK l 0<=eK h len) (U:eK h len<=eK m cap) (h3:eK m cap<=cap):(Instr.sliceBounds true len cap lv hv mv).run P w=.ok (eK l 0,eK h len,eK m cap) w:=by
 cases m<;>cases mv<;>first|exact hm.elim|skip
 ·cases h<;>cases hv<;>first|exact hh.elim|skip
  ·cases l<;>cases lv<;>first|exact hl.elim|skip
   · simp[Instr.sliceBounds,eK]
   · obtain⟨k,rfl⟩:=hl;simp only[eK]at h1 U h3⊢;simp[Instr.sliceBounds,My h1]
  ·obtain⟨kh,rfl⟩:=hh;cases l<;>cases lv<;>first|exact hl.elim|skip
   · simp only[eK]at h1 U h3⊢;simp[Instr.sliceBounds,My U]
   · obtain⟨k,rfl⟩:=hl;simp only[eK]at h1 U h3⊢;simp[Instr.sliceBounds,My h1,My U]
 ·obtain ⟨km,rfl⟩:=hm;cases h<;>cases hv<;>first|exact hh.elim|skip
  · cases PS
  ·obtain⟨kh,rfl⟩:=hh;cases l<;>cases lv<;>first|exact hl.elim|skip
   · simp only[eK]at h1 U h3⊢;simp[Instr.sliceBounds,My U,My h3]
   · obtain⟨k,rfl⟩:=hl;simp only[eK]at h1 U h3⊢;simp[Instr.sliceBounds,My h1,My U,My h3]
theorem w9 {t e sz len cap:Nat} {U:Option Addr} {l h m:Option Nat} {lv hv mv:Option Value} {w:World} (ht:fR P t=some e)(hs:QP P e=some sz)(hl:M4 l lv)(hh:M4 h hv)(hm:M4 m mv)(PS:(m.isNone||h.isSome)=true)
  (h1:eK l 0<=eK h len) (h2:eK h len<=eK m cap) (h3:eK m cap<=cap):(Instr.sliceAt t (.slice U len cap) lv hv mv).run P w=.ok (.slice (if eK m cap=eK l 0 then U else U.map (·.add (eK l 0*sz))) (eK h len-eK l 0) (eK m cap-eK l 0)) w:=by
 have:=qq (P:=P) (w:=w) hl hh hm PS h1 h2 h3;simp[Instr.sliceAt,Instr.slice,run_underlying (uu ht),this,yM hs]
theorem B7 {lo hi dv t:Nat} {x r:SV} {dc:di} {v:Value} {l h m:Option Nat} {lv hv mv:Option Value} (hf:mg ρ lo hi) (hd:iH ρ E hp H) (hx:x.den ρ E=some v) (hl:M4 l lv) (hh:M4 h hv) (hm:M4 m mv) (PS:(m.isNone||h.isSome)=true)
  (he:DK P hp lo t x l h m=some (r,dc,dv)) (Cf:dv<=hi) {w:World} (hw:Qj C [] H w):
  ∃val,(Instr.sliceAt t v lv hv mv).run P w=.ok val w/\uX C ρ E lo hi (some r) dc dv (.value val) w:=by
 unfold DK at he;split at he;· cases he
 ·rename_i e ht;split at he;· cases he
  ·rename_i sz hs;split at he
   ·cases hx;split at he
    ·rename_i hb;cases he;simp only[Bool.and_eq_true]at hb;obtain⟨⟨U,b2⟩,b3⟩:=hb;have U:=Qo U;have b2:=Qo b2;have b3:=Qo b3;refine⟨_,w9 ht hs hl hh hm PS an an an,?_⟩;rw[U,b2,b3];exact RU hf hd hw rfl
    · cases he
   ·rename_i g off len cap own;simp only[SV.den,Option.map_eq_some_iff]at hx;obtain⟨en,NH,rfl⟩:=hx
    have key:∀(cp:Nat),(if own then en.2.1-cap else cap)=cp->eK l 0<=eK h len->eK h len<=eK m cp->eK m cp<=cp->
      (Instr.sliceAt t (.slice (some ⟨en.1,en.2.2+off,none⟩) len cp) lv hv mv).run P w=.ok (.slice (some ⟨en.1,en.2.2+(if eK m cp=eK l 0 then off else off+eK l 0*sz),none⟩) (eK h len-eK l 0) (eK m cp-eK l 0)) w:=by
     intro cp _ h1 h2 h3;rw[w9 ht hs hl hh hm PS h1 h2 h3];split;· rfl
     · simp[Ed,Nat.add_assoc]
    split at he
    ·split at he
     ·rename_i hb;cases he;simp only[Bool.and_eq_true]at hb;obtain⟨⟨U,b2⟩,b3⟩:=hb;have U:=Nat.le_of_ble_eq_true U;have b2:=Nat.le_of_ble_eq_true b2;have b3:=Nat.le_of_ble_eq_true b3;refine⟨_,by simpa using key cap rfl U b2 b3,RU hf hd hw ?_⟩;cases YN:Nat.beq (eK m cap) (eK l 0)with
      |true=>simp[SV.den,NH,Qo YN]
      |false=>simp[SV.den,NH,LO YN]
     · cases he
    ·split at he
     ·rename_i cs n' Mo e' ho;obtain⟨k,φ,k1,k2,k3,k4⟩:=MF hd ho;obtain⟨b,cc,xs,k5,k6,rfl⟩:=k2;rw[k5]at NH;cases NH;obtain⟨_,_,jc⟩:∃N F,(yk e' Mo b n' cc xs).op N F w:=by obtain⟨F,N,hi⟩:=hw;exact⟨_,_,hi.owns k _ k1⟩
      have yZ:n'<=cc:=by
       rcases jc.2.2 with⟨h0,_⟩|⟨g',Yc,cur,NS,_,_,yZ,_⟩
       · cases h0
       · cases NS;exact yZ
      split at he
      ·rename_i mm;have e0:eK (some mm) (cc-cap)=mm:=rfl;split at he
       ·rename_i hb;cases he;simp only[Bool.and_eq_true]at hb;obtain⟨⟨U,b2⟩,b3⟩:=hb;have U:=Nat.le_of_ble_eq_true U;have b2:=Nat.le_of_ble_eq_true b2;have b3:=Nat.le_of_ble_eq_true b3;have eR:=key (cc-cap) ax U (by rw[e0];exact b2) (by rw[e0];omega);rw[e0]at eR;refine⟨_,by simpa using eR,RU hf hd hw ?_⟩;cases YN:Nat.beq mm (eK l 0)with
        |true=>simp[SV.den,k5,Qo YN]
        |false=>simp[SV.den,k5,LO YN]
       · cases he
      ·have e0:eK none (cc-cap)=cc-cap:=rfl;split at he
       ·rename_i hb;simp only[Bool.and_eq_true]at hb;have U:=Nat.le_of_ble_eq_true hb.1;have b2:=Nat.le_of_ble_eq_true hb.2;have eR:=key (cc-cap) ax U (by rw[e0];omega) (by rw[e0];omega);rw[e0]at eR;split at he
        ·rename_i h0;cases he;have h0:=Qo h0;refine⟨_,by simpa using eR,RU hf hd hw ?_⟩;rw[h0];simp[SV.den,k5]
        ·rename_i h0 bq;cases he;have h0:=LO h0;have bq:=Nat.le_of_ble_eq_true bq;refine⟨_,by simpa using eR,RU hf hd hw ?_⟩;rw[if_neg an];simp[SV.den,k5,Nat.sub_add_eq]
        ·rename_i h0 bq;cases he;refine⟨_,by simpa using eR,?_⟩;have hg:=hf lo (Nat.le_refl _) an;have he:=Env.put_ext (e:=(b,cc-cap-eK l 0,0+(if cc-cap=eK l 0 then off else off+eK l 0*sz))) hg (show lo<hi by omega);exact⟨_,H,he,hd.mono he.le,Env.put_free hf,an,hw,_,rfl,by simp[SV.den,Env.put_same]⟩
       · cases he
     · cases he
   · cases he
theorem Kl (z:Value):SV.dens ρ E (SV.of z).cells=some z.cells.toList:=SV.cells_den (SV.of_den z) (λi=>by unfold SV.of;split<;>simp)
theorem zY (h:Rel ρ E fr hp S H) {lo hi dv:Nat} {o:Oper} {r:Option SV} {dc:di} (hf:mg ρ lo hi)(he:Dk P fr hp lo o.op=some (r,dc,dv))(Cf:dv<=hi):
  ∀(a:Act) w,fq n S a->Qj C [] H w->∃nx w',(execOp a.eval o).run P w=.ok nx w'/\uX C ρ E lo hi r dc dv nx w':=by
 intro a w eP hw;unfold Dk at he;split at he
 ·
  rename_i t U;unfold Ac at he;split at he
  ·rename_i z hz;cases he;refine⟨.value (.pointer (some ⟨w.heap.size,0,none⟩)),w.alloc (.cells z.cells.toList.toArray t),?_,oo (off:=0) _ hf Cf h.hp hw (Kl z) (λca e=>by simp[SV.den,e])⟩;simp[execOp,U,Instr.alloc,W3 hz,newVar,VZ]
  · cases he
 ·
  rename_i t x U;unfold K1 at he;split at he
  ·rename_i v hx;obtain⟨u,h1,h2⟩:=qN h hx;split at he
   ·rename_i hq;cases he;refine⟨.value (.pointer (some ⟨w.heap.size,0,none⟩)),w.alloc (.cells u.cells.toList.toArray t),?_,oo (off:=0) _ hf Cf h.hp hw (SV.cells_den h1 (λi e=>by subst e;cases hq)) (λca e=>by simp[SV.den,e])⟩;simp[execOp,U,Instr.box,eP.eval h2,newVar,VZ]
   · cases he
  · cases he
 ·
  rename_i t len ps U;unfold Qc8 at he;split at he
  ·rename_i e ht;split at he
   ·rename_i sz z parts hs hz NQ;split at he
    ·rename_i out hle U5;cases he;obtain⟨xs,h1,h2⟩:=ow h NQ;obtain⟨os,h3,h4⟩:=kZ (xy _) h1 U5
     have h0:ps.map (λx=>(x.1,a.eval x.2))=xs.toArray:=by
      rw[<-eP.evalP h2,<-List.map_toArray]
     have h5:=Qbw ht hs hz hle rfl h4 w;rw[<-h0]at h5;refine⟨.value (.slice (some ⟨w.heap.size,0,none⟩) len len),_,?_,oo (off:=0) _ hf Cf h.hp hw h3 (λca e=>by simp[SV.den,e])⟩;simp only[execOp,U,Sem.run_bind];rw[show(ps.map λx=>match x with|(i,x)=>(i,a.eval x))=ps.map (λx=>(x.1,a.eval x.2))from rfl,h5];rfl
    · cases he
   · cases he
  · cases he
 ·
  rename_i t x y U;unfold Ae at he;split at he
  ·rename_i g off v hx hy;split at he
   ·rename_i hb;simp only[Bool.and_eq_true]at hb;split at he
    ·rename_i gY bw;cases he;obtain⟨p,h1,h2⟩:=qN h hx;obtain⟨u,h3,h4⟩:=qN h hy;have hc:=SV.cells_den h3 (Fa hb.1);obtain⟨b,c,h5,H',h6,h7⟩:=pL (P:=P) (C:=C) h.hp bw hc;obtain⟨h8,h9⟩:=h7 w hw;simp only[SV.den,h5,Option.map_some,Option.some.injEq]at h1;subst h1;refine⟨.skip,_,?_,ρ,H',Ext.refl _ _ _,h6,hf,Nat.le_refl _,h9,rfl⟩;have sS:=hb.2;split at sS
     ·rename_i sz hs;have jd:u.cells.size=sz:=by rw[<-Qo sS,<-zd hc];simp
      simp only[execOp,U,eP.eval h2,eP.eval h4,Instr.storeAt,Instr.sureAddr,storeVar,Sem.run_bind,Sem.run_pure,Result.andThen_ok,yM hs,jd];simp[h8]
     · cases sS
    · cases he
   · cases he
  · cases he
 ·
  rename_i t x l hh m U;unfold Ad at he;split at he
  ·rename_i v l' h' m' hx hl hhb hm;split at he
   ·rename_i PS;split at he
    ·rename_i r' gY mV hs;cases he;obtain⟨u,h1,h2⟩:=qN h hx;obtain⟨val,h3,h4⟩:=B7 (P:=P) hf h.hp h1 (oD h hl eP) (oD h hhb eP) (oD h hm eP) PS hs Cf hw;refine⟨.value val,w,?_,h4⟩;simp[execOp,U,eP.eval h2,h3]
    · cases he
   · cases he
  · cases he
 ·
  rename_i xs ts U;unfold vC at he;split at he
  ·rename_i x y t t' HN Wq;have Ue:xs=#[x,y]:=by cases xs;simp_all
   have Ua:ts=#[t,t']:=by cases ts;simp_all
   subst Ue;subst Ua;split at he
   ·rename_i v u hx hy ht;have:=Qo ht;subst this;split at he
    ·rename_i r' gY mV hs;cases he;obtain⟨v',h1,h2⟩:=qN h hx;obtain⟨u',h3,h4⟩:=qN h hy;obtain⟨val,w',h5,h6⟩:=xo (P:=P) (ty:=o.type) hf h.hp h1 h3 hs Cf hw;refine⟨.value val,w',?_,h6⟩;simp[execOp,U,resolve,invoke,builtin,eP.eval h2,eP.eval h4,h5]
    · cases he
   · cases he
  · cases he
 · cases he
end ER
end
end
section
open Go.RowKit
noncomputable section
def jO {α:Type} (P:Program):Sem α->Option α
 | .pure a=>some a
 | .program k=>jO P (k P)
 | .mark _ k=>jO P k
 |_=>none
theorem Qbu {α:Type} {P:Program}:∀{s:Sem α} {a:α},jO P s=some a->∀w,s.run P w=.ok a w
 | .pure a,b,h,w=>by cases h;rfl
 | .program k,b,h,w=>by
   unfold jO at h;unfold Sem.run;exact Qbu h w
 | .mark m k,b,h,w=>by
   unfold jO at h;unfold Sem.run;exact Qbu h w
 | .load _ _ _,_,h,_=>by cases h
 | .store _ _ _ _,_,h,_=>by cases h
 | .new _ _,_,h,_=>by cases h
 | .shape _ _,_,h,_=>by cases h
 | .freeze _ _ _,_,h,_=>by cases h
 | .frozen _ _,_,h,_=>by cases h
 | .getObj _ _,_,h,_=>by cases h
 | .setObj _ _ _,_,h,_=>by cases h
 | .choose _ _,_,h,_=>by cases h
 | .sys _ _,_,h,_=>by cases h
 | .halt _,_,h,_=>by cases h
def vO:Env:=λ_=>none
def Su (v:SV):Option Value:=SV.den vO [] v
mutual
theorem SV.close_den {ρ:Env} {E:List Value}:∀(v:SV)(x:Value),v.den vO []=some x->v.den ρ E=some x
 | .v _,_,e=>e
 | .opq i,x,e=>by simp[SV.den]at e
 | .ptr g off,x,e=>by simp[SV.den,vO]at e
 | .sl g off len cap own,x,e=>by simp[SV.den,vO]at e
 | .mp g,x,e=>by simp[SV.den,vO]at e
 | .fn f fi fu,x,e=>by
   obtain⟨us,vs,h1,U,rfl⟩:=sK e;exact Jn (SV.close_dens fi us h1) (SV.close_dens fu vs U)
 | .agg l,x,e=>by
   simp only[SV.den,Option.map_eq_some_iff]at e⊢;obtain⟨a,h1,U⟩:=e;exact⟨a,SV.close_dens l a h1,U⟩
 | .tup l,x,e=>by
   simp only[SV.den,Option.map_eq_some_iff]at e⊢;obtain⟨a,h1,U⟩:=e;exact⟨a,SV.close_dens l a h1,U⟩
theorem SV.close_dens {ρ:Env} {E:List Value}:∀(l:List SV)(xs:List Value),SV.dens vO [] l=some xs->SV.dens ρ E l=some xs
 |[],_,e=>e
 | x::l,xs,e=>by
   obtain⟨v,ws,rfl,h1,U⟩:=QF e;exact Cv (SV.close_den x v h1) (SV.close_dens l ws U)
end
def SV.ofT:Value->SV
 | .tuple vs=>.tup (vs.toList.map SV.of)
 |x=>SV.of x
theorem ED {ρ:Env} {E:List Value}:∀(l:List Value),SV.dens ρ E (l.map SV.of)=some l
 |[]=>rfl
 |x::l=>Cv (SV.of_den x) (ED l)
theorem SV.ofT_den {ρ:Env} {E:List Value} (x:Value):(SV.ofT x).den ρ E=some x:=by
 unfold SV.ofT;split;· simp[SV.den,ED]
 · exact SV.of_den x
def qQ (fr:Tr)(x:Operand):Option Value:=match jm fr x with
 |some v=>Su v
 |none=>none
def Vm (fr:Tr)(x:Operand):Value:=match qQ fr x with
 |some y=>y
 |none=>undef
def Ar:Op->Bool
 | .select _ _=>true
 |_=>false
def Nr (P:Program)(fr:Tr)(o:Oper):Option SV:=match(o.op.operands.toList.all λx=>(qQ fr x).isSome)&& !Ar o.op with
 | true=>match jO P (execOp (Vm fr) o)with
   |some (.value v)=>some (SV.ofT v)
   |_=>none
 |false=>none
def L3 (P:Program)(t:Nat):Option (Nat×Nat):=match P.underlying t with
 |some (.array n e)=>some (n,e)
 |_=>none
theorem L4 {P:Program} {t n e:Nat} (h:L3 P t=some (n,e)):P.underlying t=some (.array n e):=by
 unfold L3 at h;split at h;· rename_i hu;cases h;exact hu
 · cases h
def UG (P:Program)(fr:Tr):Op->Option SV
 | .binOp op _ x y _=>match jm fr x,jm fr y with
   | some (.v (.string a)),some (.v (.string b))=>match op with
     | .eql=>some (.v (.bool (a.data.toList==b.data.toList)))
     | .neq=>some (.v (.bool (!(a.data.toList==b.data.toList))))
     | .lss=>some (.v (.bool (Op.bytesLess a.data.toList b.data.toList)))
     | .gtr=>some (.v (.bool (!(Op.bytesLess a.data.toList b.data.toList||a.data.toList==b.data.toList))))
     |_=>none
   |_,_=>none
 | .indexAddr t x i=>match jm fr x,jm fr i,L3 P t with
   | some (.ptr g off),some (.v (.int _ (.ofNat j))),some (n,e)=>match QP P e,Nat.blt j n with
     |some sz,true=>some (.ptr g (off+j*sz))
     |_,_=>none
   |_,_,_=>none
 |_=>none
def KB (P:Program)(fr:Tr)(hp:di)(o:Oper):Option (SV×Option Nat):=match KA P fr hp o.op with
 |some r=>some r
 | none=>match UG P fr o.op with
   |some v=>some (v,none)
   | none=>match Nr P fr o with
     |some v=>some (v,none)
     |none=>none
section
variable {P:Program} {n:FD} {ρ:Env} {E:List Value} {fr:Tr} {hp:di} {S:List (Nat×Value)} {H:List Fact}
theorem xt (h:Rel ρ E fr hp S H) {x:Operand} {y:Value} (U:qQ fr x=some y):de S x=some y:=by
 unfold qQ at U;split at U
 ·rename_i v hv;obtain⟨z,h1,h2⟩:=qN h hv;rw[SV.close_den v y U]at h1;cases h1;exact h2
 · cases U
theorem vy (h:Rel ρ E fr hp S H) {o:Oper} {v:SV} (he:Nr P fr o=some v):kS P n ρ E hp S H o v none:=by
 unfold Nr at he;split at he
 ·rename_i U;simp only[Bool.and_eq_true,List.all_eq_true,Bool.not_eq_true']at U;split at he
  ·rename_i y hy;cases he;refine wY (SV.ofT_den y) λa w hf=>?_
   have hc:execOp a.eval o=execOp (Vm fr) o:=execOp_congr o (λcs b e=>by rw[e]at U;exact absurd U.2 (by simp[Ar])) (λx hx=>by
    have h1:=U.1 x (cv hx);obtain⟨z,hz⟩:=Option.isSome_iff_exists.1 h1;rw[hf.eval (xt h hz)];simp[Vm,hz])
   rw[hc];exact Qbu hy w
  · cases he
 · cases he
theorem H8 (h:Rel ρ E fr hp S H) {o:Oper} {v:SV} (he:UG P fr o.op=some v):kS P n ρ E hp S H o v none:=by
 unfold UG at he;split at he
 ·rename_i op t x y u U;split at he
  ·rename_i a b hx hy
   split at he<;>first|(cases he;done)|(
    cases he;exact wY rfl (Ia U (mf h hx) (mf h hy) λw=>by simp[eqGuard,binOp,Op.stringOp,ByteArray.toList_eq]))
  · cases he
 ·rename_i t x i U;split at he
  ·rename_i g off ik j m e hx hi ht;split at he
   ·rename_i sz hs hj;cases he;obtain⟨y,h1,h2⟩:=qN h hx;simp only[SV.den,Option.map_eq_some_iff]at h1;obtain⟨en,h3,rfl⟩:=h1;have eo:=mf h hi;have bq:j<m:=Nat.le_of_ble_eq_true hj;refine wY (x:=.pointer (some ⟨en.1,en.2.2+off+j*sz,none⟩)) (by simp[SV.den,h3,Nat.add_assoc]) λa w hf=>?_
    simp[execOp,U,hf.eval h2,hf.eval eo,Instr.indexAt,asIntOf,Instr.sureAddr,run_underlying (L4 ht),bq,yM hs,Ed]
   · cases he
  · cases he
 · cases he
theorem DH (h:Rel ρ E fr hp S H) {o:Oper} {v:SV} {d:Option Nat} (he:KB P fr hp o=some (v,d)):kS P n ρ E hp S H o v d:=by
 unfold KB at he;split at he
 ·rename_i r hr;cases he;exact DG h hr
 ·split at he
  ·rename_i v' U;cases he;exact H8 h U
  ·split at he
   ·rename_i v' U;cases he;exact vy h U
   · cases he
end
end
end
section
open Go.RowKit
noncomputable section
section
variable {P:Program} {C:Ctx} {n:FD} {ρ:Env} {E:List Value} {fr:Tr} {hp:di} {S:List (Nat×Value)} {H:List Fact}
def JJ (P:Program)(fr:Tr)(hp:di)(lo:Nat)(op:Op):Option (Option SV×di×Nat):=Dk P fr hp lo op
theorem zZ (h:Rel ρ E fr hp S H) {lo hi U:Nat} {o:Oper} {r:Option SV} {dc:di} (hf:mg ρ lo hi)(he:JJ P fr hp lo o.op=some (r,dc,U))(Cf:U<=hi):
  ∀(a:Act) w,fq n S a->Qj C [] H w->∃nx w',(execOp a.eval o).run P w=.ok nx w'/\uX C ρ E lo hi r dc U nx w':=by
 exact zY h hf he Cf
def Kz (P:Program)(fr:Tr)(hp:di)(o:Oper):Option (SV×Option Nat):=KB P fr hp o
theorem lB (h:Rel ρ E fr hp S H) {o:Oper} {v:SV} {d:Option Nat} (he:Kz P fr hp o=some (v,d)):kS P n ρ E hp S H o v d:=by
 exact DH h he
end
end
end
section
open Go.RowKit
noncomputable section
abbrev yQ:=Nat->List SV->di->Nat->Nat->Option (SV×di×Nat)
def Kr (P:Program)(call:yQ)(fr:Tr)(hp:di)(lo hi:Nat)(o:Oper)(y:Operand)(xs:Array Operand):Option (Option SV×di×Nat):=match jm fr y,Gg fr xs.toList with
 | some (.fn f fi fu),some vs=>match cz P f with
   | true=>match call f (fi++vs++fu) hp lo hi with
     |some (v,U,dv)=>some (some v,U,dv)
     |none=>none
   | false=>match Nr P fr o with
     |some v=>some (some v,hp,lo)
     |none=>none
 |_,_=>none
def ra (P:Program)(fr:Tr)(hp:di)(lo hi:Nat)(op:Op):Option (Option SV×di×Nat):=match JJ P fr hp lo op with
 | some (r,dc,U)=>match Nat.ble U hi with
   |true=>some (r,dc,U)
   |false=>none
 |none=>none
def Ks (P:Program)(fr:Tr)(hp:di)(o:Oper):Option SV:=match Ff fr o.op with
 |some v=>some v
 | none=>match Kz P fr hp o with
   |some (v,_)=>some v
   |none=>none
def NZ:Op->Bool
 | .alloc _| .box _ _| .makeSlice _ _ _| .buildSlice _ _ _| .store _ _ _| .makeMap _ _| .mapUpdate _ _ _ _| .mapEntry _ _ _| .entryStore _ _ _ _| .range _ _| .next _ _| .entry _=>true
 | .call {callee:=.builtin .append,args:=_,argTypes:=_}=>true
 | .call {callee:=.builtin .clear,args:=_,argTypes:=_}=>true
 | .call {callee:=.builtin .delete,args:=_,argTypes:=_}=>true
 |_=>false
def opC (P:Program)(call:yQ)(fr:Tr)(hp:di)(lo hi:Nat)(o:Oper):Option (Option SV×di×Nat):=
 match o.op with
 | .call {callee:=.value y,args:=xs,argTypes:=_}=>Kr P call fr hp lo hi o y xs
 | op=>match NZ op with
   |true=>ra P fr hp lo hi op
   | false=>match Ks P fr hp o with
     |some v=>some (some v,hp,lo)
     |none=>ra P fr hp lo hi op
def Of (P:Program)(call:yQ)(n:Nat)(ops:Array Oper)(o:Oper)(fr:Tr)(hp:di)(lo hi:Nat):Option (Tr×di×Nat):=
 match FI ops fr o with
 | some false=>match o.dst with
   | some d=>match Nat.blt d n&&Nat.blt d 16000 with
     |true=>some (fr.put d (.v undef),hp,lo)
     |false=>none
   |none=>none
 | some true=>match opC P call fr hp lo hi o with
   | some (some v,U,dv)=>match o.dst with
     | some d=>match Nat.blt d n&&Nat.blt d 16000 with
       |true=>some (fr.put d v,U,dv)
       |false=>none
     |none=>some (fr,U,dv)
   | some (none,U,dv)=>match o.dst with
     |none=>some (fr,U,dv)
     |some _=>none
   |none=>none
 |none=>none
def Oh (P:Program)(call:yQ)(n:Nat)(ops:Array Oper)(hi:Nat):List Oper->Tr->di->Nat->Option (Tr×di×Nat)
 |[],fr,hp,lo=>some (fr,hp,lo)
 | o::rest,fr,hp,lo=>match Of P call n ops o fr hp lo hi with
   |some (gp,U,dv)=>Oh P call n ops hi rest gp U dv
   |none=>none
def Ib (P:Program)(E:List Value)(call:yQ):Prop:=
 ∀ f args hp lo hi v dc dv,call f args hp lo hi=some (v,dc,dv)->∀ρ vals H,SV.dens ρ E args=some vals->iH ρ E hp H->mg ρ lo hi->
   QB P f vals [] H (λx bo Hr=>bo=[]/\∃U,Ext ρ U lo hi/\v.den U E=some x/\iH U E dc Hr/\mg U dv hi/\lo<=dv)
theorem tm:∀{l:List Nat} {m:Nat},(∀i∈l,i<m)->l.Nodup->fE l m=true
 |[],_,_,_=>rfl
 | i::l,m,h,hn=>by
   simp only[fE,Bool.and_eq_true,Bool.not_eq_true',List.any_eq_false];have ET:=List.nodup_cons.1 hn;refine⟨⟨Nat.ble_eq_true_of_le (h i ax),λj U hb=>?_⟩,tm (λj U=>h j (by simp[U])) ET.2⟩;exact ET.1 (by rw[Qo hb];exact U)
theorem vU (H:List Fact):QO H (List.range H.length)=H:=by
 unfold QO
 have:∀(A B:List Fact),(List.range B.length).filterMap (λi=>(A++B)[A.length+i]?)=B:=by
  intro A B;induction B generalizing A with
  |nil=>rfl
  | cons b B U=>
    rw[List.length_cons,List.range_succ_eq_map,List.filterMap_cons];simp only[Nat.add_zero,List.getElem?_append_right (Nat.le_refl _),Nat.sub_self,List.getElem?_cons_zero];rw[List.filterMap_map];have:=U (A++[b]);simp only[List.append_assoc,List.singleton_append,List.length_append,List.length_singleton]at this
    have e:((λi=>(A++b::B)[A.length+i]?)∘Nat.succ)=λi=>(A++b::B)[A.length+1+i]?:=by
     funext i;simp only[Function.comp,Nat.succ_eq_add_one];rw[show A.length+(i+1)=A.length+1+i from by omega]
    rw[e,this]
 simpa using this [] H
theorem IM {P:Program} {n:FD} {S:List (Nat×Value)} {o:Oper} {f:FuncId} {y:Operand} {xs:Array Operand} {ts:Array TypeId} {U args:List Value} {fi fu:Array Value} (ho:o.op=.call {callee:=.value y,args:=xs,argTypes:=ts})(hy:de S y=some (.func (.func f) fi fu))(hx:vq S xs.toList=some U)
  (jq:cz P f=true) (ha:fi.toList++U++fu.toList=args):∀(a:Act) w,fq n S a->(execOp a.eval o).run P w=.ok (.enter f args.toArray) w:=by
 intro a w hf
 have fx:xs.map a.eval=U.toArray:=by
  have:=hf.evalL hx;have h0:xs=xs.toList.toArray:=ax
  rw[<-this,h0,List.map_toArray]
 have h2:(resolve a.eval {callee:=.value y,args:=xs,argTypes:=ts} o.type).run P w=.ok {target:=.fn (.func f) fu,args:=fi++U.toArray} w:=by
  simp[resolve,hf.eval hy,Deferred.ofValue,fx]
 have h3:fi++U.toArray++fu=args.toArray:=by rw[<-ha];simp
 unfold execOp;simp only[ho,Sem.run_bind,h2,Result.andThen_ok];simp[invoke,W5 jq,<-h3]
section run
variable {P:Program} {C:Ctx} {n:FD} {Q:Exit->Act->World->Prop} {E:List Value} {call:yQ} {ops:Array Oper} {rest:List Oper}
def WH (P:Program)(C:Ctx)(n:FD)(Q:Exit->Act->World->Prop)(E:List Value)(ops:Array Oper)(rest:List Oper)(ρ:Env)(lo hi:Nat)(fr:Tr)(hp:di)(dv:Nat):Prop:=
 ∀U S' H',Ext ρ U lo hi->Rel U E fr hp S' H'->mg U dv hi->lo<=dv->WL P C n Q [] H' S' ops rest
theorem tq (ej:Ib P E call) {fr:Tr} {hp dc:di} {lo dv hi:Nat} {o:Oper} {r:Option SV} (he:opC P call fr hp lo hi o=some (r,dc,dv)) {ρ:Env} {S:List (Nat×Value)} {H:List Fact} (h:Rel ρ E fr hp S H)(hf:mg ρ lo hi)
  (hg:QI ops S o=some true)
  (next:∀ca H' x,Ext ρ ca lo hi->iH ca E dc H'->mg ca dv hi->lo<=dv->(match r with|some v=>v.den ca E=some x|none=>o.dst=none)->(∀a w,fq n S a->Qj C [] H' w->wpList P ops Q rest (a.put o.dst x) w)) (hr:r=none->o.dst=none):
  WL P C n Q [] H S ops (o::rest):=by
 have ER:∀{op:Op},op=o.op->ra P fr hp lo hi op=some (r,dc,dv)->WL P C n Q [] H S ops (o::rest):=by
  intro op jc he;unfold ra at he;subst jc;split at he
  ·rename_i r' gY mV hh;split at he
   ·rename_i hle;cases he;intro a w U hw;obtain⟨nx,w',h1,ca,H',e1,e2,e3,e4,e5,e6⟩:=zZ (P:=P) h hf hh (Nat.le_of_ble_eq_true hle) a w U hw;refine wpList_step λK hK=>?_
    rw[Hn U hg,if_pos rfl];unfold Oper.wp;rw[h1];cases r with
    | some v=>
      obtain⟨x,rfl,h2⟩:=e6;rw[Oper.upon_value];exact hK _ _ (next ca H' x e1 e2 e3 e4 h2 a w' U e5)
    | none=>
      obtain rfl:=e6;rw[Oper.upon_skip];exact hK _ _ (next ca H' undef e1 e2 e3 e4 (hr rfl) a w' U e5)
   · cases he
  · cases he
 have read:∀{v:SV} {d:Option Nat},kS P n ρ E hp S H o v d->(r,dc,dv)=(some v,hp,lo)->WL P C n Q [] H S ops (o::rest):=by
  rintro v d ⟨x,B,m,h1,h2,_,_,h3⟩ e;cases e;intro a w U hw
  have xK:zb [] B w:=by
   obtain⟨F,N,eo⟩:=hw;refine⟨⟨F,λφ bj=>by cases bj⟩,λb hb=>?_⟩;rw[<-h2]at hb;obtain⟨i,_,hb⟩:=List.mem_filterMap.1 hb;exact⟨_,_,eo.owns i b hb⟩
  refine wpList_step λK hK=>?_;rw[Hn U hg,if_pos rfl];unfold Oper.wp;rw[h3 a w U xK,Oper.upon_value];exact hK _ _ (next ρ H x (Ext.refl _ _ _) h.hp hf (Nat.le_refl _) h1 a w U hw)
 unfold opC at he;split at he
 ·
  rename_i y xs ts ho;unfold Kr at he;split at he
  ·rename_i f fi fu vs hy HN;split at he
   ·rename_i jq;split at he
    · rename_i v gY mV hc;cases he;obtain⟨u,h1,h2⟩:=qN h hy;obtain⟨us,cs,h6,h3,rfl⟩:=sK h1;obtain⟨ys,h4,h5⟩:=QbO h HN;have Zs:=ej _ _ _ _ _ _ _ _ hc ρ (us++ys++cs) H (P5 (P5 h6 h4) h3) h.hp hf;refine sb (List.range H.length) [] hg (IM (args:=us++ys++cs) ho h2 h5 jq ax) (vU H) Zs (λF w _ φ bj=>by cases bj) (tm ax (cv List.nodup_range)) (H':=[]) rfl ?_;rintro x bo Hr ⟨rfl,ca,e1,e2,e3,e4,e5⟩ a w U hw;exact next ca Hr x e1 e3 e4 e5 e2 a w U (cv hw)
    · cases he
   ·split at he
    · rename_i v hv;exact read (vy (P:=P) (n:=n) h hv) (Option.some.inj he).symm
    · cases he
  · cases he
 ·split at he;· exact ER rfl he
  ·split at he
   ·rename_i v hv;unfold Ks at hv;split at hv
    · rename_i v' NS;cases hv;obtain⟨x,h1,h2⟩:=tx h NS;exact read (d:=none) ⟨x,[],[],h1,rfl,λ_=>rfl,(λ_ h=>by cases h),λa w hf _=>lz hf h2 w⟩ (Option.some.inj he).symm
    · split at hv
      ·rename_i v' d NS;cases hv;exact read (lB (P:=P) (n:=n) h NS) (Option.some.inj he).symm
      · cases hv
   · exact ER rfl he
theorem vQ (ej:Ib P E call) {fr gp:Tr} {hp dc:di} {lo dv hi:Nat} {o:Oper} (he:Of P call n ops o fr hp lo hi=some (gp,dc,dv)) {ρ:Env} {S:List (Nat×Value)} {H:List Fact} (h:Rel ρ E fr hp S H)(hf:mg ρ lo hi)
  (next:WH P C n Q E ops rest ρ lo hi gp dc dv):WL P C n Q [] H S ops (o::rest):=by
 unfold Of at he;split at he
 ·
  rename_i hw;split at he
  ·rename_i d hd;split at he
   ·rename_i hb;cases he;simp only[Bool.and_eq_true]at hb;have:=Nat.le_of_ble_eq_true hb.2;exact Lx (QaZ h hw) hd hb.1 rfl (next ρ _ H (Ext.refl _ _ _) (h.put (λ_ _ h=>h) an rfl h.hp) hf (Nat.le_refl _))
   · cases he
  · cases he
 ·rename_i hw;have hg:=QaZ h hw;split at he
  ·rename_i v gY mV ho;split at he
   ·rename_i d hd;split at he
    ·rename_i hb;cases he;simp only[Bool.and_eq_true]at hb;have h16:=Nat.le_of_ble_eq_true hb.2;refine tq ej ho h hf hg (λca H' x U e2 e3 e4 e5 a w eP iO=>?_) (λe=>by cases e);rw[hd];exact next ca _ H' U (h.put U.le an e5 e2) e3 e4 _ w (eP.put (Nat.le_of_ble_eq_true hb.1) rfl) iO
    · cases he
   ·rename_i hd;cases he;refine tq ej ho h hf hg (λca H' x U e2 e3 e4 e5 a w eP iO=>?_) (λe=>by cases e);rw[hd];exact next ca S H' U (h.mono U.le e2) e3 e4 _ w eP iO
  ·rename_i gY mV ho;split at he
   ·rename_i hd;cases he;refine tq ej ho h hf hg (λca H' x U e2 e3 e4 e5 a w eP iO=>?_) (λ_=>hd);rw[hd];exact next ca S H' U (h.mono U.le e2) e3 e4 _ w eP iO
   · cases he
  · cases he
 · cases he
theorem vS (ej:Ib P E call) {hi:Nat}:∀{l:List Oper} {fr gp:Tr} {hp dc:di} {lo U:Nat},Oh P call n ops hi l fr hp lo=some (gp,dc,U)->∀{ρ:Env} {S:List (Nat×Value)} {H:List Fact},Rel ρ E fr hp S H->mg ρ lo hi->
   (∀ca S' H',Ext ρ ca lo hi->Rel ca E gp dc S' H'->mg ca U hi->lo<=U->WE C n Q [] H' S' .normal)->WL P C n Q [] H S ops l
 | [],fr,gp,hp,dc,lo,U,he,ρ,S,H,h,hf,next=>by
   cases he;exact Q2 (next ρ S H (Ext.refl _ _ _) h hf (Nat.le_refl _))
 | o::l,fr,gp,hp,dc,lo,U,he,ρ,S,H,h,hf,next=>by
   unfold Oh at he;split at he
   ·rename_i HH gY mV h1;exact vQ ej h1 h hf λca S' H' e1 e2 e3 e4=>vS ej he e2 e3 λHi Sh H'' f1 f2 f3 f4=>next Hi Sh H'' (e1.trans f1 e4 (Nat.le_refl _)) f2 f3 an
   · cases he
end run
end
end
section
open Go.RowKit
noncomputable section
def Value.eqb:Value->Value->Bool
 | .bool a,.bool b=>a==b
 | .int k a,.int U b=>NW k U&&decide (a=b)
 | .string a,.string b=>decide (a=b)
 | .pointer none,.pointer none=>true
 | .slice none a b,.slice none c d=>Nat.beq a c&&Nat.beq b d
 | .map none,.map none=>true
 | .nilFunc,.nilFunc=>true
 | .nilIface,.nilIface=>true
 | .tuple a,.tuple b=>Nat.beq a.size 0&&Nat.beq b.size 0
 |_,_=>false
theorem Value.eqb_eq {a b:Value} (h:Value.eqb a b=true):a=b:=by
 unfold Value.eqb at h;split at h;· rw[eq_of_beq h]
 · simp only[Bool.and_eq_true,decide_eq_true_eq]at h;rw[qZ h.1,h.2]
 · rw[of_decide_eq_true h]
 · rfl
 · simp only[Bool.and_eq_true]at h;rw[Qo h.1,Qo h.2]
 · rfl
 · rfl
 · rfl
 ·simp only[Bool.and_eq_true]at h;rw[Array.eq_empty_of_size_eq_zero (Qo h.1),Array.eq_empty_of_size_eq_zero (Qo h.2)]
 · cases h
mutual
def SV.beq:SV->SV->Bool
 | .v a,.v b=>Value.eqb a b
 | .opq i,.opq j=>Nat.beq i j
 | .ptr g o,.ptr g' o'=>Nat.beq g g'&&Nat.beq o o'
 | .sl g o l c w,.sl g' o' l' c' w'=>Nat.beq g g'&&Nat.beq o o'&&Nat.beq l l'&&Nat.beq c c'&&(w==w')
 | .mp g,.mp g'=>Nat.beq g g'
 | .fn f u l,.fn f' u' l'=>Nat.beq f f'&&SV.beqs u u'&&SV.beqs l l'
 | .agg l,.agg l'=>SV.beqs l l'
 | .tup l,.tup l'=>SV.beqs l l'
 |_,_=>false
def SV.beqs:List SV->List SV->Bool
 |[],[]=>true
 |x::l,y::m=>SV.beq x y&&SV.beqs l m
 |_,_=>false
end
mutual
theorem SV.beq_eq:∀(a b:SV),SV.beq a b=true->a=b
 | .v a,b,h=>by
   cases b<;>simp only[SV.beq]at h<;>first|(cases h;done)|rw[Value.eqb_eq h]
 | .opq i,b,h=>by
   cases b<;>simp only[SV.beq]at h<;>first|(cases h;done)|rw[Qo h]
 | .ptr g o,b,h=>by
   cases b<;>simp only[SV.beq,Bool.and_eq_true]at h<;>first|(cases h;done)|rw[Qo h.1,Qo h.2]
 | .sl g o l c w,b,h=>by
   cases b<;>simp only[SV.beq,Bool.and_eq_true]at h<;>first|(cases h;done)|(obtain⟨⟨⟨⟨h1,U⟩,h3⟩,h4⟩,h5⟩:=h;rw[Qo h1,Qo U,Qo h3,Qo h4,eq_of_beq h5])
 | .mp g,b,h=>by
   cases b<;>simp only[SV.beq]at h<;>first|(cases h;done)|rw[Qo h]
 | .fn f u l,b,h=>by
   cases b<;>simp only[SV.beq,Bool.and_eq_true]at h<;>first|(cases h;done)|rw[Qo h.1.1,SV.beqs_eq _ _ h.1.2,SV.beqs_eq _ _ h.2]
 | .agg l,b,h=>by
   cases b<;>simp only[SV.beq]at h<;>first|(cases h;done)|rw[SV.beqs_eq _ _ h]
 | .tup l,b,h=>by
   cases b<;>simp only[SV.beq]at h<;>first|(cases h;done)|rw[SV.beqs_eq _ _ h]
theorem SV.beqs_eq:∀(a b:List SV),SV.beqs a b=true->a=b
 |[],b,h=>by cases b<;>simp only[SV.beqs]at h<;>first|rfl|cases h
 | x::l,b,h=>by
   cases b<;>simp only[SV.beqs,Bool.and_eq_true]at h<;>first|(cases h;done)|rw[SV.beq_eq _ _ h.1,SV.beqs_eq _ _ h.2]
end
def vp:List (SV×SV×Nat)->List (SV×SV×Nat)->Bool
 |[],[]=>true
 |(k,v,b)::r,(k',v',U)::s=>SV.beq k k'&&SV.beq v v'&&Nat.beq b U&&vp r s
 |_,_=>false
theorem zG:∀{a b:List (SV×SV×Nat)},vp a b=true->a=b
 |[],b,h=>by cases b<;>simp only[vp]at h<;>first|rfl|cases h
 | (k,v,n)::r,b,h=>by
   cases b with
   |nil=>simp only[vp]at h;cases h
   | cons y m=>
     obtain⟨U,v',n'⟩:=y;simp only[vp,Bool.and_eq_true]at h;rw[SV.beq_eq _ _ h.1.1.1,SV.beq_eq _ _ h.1.1.2,Qo h.1.2,zG h.2]
def HO.beq:HO->HO->Bool
 | .blk c t,.blk c' t'=>SV.beqs c c'&&Nat.beq t t'
 | .row c n s t,.row c' n' s' t'=>SV.beqs c c'&&Nat.beq n n'&&Nat.beq s s'&&Nat.beq t t'
 | .mp es c,.mp U c'=>vp es U&&Nat.beq c c'
 | .it m s l p,.it m' s' l' p'=>decide (m=m')&&Nat.beq s s'&&decide (l=l')&&Nat.beq p p'
 | .ro c,.ro c'=>SV.beqs c c'
 |_,_=>false
theorem HO.beq_eq {a b:HO} (h:HO.beq a b=true):a=b:=by
 unfold HO.beq at h;split at h;· simp only[Bool.and_eq_true]at h;rw[SV.beqs_eq _ _ h.1,Qo h.2]
 · simp only[Bool.and_eq_true]at h;rw[SV.beqs_eq _ _ h.1.1.1,Qo h.1.1.2,Qo h.1.2,Qo h.2]
 · simp only[Bool.and_eq_true]at h;rw[zG h.1,Qo h.2]
 · simp only[Bool.and_eq_true,decide_eq_true_eq]at h;rw[h.1.1.1,Qo h.1.1.2,h.1.2,Qo h.2]
 · rw[SV.beqs_eq _ _ h]
 · cases h
def sT:di->di->Bool
 |[],[]=>true
 |(g,o)::l,(U,o')::m=>Nat.beq g U&&HO.beq o o'&&sT l m
 |_,_=>false
theorem sU:∀{a b:di},sT a b=true->a=b
 |[],b,h=>by cases b<;>simp only[sT]at h<;>first|rfl|cases h
 | (g,o)::l,b,h=>by
   cases b with
   |nil=>simp only[sT]at h;cases h
   | cons y m=>
     obtain⟨U,o'⟩:=y;simp only[sT,Bool.and_eq_true]at h;rw[Qo h.1.1,HO.beq_eq h.1.2,sU h.2]
def Ux:Option SV->Option SV->Bool
 |none,none=>true
 |some a,some b=>SV.beq a b
 |_,_=>false
theorem Oi {a b:Option SV} (h:Ux a b=true):a=b:=by
 unfold Ux at h;split at h;· rfl
 · rw[SV.beq_eq _ _ h]
 · cases h
def Tr.beq:Tr->Tr->Bool
 | .nil,.nil=>true
 | .node l x r,.node l' U r'=>Ux x U&&Tr.beq l l'&&Tr.beq r r'
 |_,_=>false
theorem Tr.beq_eq:∀{a b:Tr},Tr.beq a b=true->a=b
 | .nil,b,h=>by cases b<;>simp only[Tr.beq]at h<;>first|rfl|cases h
 | .node l x r,b,h=>by
   cases b with
   |nil=>simp only[Tr.beq]at h;cases h
   | node U x' r'=>
     simp only[Tr.beq,Bool.and_eq_true]at h;rw[Oi h.1.1,Tr.beq_eq h.1.2,Tr.beq_eq h.2]
structure Nd where
 L:List Nat
 D:List (Nat×Nat×HO)
 fr:Tr
 hp:di
def Yg (x y:Nat×Nat×HO):Bool:=Nat.beq x.1 y.1&&Nat.beq x.2.1 y.2.1&&HO.beq x.2.2 y.2.2
def UH (a b:List (Nat×Nat×HO)):Bool:=a.all λx=>b.any λy=>Yg x y
def Nd.same (a b:Nd):Bool:=a.L.all (ia b.L)&&b.L.all (ia a.L)&&UH a.D b.D&&UH b.D a.D&&Tr.beq a.fr b.fr&&sT a.hp b.hp
def GK:Op->Bool
 | .move _| .binOp _ _ _ _ _| .unOp _ _ _| .pick _ _ _| .fieldAddr _ _ _| .load _ _| .indexAddr _ _ _| .extract _ _| .build _ _| .nilCheck _| .makeFunc _ _ _| .index _ _ _| .convert _ _ _| .field _ _ _=>true
 | .call {callee:=.builtin .len,args:=_,argTypes:=_}=>true
 |_=>false
def mU (ops:Array Oper):List Nat:=(List.range ops.size).filter λi=>match ops[i]? with
 | some o=>GK o.op&&(match o.dst with
   | some d=>(List.range ops.size).all λj=>Nat.beq i j||(match ops[j]? with
     |some U=>!ia (lA ops U) d||CD ops j i
     |none=>false)
   |none=>false)
 |none=>false
def Dw (P:Program) (n:Nat) (ops:Array Oper) (aq:List Nat) (i:Nat) (o:Oper) (U:Nd):Option Nd:=match o.dst with
 |none=>none
 | some d=>match lT ops aq U.L i n d o&&Nat.blt d 16000 with
   |false=>none
   | true=>match FI ops U.fr o with
     |some false=>some ⟨i::U.L,U.D,U.fr.put d (.v undef),U.hp⟩
     | some true=>match Ff U.fr o.op with
       |some v=>some ⟨i::U.L,U.D,U.fr.put d v,U.hp⟩
       | none=>match Kz P U.fr U.hp o with
         |some (v,none)=>some ⟨i::U.L,U.D,U.fr.put d v,U.hp⟩
         |  some (v,some g)=>match kB U.hp g with
            |some ob=>some ⟨i::U.L,(i,g,ob)::U.D,U.fr.put d v,U.hp⟩
            |none=>none
         |none=>none
     |none=>none
def vT (P:Program)(n:Nat)(ops:Array Oper)(aq:List Nat):List Nat->Nd->Option Nd
 |[],U=>some U
 | i ::r,U=>match ops[i]? with
   | some o=>match !ia U.L i&&(o.after.toList.all λe=>!Region.binds .any e||ia U.L e.on)with
     | true=>match Dw P n ops aq i o U with
       |some Cj=>vT P n ops aq r Cj
       |none=>none
     |false=>vT P n ops aq r U
   |none=>none
def NJ (g:Nat)(o:HO):di->di
 |[]=>[(g,o)]
 | (U,o')::r=>match Nat.ble U g with
   |true=>(g,o)::(U,o')::r
   |false=>(U,o')::NJ g o r
def Aa:di->di
 |[]=>[]
 |(g,o)::r=>NJ g o (Aa r)
def O9 (P:Program)(call:yQ)(n:Nat)(ops:Array Oper)(aq:List Nat)(lo w k:Nat)(U:Nd):Option Nd:=match ops[k]? with
 | some o=>match Of P call n ops o U.fr U.hp (lo+k*w) (lo+k*w+w)with
   | some (gp,hp0,_)=>match Aa hp0 with
     | dc=>match U.D.all (λx=>CD ops k x.1||(match kB dc x.2.1 with|some ob=>HO.beq ob x.2.2|none=>false))with
       |true=>vT P n ops aq aq ⟨k::U.L,U.D,gp,dc⟩
       |false=>none
   |none=>none
 |none=>none
def F6 (P:Program)(call:yQ)(n:Nat)(ops:Array Oper)(U:List Nat)(lo w:Nat)(nd:Nd):List Nat->Option (List Nd)
 |[]=>some []
 | k::r=>match O9 P call n ops U lo w k nd,F6 P call n ops U lo w nd r with
   |some x,some l=>some (x::l)
   |_,_=>none
def Eu (ops:Array Oper)(L:List Nat):Bool:=(List.range ops.size).all (ia L)
def qS (P:Program)(call:yQ)(n:Nat)(ops:Array Oper)(U:List Nat)(lo w:Nat):List Nd->Option (List Nd)
 |[]=>some []
 | nd::r=>match !Eu ops nd.L&&(lC ops U nd.L).all (λk=>!ia U k)with
   | true=>match F6 P call n ops U lo w nd (lC ops U nd.L),qS P call n ops U lo w r with
     |some l,some m=>some (l++m)
     |_,_=>none
   |false=>none
def ZK (U:Nd)(l:List Nd):List Nd:=match l.any (λx=>Nd.same U x)with
 |true=>l
 |false=>U::l
def xx:List Nd->List Nd
 |[]=>[]
 |U::r=>ZK U (xx r)
def O4 (P:Program)(call:yQ)(n:Nat)(ops:Array Oper)(aq:List Nat)(lo w:Nat):Nat->List Nd->Option Nd
 |0,_=>none
 | f + 1,R4=>match R4 with
   |[]=>none
   | U::rest=>match Eu ops U.L with
     | true=>match rest.all (λx=>Eu ops x.L&&Tr.beq x.fr U.fr&&sT x.hp U.hp)with
       |true=>some U
       |false=>none
     | false=>match qS P call n ops aq lo w (U::rest)with
       |some ns=>O4 P call n ops aq lo w f (xx ns)
       |none=>none
def IL (P:Program)(call:yQ)(n:Nat)(ops:Array Oper)(hi:Nat)(fr:Tr)(hp:di)(lo:Nat):Option (Tr×di×Nat):=
 match P.follows .mixedOrders&&gT ops (mU ops)&&Nat.ble lo hi with
 | true=>match vT P n ops (mU ops) (mU ops) ⟨[],[],fr,hp⟩with
   | some U=>match O4 P call n ops (mU ops) lo ((hi-lo)/(65536*(ops.size+1))) (ops.size+1) [U]with
     |some fin=>some (fin.fr,fin.hp,lo+ops.size*((hi-lo)/(65536*(ops.size+1))))
     |none=>none
   |none=>none
 |false=>none
end
end
section
open Go.RowKit
noncomputable section
def DD (ρ:Env)(E:List Value):List (Nat×Nat×HO)->List (Nat×Fact)->Prop
 |[],[]=>True
 |(i,g,o)::r,(j,φ)::s=>i=j/\o.isFact ρ E g φ/\DD ρ E r s
 |_,_=>False
section
variable {ρ ca:Env} {E:List Value}
theorem IterM.det {m a b:Option Nat} (h:IterM ρ m a)(k:IterM ρ m b):a=b:=by
 cases m<;>cases a<;>cases b<;>first|rfl|exact h.elim|exact k.elim|(obtain⟨c,hc⟩:=h;obtain⟨d,U⟩:=k;rw[hc]at U;cases U;rfl)
theorem jf.det:∀{l:List (SV×SV×Nat)} {m m':List MapEntry},jf ρ E l m->jf ρ E l m'->m=m'
 |[],[],[],_,_=>rfl
 | (k,v,b)::r,⟨ek,ev,eb⟩::s,⟨ek',ev',eb'⟩::s',h,h'=>by
   obtain⟨h1,U,h3,h4⟩:=h;obtain⟨k1,k2,k3,k4⟩:=h';simp only at h1 U h3 k1 k2 k3;rw[h1]at k1;cases k1;rw[U]at k2;cases k2;subst h3;subst k3;rw[jf.det h4 k4]
 |[],_::_,_,h,_=>h.elim
 |[],[],_::_,_,h=>h.elim
 |_::_,[],_,h,_=>h.elim
 |_::_,_::_,[],_,h=>h.elim
theorem HO.isFact_det {g:Nat} {o:HO} {φ ψ:Fact} (h:o.isFact ρ E g φ)(k:o.isFact ρ E g ψ):φ=ψ:=by
 cases o with
 | blk cs ty=>
   obtain⟨b,c,vs,h1,U,rfl⟩:=h;obtain⟨b',c',vs',k1,k2,rfl⟩:=k;rw[h1]at k1;cases k1;rw[U]at k2;cases k2;rfl
 | row cs n sz ty=>
   obtain⟨b,c,vs,h1,U,rfl⟩:=h;obtain⟨b',c',vs',k1,k2,rfl⟩:=k;rw[h1]at k1;cases k1;rw[U]at k2;cases k2;rfl
 | mp es c=>
   obtain⟨b,c1,es1,h1,U,rfl⟩:=h;obtain⟨b',c',Ni,k1,k2,rfl⟩:=k;rw[h1]at k1;cases k1;rw[jf.det U k2]
 | it m since seen jT=>
   obtain⟨b,c,bm,h1,U,rfl⟩:=h;obtain⟨b',c',bm',k1,k2,rfl⟩:=k;rw[h1]at k1;cases k1;rw[IterM.det U k2]
 | ro cs=>
   obtain⟨b,c,vs,h1,U,rfl⟩:=h;obtain⟨b',c',vs',k1,k2,rfl⟩:=k;rw[h1]at k1;cases k1;rw[U]at k2;cases k2;rfl
theorem DD.mono (h:ρ.le ca):∀{l:List (Nat×Nat×HO)} {m:List (Nat×Fact)},DD ρ E l m->DD ca E l m
 |[],[],_=>trivial
 |(_,_,_)::_,(_,_)::_,U=>⟨U.1,HO.isFact_mono h U.2.1,DD.mono h U.2.2⟩
 |[],_::_,U=>U.elim
 |_::_,[],U=>U.elim
theorem DD.mem:∀{l:List (Nat×Nat×HO)} {m:List (Nat×Fact)},DD ρ E l m->∀x∈m,∃g o,(x.1,g,o)∈l/\o.isFact ρ E g x.2
 |[],[],_,x,hx=>by cases hx
 | (i,g,o)::r,(j,φ)::s,U,x,hx=>by
   rcases List.mem_cons.1 hx with rfl|hx;· obtain⟨rfl,h1,_⟩:=U;exact⟨g,o,ax,h1⟩
   ·obtain⟨g',o',h1,h2⟩:=DD.mem U.2.2 x hx;exact⟨g',o',by simp[h1],h2⟩
 |[],_::_,U,_,_=>U.elim
 |_::_,[],U,_,_=>U.elim
theorem DD.mem':∀{l:List (Nat×Nat×HO)} {m:List (Nat×Fact)},DD ρ E l m->∀i g o,(i,g,o)∈l->∃φ,(i,φ)∈m/\o.isFact ρ E g φ
 |[],[],_,_,_,_,U=>by cases U
 | (i,g,o)::r,(j,φ)::s,hd,i',g',o',U=>by
   rcases List.mem_cons.1 U with U|U;· cases U;obtain⟨rfl,h1,_⟩:=hd;exact⟨φ,ax,h1⟩
   ·obtain⟨ψ,h1,h2⟩:=DD.mem' hd.2.2 i' g' o' U;exact⟨ψ,by simp[h1],h2⟩
 |[],_::_,hd,_,_,_,_=>hd.elim
 |_::_,[],hd,_,_,_,_=>hd.elim
theorem DD.ex {l:List (Nat×Nat×HO)} (U:∀i g o,(i,g,o)∈l->∃φ,HO.isFact ρ E g o φ):∃m,DD ρ E l m:=by
 induction l with
 |nil=>exact⟨[],trivial⟩
 | cons x r ih=>
   obtain⟨i,g,o⟩:=x;obtain⟨φ,h1⟩:=U i g o ax;obtain⟨m,h2⟩:=ih λi' g' o' h=>U i' g' o' (by simp[h]);exact⟨(i,φ)::m,rfl,h1,h2⟩
theorem tL {a b:List (Nat×Nat×HO)} (h:UH a b=true):∀x∈a,x∈b:=λx U=>by
 have:=List.all_eq_true.1 h x U;obtain⟨y,hy,h1⟩:=List.any_eq_true.1 this;simp only[Yg,Bool.and_eq_true]at h1
 have e:x=y:=by
  obtain⟨x1,x2,x3⟩:=x;obtain⟨y1,y2,y3⟩:=y;simp only at h1;rw[Qo h1.1.1,Qo h1.1.2,HO.beq_eq h1.2]
 rw[e];exact hy
end
theorem AP (A B D:List Fact):(List.range B.length).filterMap (λi=>(A++B++D)[A.length+i]?)=B:=by
 have h:(List.range B.length).filterMap (λi=>(A++B++D)[A.length+i]?)=(List.range B.length).filterMap (λi=>B[i]?):=by
  have : ∀l:List Nat,(∀i∈l,i<B.length)->l.filterMap (λi=>(A++B++D)[A.length+i]?)=l.filterMap (λi=>B[i]?):=by
   intro l;induction l with
   |nil=>intro _;rfl
   | cons i l ih=>
     intro h;have h1:(A++B++D)[A.length+i]? =B[i]?:=by
         have:=h i ax;rw[List.append_assoc,List.getElem?_append_right an,Nat.add_sub_cancel_left,List.getElem?_append_left this]
     simp only[List.filterMap_cons,h1,ih (λj U=>h j (by simp[U]))]
  exact this _ (λi hi=>List.mem_range.1 hi)
 rw[h];exact vU B
theorem Qj.swapAdj {C:Ctx} {Φ pre post:List Fact} {a b:Fact} {w:World} (h:Qj C Φ (pre++a::b::post) w):Qj C Φ (pre++b::a::post) w:=by
 have hl:(pre++a::b::post).length=pre.length+post.length+2:=by simp;omega
 have:=h.pick (List.range pre.length++[pre.length+1,pre.length]++(List.range post.length).map (·+(pre.length+2))) (tm (λi hi=>by
  rw[hl];simp only[List.mem_append,List.mem_range,List.mem_cons,List.not_mem_nil,or_false,List.mem_map]at hi;rcases hi with(hi|hi|hi)|⟨j,hj,rfl⟩<;>omega) (by
  rw[List.nodup_append,List.nodup_append];refine⟨⟨List.nodup_range,ax,?_⟩,?_,?_⟩
  ·intro x U y hy;simp only[List.mem_range,List.mem_cons,List.not_mem_nil,or_false]at U hy;omega
  · exact List.Pairwise.map _ (λx y HP=>an) List.nodup_range
  ·intro x U y hy;simp only[List.mem_append,List.mem_range,List.mem_cons,List.not_mem_nil,or_false,List.mem_map]at U hy;obtain⟨j,hj,rfl⟩:=hy;omega))
 have e:QO (pre++a::b::post) (List.range pre.length++[pre.length+1,pre.length]++(List.range post.length).map (·+(pre.length+2)))=pre++b::a::post:=by
  unfold QO;rw[List.filterMap_append,List.filterMap_append,List.filterMap_map];have h1:=AP [] pre (a::b::post);have h2:=AP (pre++[a,b]) post [];simp only[List.nil_append,List.length_nil,Nat.zero_add]at h1;simp only[List.append_nil,List.length_append,List.length_cons,List.length_nil,List.append_assoc,List.cons_append,List.nil_append]at h2;rw[h1]
  have h3:((λi=>(pre++a::b::post)[i]?)∘(·+(pre.length+2)))=λi=>(pre++a::b::post)[pre.length+(0+1+1)+i]?:=by
   funext i;simp only[Function.comp];rw[show i+(pre.length+2)=pre.length+(0+1+1)+i from by omega]
  rw[h3,h2];simp
 rw[e]at this;exact this
theorem vB {ρ:Env} {E:List Value} {C:Ctx} {g:Nat} {o:HO} {φ:Fact} (hf:o.isFact ρ E g φ):∀{hp:di} {H:List Fact},iH ρ E hp H->∃H',iH ρ E (NJ g o hp) H'/\∀pre w,Qj C [] (pre++φ::H) w->Qj C [] (pre++H') w
 |[],[],_=>⟨[φ],⟨hf,trivial⟩,λ_ _ h=>h⟩
 | (g',o')::r,ψ::H,U=>by
   unfold NJ;split;· exact⟨φ::ψ::H,⟨hf,U⟩,λ_ _ h=>h⟩
   ·obtain⟨H',h1,h2⟩:=vB (C:=C) hf U.2;refine⟨ψ::H',⟨U.1,h1⟩,λpre w h=>?_⟩;have:=h2 (pre++[ψ]) w (cv h.swapAdj);simpa using this
 |[],_::_,U=>U.elim
 |_::_,[],U=>U.elim
theorem sY {ρ:Env} {E:List Value} {C:Ctx}:∀{hp:di} {H:List Fact},iH ρ E hp H->∃H',iH ρ E (Aa hp) H'/\∀pre w,Qj C [] (pre++H) w->Qj C [] (pre++H') w
 |[],[],_=>⟨[],trivial,λ_ _ h=>h⟩
 | (g,o)::r,φ::H,U=>by
   obtain⟨H1,h1,h2⟩:=sY (C:=C) U.2;obtain⟨H2,h3,h4⟩:=vB (C:=C) U.1 h1;refine⟨H2,h3,λpre w h=>h4 pre w ?_⟩;have:=h2 (pre++[φ]) w (cv h);simpa using this
 |[],_::_,U=>U.elim
 |_::_,[],U=>U.elim
section draw
variable {P:Program} {C:Ctx} {n:FD} {Q:Exit->Act->World->Prop} {E:List Value} {call:yQ} {ops:Array Oper} {aq:List Nat} {lo hi w:Nat}
theorem Lz {L L1:List Nat} {D D1:List (Nat×Fact)} {Φ H:List Fact} {S:List (Nat×Value)} (h:WX P C n Q ops aq L1 D1 Φ H S)(hL:∀i,i∈L↔i∈L1)(hD:∀x,x∈D↔x∈D1):WX P C n Q ops aq L D Φ H S:=by
 intro listed a av w U;refine h listed a av w ⟨U.frm,U.asize,U.adef,U.holds,U.lsize,λi hi=>(hL i).1 (U.sub i hi),λi hi=>U.inL i ((hL i).2 hi),λx hx=>U.agree x λi o hi=>hx i o ((hL i).1 hi),?_,λx hx=>U.deps x ((hD x).2 hx)⟩;intro i hi hu;obtain⟨o,d',v,HS,B,h1,h2,h3,h4,h5,h6,h7,h8,h9⟩:=(U.owed i ((hL i).2 hi) hu).ex;exact⟨o,d',v,HS,B,h1,h2,h3,h4,h5,λe he hb=>(hL _).1 (h6 e he hb),h7,λb hb=>(hD _).1 (h8 b hb),h9⟩
structure NdR (ρ0:Env) (E:List Value) (ops:Array Oper) (lo hi w:Nat) (ρ:Env) (nd:Nd) (S:List (Nat×Value)) (H:List Fact) (D:List (Nat×Fact)):Prop where
 rel:Rel ρ E nd.fr nd.hp S H
 ext:Ext ρ0 ρ lo hi
 free:∀j,j<ops.size->j∉nd.L->mg ρ (lo+j*w) (lo+j*w+w)
 rest:mg ρ (lo+ops.size*w) hi
 dd:DD ρ E nd.D D
def om (P:Program)(C:Ctx)(n:FD)(Q:Exit->Act->World->Prop)(ρ0:Env)(E:List Value)(ops:Array Oper)(aq:List Nat)(lo hi w:Nat)(U:Nd):Prop:=
 ∀ρ S H D,NdR ρ0 E ops lo hi w ρ U S H D->WX P C n Q ops aq U.L D [] H S
variable {ρ0:Env}
theorem AB (cn:gT ops aq=true) {i:Nat} {o:Oper} {nd Cj:Nd} (ho:ops[i]? =some o)(he:Dw P n ops aq i o nd=some Cj)(hw:om P C n Q ρ0 E ops aq lo hi w Cj):om P C n Q ρ0 E ops aq lo hi w nd:=by
 intro ρ S H D U;unfold Dw at he;split at he;· cases he
 ·rename_i d hd;split at he;· cases he
  ·rename_i hb;simp only[Bool.and_eq_true]at hb;have h16:=Nat.le_of_ble_eq_true hb.2;have fJ:∀j,j<ops.size->j∉i::nd.L->mg ρ (lo+j*w) (lo+j*w+w):=λj hj hn=>U.free j hj λhm=>hn (List.mem_cons_of_mem _ hm)
   split at he
   ·rename_i ta;cases he;exact LB cn i ho hd hb.1 rfl (QaZ U.rel ta) (hw ρ _ H D ⟨U.rel.put (λ_ _ h=>h) an rfl U.rel.hp,U.ext,fJ,U.rest,U.dd⟩)
   ·rename_i ta;have hg:=QaZ U.rel ta;split at he
    ·rename_i v hv;cases he;obtain⟨x,h1,h2⟩:=tx U.rel hv;exact FP cn i ho hd hb.1 rfl hg h2 (hw ρ _ H D ⟨U.rel.put (λ_ _ h=>h) an h1 U.rel.hp,U.ext,fJ,U.rest,U.dd⟩)
    ·split at he
     ·rename_i v hv;cases he;obtain⟨x,B,m,h1,h2,h3,_,h4⟩:=lB (P:=P) (n:=n) U.rel hv;have hB:=h3 rfl;subst hB;exact M8 cn i [] m ho hd hb.1 rfl h2 hg h4 (hw ρ _ H D ⟨U.rel.put (λ_ _ h=>h) an h1 U.rel.hp,U.ext,fJ,U.rest,U.dd⟩)
     ·rename_i v g hv;split at he
      ·rename_i ob hob;cases he;obtain⟨x,B,m,h1,h2,_,h3,h4⟩:=lB (P:=P) (n:=n) U.rel hv;obtain⟨ob',φ,h5,h6,rfl⟩:=h3 g rfl;rw[hob]at h5;cases h5;exact M8 cn i [φ] m ho hd hb.1 rfl h2 hg h4 (hw ρ _ H ((i,φ)::D) ⟨U.rel.put (λ_ _ h=>h) an h1 U.rel.hp,U.ext,fJ,U.rest,⟨rfl,h6,U.dd⟩⟩)
      · cases he
     · cases he
   · cases he
theorem QaB (cn:gT ops aq=true):∀{l:List Nat} {nd U:Nd},vT P n ops aq l nd=some U->om P C n Q ρ0 E ops aq lo hi w U->om P C n Q ρ0 E ops aq lo hi w nd
 |[],nd,U,he,hw=>by cases he;exact hw
 | i ::r,nd,U,he,hw=>by
   unfold vT at he;split at he
   ·rename_i o ho;split at he
    ·split at he
     ·rename_i nd2 h2;exact AB cn ho h2 (QaB cn he hw)
     · cases he
    · exact QaB cn he hw
   · cases he
theorem GP (ej:Ib P E call)(cn:gT ops aq=true)(Cf:lo+ops.size*w<=hi) {k:Nat} {nd Cj:Nd} (hk:k<ops.size)(hkL:k∉nd.L)(he:O9 P call n ops aq lo w k nd=some Cj)(hw:om P C n Q ρ0 E ops aq lo hi w Cj):
  ∀ρ S H D,NdR ρ0 E ops lo hi w ρ nd S H D->∀o,ops[k]? =some o->WL P C n (QX P C n Q ops aq nd.L D [] k) [] H S ops [o]:=by
 intro ρ S H D U o ho;unfold O9 at he;rw[ho]at he;simp only at he;split at he
 ·rename_i gp dc dv h1;split at he
  ·rename_i hD;have Wr:=QaB cn he hw;refine vQ ej h1 U.rel (U.free k hk hkL) λca S' H' e1 e2 e3 e4=>Q2 λa w' hf iO=>?_
   obtain⟨H2,d1,d2⟩:=sY (C:=C) e2.hp;have e2':=e2.mono (λ_ _ h=>h) d1;have ZA:=d2 [] w' (cv iO);simp only[List.nil_append]at ZA;have hkw:k*w+w<=ops.size*w:=by rw[<-Nat.succ_mul];exact Nat.mul_le_mul_right _ hk
   refine⟨[],H2,S',hf,ZA,(λφ bj=>by cases bj),λx hx hp=>?_,Wr ca S' H2 D ⟨e2',U.ext.trans e1 an an,λj hj hn g g1 g2=>?_,λg g1 g2=>?_,U.dd.mono e1.le⟩⟩
   ·obtain⟨g,ob,h2,h3⟩:=U.dd.mem x hx;have h4:=List.all_eq_true.1 hD _ h2;simp only[hp,Bool.false_or]at h4;split at h4
    ·rename_i ob' h5;obtain⟨q,ψ,h6,h7,_,_⟩:=MF d1 h5;rw[HO.beq_eq h4]at h7;rw[HO.isFact_det (HO.isFact_mono e1.le h3) h7];exact List.mem_of_getElem? h6
    · cases h4
   ·have A7:j≠k:=λe=>hn (by rw[e];simp);have hj0:=U.free j hj (λhm=>hn (List.mem_cons_of_mem _ hm)) g g1 g2;refine e1.out g hj0 ?_;rcases Nat.lt_or_ge j k with bq|pI
    ·have:j*w+w<=k*w:=by rw[<-Nat.succ_mul];exact Nat.mul_le_mul_right _ bq
     omega
    ·have:k*w+w<=j*w:=by rw[<-Nat.succ_mul];exact Nat.mul_le_mul_right _ an
     omega
   · exact e1.out g (U.rest g g1 g2) an
  · cases he
 · cases he
theorem th:∀{l:List Nat} {U:Nd} {ns:List Nd},F6 P call n ops aq lo w U l=some ns->∀k∈l,∃Cj∈ns,O9 P call n ops aq lo w k U=some Cj
 |[],_,_,_,k,hk=>by cases hk
 | j::r,U,ns,he,k,hk=>by
   unfold F6 at he;split at he
   ·rename_i x l h1 h2;cases he;rcases List.mem_cons.1 hk with rfl|hk;· exact⟨x,ax,h1⟩
    ·obtain⟨y,h3,h4⟩:=th h2 k hk;exact⟨y,by simp[h3],h4⟩
   · cases he
theorem mB (ej:Ib P E call)(cn:gT ops aq=true)(Cf:lo+ops.size*w<=hi):∀{R4 ns:List Nd},qS P call n ops aq lo w R4=some ns->(∀U∈ns,om P C n Q ρ0 E ops aq lo hi w U)->∀U∈R4,om P C n Q ρ0 E ops aq lo hi w U
 |[],_,_,_,U,h=>by cases h
 | x ::r,ns,he,hw,U,h=>by
   unfold qS at he;split at he
   ·rename_i hb;split at he
    ·rename_i l m h1 h2;cases he;rcases List.mem_cons.1 h with rfl|h
     ·intro ρ S H D hr;simp only[Bool.and_eq_true,Bool.not_eq_true']at hb;refine yK cn (lC ops aq U.L) rfl hb.2 hb.1 λk hk o ho=>?_
      obtain⟨Cj,h3,h4⟩:=th h1 k hk;have dy:=List.mem_filter.1 hk
      have hkL:k∉U.L:=λhm=>by
       have:=dy.2;simp only[Bool.and_eq_true,Bool.not_eq_true']at this;rw[Hs.2 hm]at this;cases this.1
      exact GP ej cn Cf (List.mem_range.1 dy.1) hkL h4 (hw Cj (by simp[h3])) ρ S H D hr o ho
     · exact mB ej cn Cf h2 (λU hn=>hw U (by simp[hn])) U h
    · cases he
   · cases he
theorem H4 {a b:Nd} (h:Nd.same a b=true)(hw:om P C n Q ρ0 E ops aq lo hi w b):om P C n Q ρ0 E ops aq lo hi w a:=by
 intro ρ S H D hr;simp only[Nd.same,Bool.and_eq_true]at h;obtain⟨⟨⟨⟨⟨h1,h2⟩,h3⟩,h4⟩,h5⟩,h6⟩:=h;have l1:∀i,i∈a.L↔i∈b.L:=λi=>⟨λhi=>Hs.1 (List.all_eq_true.1 h1 i hi),λhi=>Hs.1 (List.all_eq_true.1 h2 i hi)⟩
 obtain ⟨D1,U⟩:∃m,DD ρ E b.D m:=DD.ex λi g o hm=>by
  obtain⟨φ,_,bj⟩:=hr.dd.mem' i g o (tL h4 _ hm);exact⟨φ,bj⟩
 refine Lz (hw ρ S H D1 ⟨by rw[<-Tr.beq_eq h5,<-sU h6];exact hr.rel,hr.ext,λj hj hn=>hr.free j hj λhm=>hn ((l1 j).1 hm),hr.rest,U⟩) l1 λx=>⟨λhx=>?_,λhx=>?_⟩
 ·obtain⟨g,o,k1,k2⟩:=hr.dd.mem x hx;obtain⟨φ,k3,k4⟩:=U.mem' _ _ _ (tL h3 _ k1);rw[<-HO.isFact_det k2 k4]at k3;exact k3
 ·obtain⟨g,o,k1,k2⟩:=U.mem x hx;obtain⟨φ,k3,k4⟩:=hr.dd.mem' _ _ _ (tL h4 _ k1);rw[<-HO.isFact_det k2 k4]at k3;exact k3
theorem Qbk:∀{l:List Nd},(∀U∈xx l,om P C n Q ρ0 E ops aq lo hi w U)->∀U∈l,om P C n Q ρ0 E ops aq lo hi w U
 |[],_,U,h=>by cases h
 | x::r,hw,U,h=>by
   unfold xx ZK at hw;split at hw
   ·rename_i hb;rcases List.mem_cons.1 h with rfl|h
    ·obtain⟨y,hy,h1⟩:=List.any_eq_true.1 hb;exact H4 h1 (hw y hy)
    · exact Qbk hw U h
   ·rcases List.mem_cons.1 h with rfl|h;· exact hw U ax
    · exact Qbk (λy hy=>hw y (by simp[hy])) U h
theorem vG (ej:Ib P E call)(cn:gT ops aq=true)(Cf:lo+ops.size*w<=hi) {fin:Nd} (NI:∀ca S' H',Ext ρ0 ca lo hi->Rel ca E fin.fr fin.hp S' H'->mg ca (lo+ops.size*w) hi->WE C n Q [] H' S' .normal):
   ∀{f:Nat} {R4:List Nd},O4 P call n ops aq lo w f R4=some fin->∀U∈R4,om P C n Q ρ0 E ops aq lo hi w U
 |0,_,he,_,_=>by cases he
 | f + 1,R4,he,U,h=>by
   unfold O4 at he;split at he;· cases h
   ·rename_i x rest;split at he
    ·rename_i ef;split at he
     ·rename_i hb;obtain rfl:x=fin:=Option.some.inj he
      have key:∀y,Eu ops y.L=true->y.fr=x.fr->y.hp=x.hp->om P C n Q ρ0 E ops aq lo hi w y:=λy h1 h2 h3 ρ S H D hr=>
       QD cn h1 (NI ρ S H hr.ext (by rw[<-h2,<-h3];exact hr.rel) hr.rest)
      rcases List.mem_cons.1 h with rfl|h;· exact key _ ef rfl rfl
      ·have:=List.all_eq_true.1 hb U h;simp only[Bool.and_eq_true]at this;exact key U this.1.1 (Tr.beq_eq this.1.2) (sU this.2)
     · cases he
    ·split at he
     ·rename_i ns h1;exact mB ej cn Cf h1 (Qbk (vG ej cn Cf NI he)) U h
     · cases he
theorem CR (ej:Ib P E call) {id:Nat} {fr gp:Tr} {hp dc:di} {dv:Nat} (he:IL P call n ops hi fr hp lo=some (gp,dc,dv)) {ρ:Env} {S:List (Nat×Value)} {H:List Fact} (h:Rel ρ E fr hp S H)(hf:mg ρ lo hi)
  (next:∀ca S' H',Ext ρ ca lo hi->Rel ca E gp dc S' H'->mg ca dv hi->lo<=dv->WE C n Q [] H' S' .normal):WC P C n Q [] H S (.region id ops true):=by
 unfold IL at he;split at he
 ·rename_i hb;simp only[Bool.and_eq_true]at hb;obtain⟨⟨hm,U⟩,hle⟩:=hb;have hle:=Nat.le_of_ble_eq_true hle;split at he
  ·rename_i nd Gy;split at he
   ·rename_i fin NI;cases he
    have hw:ops.size*((hi-lo)/(65536*(ops.size+1)))<=hi-lo:=by
     generalize hi-lo=m
     calc ops.size*(m/(65536*(ops.size+1)))<=(65536*(ops.size+1))*(m/(65536*(ops.size+1))):=Nat.mul_le_mul_right _ an
      _<=m:=Nat.mul_div_le _ _
    have h1:=vG (ρ0:=ρ) (C:=C) (Q:=Q) ej U (hi:=hi) an (λca S' H' e1 e2 e3=>next ca S' H' e1 e2 e3 an) NI nd ax;have h2:=QaB U Gy h1;have h0:ops=ops.toList.toArray:=ax
    rw[h0];refine QJ (mU ops) hm (by rw[<-h0];exact U) λa1F=>?_
    have h3:=h2 ρ S H [] ⟨h,Ext.refl _ _ _,λj hj _ g g1 g2=>hf g an ?_,λg g1 g2=>hf g an g2,trivial⟩;· simpa using h3
    ·have:j*((hi-lo)/(65536*(ops.size+1)))+(hi-lo)/(65536*(ops.size+1))<=ops.size*((hi-lo)/(65536*(ops.size+1))):=by rw[<-Nat.succ_mul];exact Nat.mul_le_mul_right _ hj
     omega
   · cases he
  · cases he
 · cases he
end draw
end
end
end Go.Proofs.YtocfkfhdcnjklaaGreatDoor
