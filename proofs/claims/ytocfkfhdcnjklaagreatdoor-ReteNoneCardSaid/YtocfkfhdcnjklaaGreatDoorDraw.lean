import Derived.Test.YtocfkfhdcnjklaaGreatDoorBase
import Derived.Maps.Own
import Derived.Maps.OwnSet
import Derived.Maps.Views
import Derived.Deep.DeepAppendRoom
namespace Go.Proofs.YtocfkfhdcnjklaaGreatDoor
section
open Go.RowKit
noncomputable section
def ly (ops:Array Oper)(o:Oper):List Nat:=
 (o.op.operands.toList.filterMap λ| .tmp t=>some t|_=>none)++(match o.guard with|some (j,_)=>((ops[j]?).bind (·.dst)).toList|none=>[])
def Cn (ops:Array Oper)(k i:Nat):Bool:=match ops[k]? with
 |some o=>o.after.toList.any λe=>Region.binds .any e&&Nat.beq e.on i
 |none=>false
noncomputable def gY (l:List Nat)(i:Nat):Bool:=List.rec (motive:=λ_=>Bool) false (λx _ U=>Bool.rec U true (Nat.beq i x)) l
theorem H4 {i:Nat}:∀{l:List Nat},gY l i=true↔i∈l
 |[]=>⟨λh=>(by cases h),λh=>(by cases h)⟩
 | x::l=>by
   show(Bool.rec (motive:=λ_=>Bool) (gY l i) true (Nat.beq i x))=true↔_;rw[List.mem_cons,<-H4 (l:=l)];cases h:Nat.beq i x with
   |true=>exact⟨λ_=>.inl (Nat.eq_of_beq_eq_true h),λ_=>rfl⟩
   |false=>exact⟨.inr,λq=>q.resolve_left λe=>by rw[e,Nat.beq_refl]at h;cases h⟩
def gL (ops:Array Oper) (aq:List Nat):Bool:=
 (List.range ops.size).all λi=>match ops[i]? with
  |none=>false
  | some o=>
    (o.after.toList.all λe=>!Region.binds .any e||Nat.blt e.on i)&&
    (match o.op with| .select _ _=>false| .defer _=>false|_=>true)&&
    (!gY aq i||match o.dst with|some d=>!gY (ly ops o) d|none=>false)&&
    (List.range ops.size).all λj=>Nat.beq i j||match ops[j]? with
     |none=>false
     | some U=>match o.dst with
       |none=>true
       | some d=>
         (match U.dst with|some d'=>!Nat.beq d d'|none=>true)&&
         (!gY (ly ops U) d||(if gY aq i then Cn ops j i else(!gY aq j||Cn ops i j||Cn ops j i)))
def lA (ops:Array Oper)(aq L:List Nat):List Nat:=
 (List.range ops.size).filter λi=> !gY L i&&match ops[i]? with
  |some o=>o.after.toList.all λe=>!Region.binds .any e||gY L e.on
  |none=>false
section draw
variable (P:Program) (C:Ctx) (n:FD) (Q:Exit->Act->World->Prop) (ops:Array Oper) (aq:List Nat)
def yU (Φ B:List Fact)(w:World):Prop:=(∃F,∀φ∈Φ,φ.p F w)/\∀b∈B,∃N F,b.op N F w
structure a0h (L:List Nat) (D:List (Nat×Fact)) (Φ:List Fact) (av:Act) (i:Nat):Prop where
 ex:∃(o:Oper) (d:Nat) (v:Value) (Hy B:List Fact),ops[i]? =some o/\o.dst=some d/\d<n/\gY aq i=true/\av.tmps[d]? =some v/\(∀e∈o.after,Region.binds .any e=true->e.on∈L)/\
  (∀φ∈Hy,φ∈Φ)/\(∀b∈B,(i,b)∈D)/\
  ∀(a:Act) (w:World),(∀t∈ly ops o,a.tmps[t]? =av.tmps[t]?)->yU Hy B w->(Region.wanted o (yielded ops a.tmps)=true/\(execOp a.eval o).run P w=.ok (.value v) w)\/(Region.wanted o (yielded ops a.tmps)=false/\v=undef)
structure uo (L:List Nat) (D:List (Nat×Fact)) (Φ H:List Fact) (S:List (Nat×Value)) (listed:Array Bool) (a av:Act) (w:World):Prop where
 frm:fj n S av
 asize:a.tmps.size=n
 adef:a.defers=n.D
 holds:Qj C Φ H w
 lsize:listed.size=ops.size
 sub:∀i,listed.getD i false=true->i∈L
 inL:∀i∈L,i<ops.size
 agree:∀t,(∀i o,i∈L->listed.getD i false=false->ops[i]? =some o->o.dst≠some t)->a.tmps[t]? =av.tmps[t]?
 owed:∀i∈L,listed.getD i false=false->a0h P n ops aq L D Φ av i
 deps:∀x∈D,listed.getD x.1 false=false->x.2∈H
def WX (L:List Nat)(D:List (Nat×Fact))(Φ H:List Fact)(S:List (Nat×Value)):Prop:=
 ∀listed a U w,uo P C n ops aq L D Φ H S listed a U w->∀fuel,(listed.toList.filter (! ·)).length<=fuel->wpAny P .any ops Q fuel listed a w
end draw
theorem Xo {ops:Array Oper} {aq:List Nat} (h:gL ops aq=true) {i:Nat} {o:Oper} (ho:ops[i]? =some o):
  (∀e∈o.after,Region.binds .any e=true->e.on<i)/\(∀cs b,o.op≠.select cs b)/\(∀c,o.op≠.defer c)/\(gY aq i=true->∀d,o.dst=some d->d∉ly ops o):=by
 have bp:=(Array.getElem?_eq_some_iff.1 ho).1;have:=List.all_eq_true.1 h i (List.mem_range.2 bp);simp only[ho,Bool.and_eq_true,List.all_eq_true,Bool.or_eq_true,Bool.not_eq_true']at this;obtain⟨⟨⟨h1,h2⟩,U⟩,_⟩:=this;refine⟨λe he hb=>?_,λcs b e=>(by rw[e]at h2;cases h2),λc e=>(by rw[e]at h2;cases h2),λhl d hd hm=>?_⟩;rotate_left
 ·rcases U with U|U;· rw[hl]at U;cases U
  ·rw[hd]at U;simp only[Bool.not_eq_true']at U;rw[H4.2 hm]at U;cases U
 rcases h1 e (cw he)with h3|h3;· rw[hb]at h3;cases h3
 · exact Nat.le_of_ble_eq_true h3
theorem Q9N {ops:Array Oper} {aq:List Nat} (h:gL ops aq=true) {i j d:Nat} {o o':Oper} (ho:ops[i]? =some o)(xw:ops[j]? =some o')(db:i≠j)(hd:o.dst=some d):
  o'.dst≠some d/\(d∈ly ops o'->(gY aq i=true->Cn ops j i=true)/\(gY aq i=false->gY aq j=true->Cn ops i j=true\/Cn ops j i=true)):=by
 have bp:=(Array.getElem?_eq_some_iff.1 ho).1;have xv:=(Array.getElem?_eq_some_iff.1 xw).1;have h1:=List.all_eq_true.1 h i (List.mem_range.2 bp);simp only[ho,Bool.and_eq_true]at h1;have h2:=List.all_eq_true.1 h1.2 j (List.mem_range.2 xv)
 have hnb:Nat.beq i j=false:=by
  cases hb:Nat.beq i j with
  |true=>exact absurd (Nat.eq_of_beq_eq_true hb) db
  |false=>rfl
 simp only[xw,hd,hnb,Bool.false_or,Bool.and_eq_true,Bool.or_eq_true,Bool.not_eq_true']at h2;obtain⟨h3,U⟩:=h2;refine⟨λe=>?_,λhr=>?_⟩;· rw[e]at h3;simp at h3
 ·rcases U with U|U;· rw[H4.2 hr]at U;cases U
  ·refine⟨λhl=>by rw[if_pos hl]at U;exact U,λhl hj=>?_⟩;rw[if_neg (by rw[hl];simp)]at U;simp only[Bool.or_eq_true,Bool.not_eq_true']at U;rcases U with(U|U)|U;· rw[hj]at U;cases U
   · exact .inl U
   · exact .inr U
theorem VB {ops:Array Oper} {k i:Nat} {o:Oper} (ho:ops[k]? =some o)(h:Cn ops k i=true):∃e∈o.after,Region.binds .any e=true/\e.on=i:=by
 simp only[Cn,ho,List.any_eq_true,Bool.and_eq_true]at h;obtain⟨e,he,h1,U⟩:=h;exact⟨e,by simpa using he,h1,Nat.eq_of_beq_eq_true U⟩
theorem sa {ops:Array Oper} {o:Oper} {a b:Act} (h:∀t∈ly ops o,a.tmps[t]? =b.tmps[t]?):∀x∈o.op.operands,a.eval x=b.eval x:=by
 intro x U;cases x with
 | tmp t=>
   have:t∈ly ops o:=List.mem_append_left _ (List.mem_filterMap.2 ⟨.tmp t,by simpa using U,rfl⟩);simp only[Act.eval,Array.getD_eq_getD_getElem?,h t this]
 |const c=>rfl
 |global g=>rfl
 |func f=>rfl
theorem Qb8 {ops:Array Oper} {o:Oper} {a b:Act} (h:∀t∈ly ops o,a.tmps[t]? =b.tmps[t]?):Region.wanted o (yielded ops a.tmps)=Region.wanted o (yielded ops b.tmps):=by
 unfold Region.wanted;rcases hg:o.guard with _|⟨j,want⟩
 · rfl
 ·simp only[yielded];rcases U:(ops[j]?).bind (·.dst)with _|d;· rfl
  ·have:d∈ly ops o:=by
    refine List.mem_append_right _ ?_;simp[hg,U]
   simp only[Option.bind_some,h d this]
section count
theorem CB:∀(l:List Bool)(i:Nat)(h:i<l.length),l[i]=false->((l.set i true).filter (! ·)).length+1=(l.filter (! ·)).length:=by
 intro l;induction l with
 |nil=>intro i h;simp at h
 | cons b l ih=>
   intro i h U;cases i with
   |zero=>simp at U;subst U;simp
   | succ i=>
     have:=ih i (cw h) (cw U);cases b<;>simp[List.filter_cons]<;>omega
theorem mq {listed:Array Bool} {i:Nat} (hi:i<listed.size)(h:listed.getD i false=false):((listed.setIfInBounds i true).toList.filter (! ·)).length+1=(listed.toList.filter (! ·)).length:=by
 have U:listed[i]=false:=by simpa[hi]using h
 have:=CB listed.toList i (cw hi) (cw U);simpa using this
theorem LA {listed:Array Bool} {i j:Nat} (hi:i<listed.size):(listed.setIfInBounds i true).getD j false=if j=i then true else listed.getD j false:=by
 by_cases h:j=i;· subst h;simp[hi]
 ·rw[if_neg h];simp[Array.getD_eq_getD_getElem?,Array.getElem?_setIfInBounds_ne (Ne.symm h)]
end count
section core
variable {P:Program} {C:Ctx} {n:FD} {Q:Exit->Act->World->Prop} {ops:Array Oper} {aq L:List Nat} {D:List (Nat×Fact)} {Φ H:List Fact} {S:List (Nat×Value)}
theorem tg (cn:gL ops aq=true) {listed:Array Bool} (hs:listed.size=ops.size)(h:Region.ready .any ops listed=[]):∀i,i<ops.size->listed.getD i false=true:=by
 intro i;induction i using Nat.strongRecOn with
 | _ i ih=>
   intro hi;cases hb:listed.getD i false with
   |true=>rfl
   | false=>
     have U:ops[i]? =some ops[i]:=Array.getElem?_eq_getElem hi
     have hm:i∈Region.ready .any ops listed:=mem_ready.2 ⟨by simpa[hs,hi]using hb,_,U,λe he Tt=>by
      have:=(Xo cn U).1 e he Tt;exact ih e.on this (Nat.lt_trans this hi)⟩
     rw[h]at hm;cases hm
theorem Gr (cn:gL ops aq=true) {listed:Array Bool} {a av:Act} {w:World} (U:uo P C n ops aq L D Φ H S listed a av w) {i:Nat} (hi:i∈L)(hu:listed.getD i false=false) {o:Oper} (ho:ops[i]? =some o)
  (ft:∀e∈o.after,Region.binds .any e=true->listed.getD e.on false=true) {K:Act->World->Prop} (hK:∀a',uo P C n ops aq L D Φ H S (listed.setIfInBounds i true) a' av w->K a' w):wpOp P ops Q i K a w:=by
 obtain⟨o',d,v,Hy,B,xw,hd,jY,bp,hv,zN,dV,hB,CU⟩:=(U.owed i hi hu).ex;rw[ho]at xw;cases xw;have yN:i<listed.size:=by rw[U.lsize];exact U.inL i hi
 have Gc:∀t∈ly ops o,a.tmps[t]? =av.tmps[t]?:=λt ht=>U.agree t λj oj hj mH sH vr=>by
  by_cases BX:j=i
  ·subst BX;rw[ho]at sH;cases sH;exact(Xo cn ho).2.2.2 bp t vr ht
  ·obtain⟨_,_,_,_,_,_,_,_,M0,_⟩:=(U.owed j hj mH).ex;have:=((Q9N cn sH ho BX vr).2 ht).1 M0;obtain⟨e,he,hb,rfl⟩:=VB ho this;rw[ft e he hb]at mH;cases mH
 have xt:yU Hy B w:=by
  obtain⟨F,N,hm⟩:=U.holds;refine⟨⟨F,λφ bh=>hm.facts φ (dV φ bh)⟩,λb hb=>?_⟩;have:=U.deps _ (hB b hb) hu;obtain⟨k,hk⟩:=List.getElem?_of_mem this;exact⟨N k,F,hm.owns k b hk⟩
 have Ga:uo P C n ops aq L D Φ H S (listed.setIfInBounds i true) (a.put (some d) v) av w:=by
  refine⟨U.frm,by simp[Act.put,U.asize],U.adef,U.holds,by simpa using U.lsize,λj hj=>?_,U.inL,λt ht=>?_,λj hj mH=>?_,λx hx Hq=>?_⟩
  ·rw[LA yN]at hj;split at hj;· rename_i e;rw[e];exact hi
   · exact U.sub j hj
  ·by_cases M1:t=d
   ·subst M1;simp only[Act.put];rw[Array.getElem?_setIfInBounds_self];simp[U.asize,jY,hv]
   ·simp only[Act.put];rw[Array.getElem?_setIfInBounds_ne (Ne.symm M1)];refine U.agree t λj oj hj mH sH vr=>?_
    by_cases BX:j=i;· subst BX;rw[ho]at sH;cases sH;rw[hd]at vr;cases vr;exact M1 rfl
    · exact ht j oj hj (by rw[LA yN,if_neg BX];exact mH) sH vr
  ·rw[LA yN]at mH;split at mH;· cases mH
   · exact U.owed j hj mH
  ·rw[LA yN]at Hq;split at Hq;· cases Hq
   · exact U.deps x hx Hq
 unfold wpOp;simp only[ho];rcases CU a w Gc xt with⟨h1,h2⟩|⟨h1,h2⟩
 ·rw[if_pos h1];left;unfold Oper.wp;rw[h2,Oper.upon_value,hd];exact hK _ Ga
 ·rw[if_neg (by rw[h1];simp),hd,<-h2];exact hK _ Ga
theorem Fm (cn:gL ops aq=true)
   (fa:∀i o listed a av w,ops[i]? =some o->i∉L->(∀e∈o.after,Region.binds .any e=true->listed.getD e.on false=true)->uo P C n ops aq L D Φ H S listed a av w->
    wpOp P ops Q i (λa' w'=>∀fuel,((listed.setIfInBounds i true).toList.filter (! ·)).length<=fuel->wpAny P .any ops Q fuel (listed.setIfInBounds i true) a' w') a w)
   (Pt:(∀i,i<ops.size->i∈L)->WE C n Q Φ H S .normal):WX P C n Q ops aq L D Φ H S:=by
 intro listed a av w U fuel;induction fuel generalizing listed a with
 | zero=>
   intro hf
   have ej:Region.ready .any ops listed=[]:=by
    refine List.eq_nil_iff_forall_not_mem.2 λi hi=>?_;have h1:=(mem_ready.1 hi).1;obtain⟨o,ho,_⟩:=(mem_ready.1 hi).2;have bp:i<listed.size:=by rw[U.lsize];exact(Array.getElem?_eq_some_iff.1 ho).1
    have:=mq bp (by simpa[bp]using h1);omega
   refine⟨ej,?_⟩;have hl:=tg cn U.lsize ej
   have ha:a.tmps=av.tmps:=by
    apply Array.ext_getElem?;intro t;exact U.agree t λi o hi hu _=>by rw[hl i (U.inL i hi)]at hu;cases hu
   have:a=av:=by
    rcases a with⟨at_,ad⟩;rcases av with⟨bt,bd⟩;have h1:=U.adef;have h2:=U.frm.defers;simp only at ha h1 h2;rw[ha,h1,h2]
   rw[this];exact Pt (λi hi=>U.sub i (hl i hi)) av w U.frm U.holds
 | succ fuel ih=>
   intro hf;refine⟨λej=>?_,λi hi=>?_⟩
   ·have hl:=tg cn U.lsize ej
    have ha:a.tmps=av.tmps:=by
     apply Array.ext_getElem?;intro t;exact U.agree t λi o hi hu _=>by rw[hl i (U.inL i hi)]at hu;cases hu
    have:a=av:=by
     rcases a with⟨at_,ad⟩;rcases av with⟨bt,bd⟩;have h1:=U.adef;have h2:=U.frm.defers;simp only at ha h1 h2;rw[ha,h1,h2]
    rw[this];exact Pt (λi hi=>U.sub i (hl i hi)) av w U.frm U.holds
   ·obtain⟨h1,o,ho,ft⟩:=mem_ready.1 hi;have bp:i<listed.size:=by rw[U.lsize];exact(Array.getElem?_eq_some_iff.1 ho).1
    have hu:listed.getD i false=false:=by simpa[bp]using h1
    have a0x:=mq bp hu;by_cases hL:i∈L;· exact Gr cn U hL hu ho ft λa' cy=>ih _ a' cy an
    · exact wpOp_mono (λa' w' h=>h fuel an) (fa i o listed a av w ho hL ft U)
def QX (P:Program)(C:Ctx)(n:FD)(Q:Exit->Act->World->Prop)(ops:Array Oper)(aq L:List Nat)(D:List (Nat×Fact))(Φ:List Fact)(k:Nat):Exit->Act->World->Prop
 | .normal,a,w=>∃Φ' H' S',fj n S' a/\Qj C Φ' H' w/\(∀φ∈Φ,φ∈Φ')/\(∀x∈D,Cn ops k x.1=false->x.2∈H')/\WX P C n Q ops aq (k::L) D Φ' H' S'
 |_,_,_=>False
def vB (ops:Array Oper)(k:Nat):List (Nat×Fact)->List Fact
 |[]=>[]
 | (i,b)::r=>match Cn ops k i with
   |true=>vB ops k r
   |false=>b::vB ops k r
theorem oE {k:Nat}:∀{D:List (Nat×Fact)} {x:Nat×Fact},x∈D->Cn ops k x.1=false->x.2∈vB ops k D
 | (i,b)::r,x,U,hp=>by
   unfold vB;rcases List.mem_cons.1 U with rfl|U;· simp only at hp;rw[hp];simp
   ·split;· exact oE U hp
    · exact List.mem_cons_of_mem _ (oE U hp)
theorem fB {k:Nat} {Φ' H':List Fact} {S':List (Nat×Value)} (l m:List Nat)(dV:QK Φ' l=Φ)(hD:QK H' m=vB ops k D)(next:WX P C n Q ops aq (k::L) D Φ' H' S'):WE C n (QX P C n Q ops aq L D Φ k) Φ' H' S' .normal:=by
 intro a w hf hw;refine⟨Φ',H',S',hf,hw,λφ U=>?_,λx hx hp=>?_,next⟩
 ·rw[<-dV]at U;obtain⟨i,_,hi⟩:=List.mem_filterMap.1 U;exact List.mem_of_getElem? hi
 ·have:=oE hx hp;rw[<-hD]at this;obtain⟨i,_,hi⟩:=List.mem_filterMap.1 this;exact List.mem_of_getElem? hi
theorem Oper.wp_put {o:Oper} {a b:Act} {w:World} {K K':Act->World->Prop} {Q' Q'':Exit->Act->World->Prop} (hs:∀cs b,o.op≠.select cs b)(Hl:∀x∈o.op.operands,a.eval x=b.eval x)
   (a0y:∀d v U,¬K ({b with defers:=d::b.defers}.put o.dst v) U) (hK:∀v U,K (b.put o.dst v) U->K' (a.put o.dst v) U) (D2:∀e b U,e≠.normal->¬Q' e b U) (h:o.wp P b w K Q'):o.wp P a w K' Q'':=by
 unfold Oper.wp at*;rw[execOp_congr o hs Hl];generalize (execOp b.eval o).run P w=r at*;cases r with
 | ok nx U=>
   cases nx<;>simp only[Oper.upon]at h⊢
   all_goals first
    |exact hK _ _ h
    |exact h
    |exact absurd h (a0y _ _ _)
    |exact Calls.mono h (λe w'' he=>by
     cases e with
     |returned v=>exact hK _ _ he
     |panicked ch=>exact absurd he (D2 _ _ _ ax)
     |outgrown=>obtain⟨_,_,he⟩:=he;exact absurd he (D2 _ _ _ ax))
    |exact Rows.mono h (λ_ _ he=>hK _ _ he)
 |halt x U=>cases x<;>simp only[Oper.upon]at h⊢<;>first|exact h|exact absurd h (D2 _ _ _ ax)
theorem Act.put_defers {a:Act} {dst:Option Nat} {v:Value}:(a.put dst v).defers=a.defers:=by cases dst<;>rfl
theorem Act.put_size {a:Act} {dst:Option Nat} {v:Value}:(a.put dst v).tmps.size=a.tmps.size:=by cases dst<;>simp[Act.put]
theorem met (cn:gL ops aq=true) {k:Nat} {o:Oper} (ho:ops[k]? =some o)(hk:k∉L)(TK:gY aq k=false)(h:WL P C n (QX P C n Q ops aq L D Φ k) Φ H S ops [o])
  {listed:Array Bool} {a av:Act} {w:World} (ft:∀e∈o.after,Region.binds .any e=true->listed.getD e.on false=true) (U:uo P C n ops aq L D Φ H S listed a av w):
  wpOp P ops Q k (λa' w'=>∀fuel,((listed.setIfInBounds k true).toList.filter (! ·)).length<=fuel->wpAny P .any ops Q fuel (listed.setIfInBounds k true) a' w') a w:=by
 have jC:k<listed.size:=by rw[U.lsize];exact(Array.getElem?_eq_some_iff.1 ho).1
 have hku:listed.getD k false=false:=by
  cases hb:listed.getD k false with
  |false=>rfl
  |true=>exact absurd (U.sub k hb) hk
 have Gc:∀t∈ly ops o,a.tmps[t]? =av.tmps[t]?:=λt ht=>U.agree t λj oj hj mH sH vr=>by
  have BX:j≠k:=λe=>hk (e▸hj);obtain⟨_,_,_,_,_,_,_,_,M0,_⟩:=(U.owed j hj mH).ex;have:=((Q9N cn sH ho BX vr).2 ht).1 M0;obtain⟨e,he,hb,rfl⟩:=VB ho this;rw[ft e he hb]at mH;cases mH
 have key:∀v w',(∃Φ' H' S',fj n S' (av.put o.dst v)/\Qj C Φ' H' w'/\(∀φ∈Φ,φ∈Φ')/\(∀x∈D,Cn ops k x.1=false->x.2∈H')/\WX P C n Q ops aq (k::L) D Φ' H' S')->
   ∀fuel,((listed.setIfInBounds k true).toList.filter (! ·)).length<=fuel->wpAny P .any ops Q fuel (listed.setIfInBounds k true) (a.put o.dst v) w':=by
  rintro v w' ⟨Φ',H',S',hf',iK,JO,hD',hx⟩;refine hx _ _ (av.put o.dst v) w' ⟨hf',by rw[Act.put_size];exact U.asize,by rw[Act.put_defers];exact U.adef,iK,by simpa using U.lsize,λj hj=>?_,λj hj=>?_,λt ht=>?_,λj hj mH=>?_,λx lU Hq=>?_⟩
  ·rw[LA jC]at hj;split at hj;· rename_i e;rw[e];simp
   · exact List.mem_cons_of_mem _ (U.sub j hj)
  ·rcases List.mem_cons.1 hj with rfl|hj;· rw[<-U.lsize];exact jC
   · exact U.inL j hj
  ·have eY:a.tmps[t]? =av.tmps[t]? \/o.dst=some t:=by
     by_cases hd:o.dst=some t;· exact .inr hd
     · refine .inl (U.agree t λj oj hj mH sH vr=>ht j oj (List.mem_cons_of_mem _ hj) ?_ sH vr);rw[LA jC,if_neg (λ(e:j=k)=>hk (e▸hj))];exact mH
   cases hd:o.dst with
   | none=>
     rcases eY with h0|h0;· exact h0
     · rw[hd]at h0;cases h0
   | some d=>
     simp only[Act.put];by_cases M1:t=d
     · subst M1;have h1:=U.asize;have h2:=U.frm.size;by_cases bp:t<n;· rw[Array.getElem?_setIfInBounds_self,Array.getElem?_setIfInBounds_self];simp[h1,h2,bp]
       · simp[Array.getElem?_eq_none,h1,h2,Nat.not_lt.1 bp]
     · rw[Array.getElem?_setIfInBounds_ne (Ne.symm M1),Array.getElem?_setIfInBounds_ne (Ne.symm M1)];rcases eY with h0|h0;· exact h0
       · rw[hd]at h0;cases h0;exact absurd rfl M1
  ·have zO:j≠k:=λe=>by subst e;rw[LA jC,if_pos rfl]at mH;cases mH
   rw[LA jC,if_neg zO]at mH;have hjL:j∈L:=(List.mem_cons.1 hj).resolve_left zO;obtain⟨oj,d,vj,Hy,B,sH,vr,jY,M0,Zh,zN,JQ,hB,CU⟩:=(U.owed j hjL mH).ex
   have TL:∀t,(o.dst=some t->t≠d/\t∉ly ops oj):=by
     intro t ht;obtain⟨p1,p2⟩:=Q9N cn ho sH (Ne.symm zO) ht;refine⟨λe=>p1 (by rw[e];exact vr),λhm=>?_⟩;rcases(p2 hm).2 TK M0 with h0|h0
     · obtain⟨e,he,hb,rfl⟩:=VB ho h0;rw[ft e he hb]at mH;cases mH
     · obtain⟨e,he,hb,rfl⟩:=VB sH h0;exact hk (zN e he hb)
   have ix:∀t,(t=d\/t∈ly ops oj)->(av.put o.dst v).tmps[t]? =av.tmps[t]?:=by
     intro t ht;cases hd:o.dst with
     |none=>rfl
     | some d'=>
       obtain⟨q1,q2⟩:=TL d' hd;simp only[Act.put];rw[Array.getElem?_setIfInBounds_ne];rintro rfl;rcases ht with ht|ht;· exact q1 ht
       · exact q2 ht
   exact ⟨oj,d,vj,Hy,B,sH,vr,jY,M0,(ix d (.inl rfl)).trans Zh,λe he hb=>List.mem_cons_of_mem _ (zN e he hb),λφ bh=>JO φ (JQ φ bh),hB,
     λa' w'' CQ xt=>CU a' w'' (λt ht=>(CQ t ht).trans (ix t (.inr ht))) xt⟩
  ·have db:x.1≠k:=λe=>by rw[LA jC,if_pos e]at Hq;cases Hq
   rw[LA jC,if_neg db]at Hq;refine hD' x lU ?_;cases hb:Cn ops k x.1 with
   |false=>rfl
   | true=>
     obtain⟨e,he,ku,heq⟩:=VB ho hb;rw[<-heq,ft e he ku]at Hq;cases Hq
 unfold wpOp;simp only[ho];have PE:=h av w U.frm U.holds;unfold wpList at PE;rw[Qb8 Gc];have Pr:∀v w',wpList P ops (QX P C n Q ops aq L D Φ k) [] (av.put o.dst v) w'->∀fuel,((listed.setIfInBounds k true).toList.filter (! ·)).length<=fuel->wpAny P .any ops Q fuel (listed.setIfInBounds k true) (a.put o.dst v) w':=λv w' h=>key v w' h
 split
 ·rename_i sK;rw[if_pos sK]at PE;left;rcases PE with PE|⟨_,_,_,hf⟩
  ·refine Oper.wp_put (Xo cn ho).2.1 (sa Gc) (λd v w' hh=>?_) Pr (λe b w' db hq=>?_) PE
   · obtain⟨Φ',H',S',hf',_⟩:=(hh:QX P C n Q ops aq L D Φ k .normal _ _)
     have h3:=congrArg List.length (hf'.defers);rw[Act.put_defers,<-U.frm.defers]at h3;simp at h3
   · cases e<;>first|exact db rfl|exact hq
  · exact hf.elim
 ·rename_i sK;rw[if_neg sK]at PE;exact Pr _ _ PE
theorem QC (U:gL ops aq=true)(ej:(List.range ops.size).all (gY L)=true)(h:WE C n Q Φ H S .normal):WX P C n Q ops aq L D Φ H S:=
 Fm U (λi o listed a av w ho hi _ _=>absurd (H4.1 (List.all_eq_true.1 ej i (List.mem_range.2 (Array.getElem?_eq_some_iff.1 ho).1))) hi) (λ_=>h)
theorem yB (cn:gL ops aq=true)(l:List Nat)(hl:lA ops aq L=l)(TK:l.all (λk=> !gY aq k)=true)(db:(List.range ops.size).all (gY L)=false)
  (h:∀k∈l,∀o,ops[k]? =some o->WL P C n (QX P C n Q ops aq L D Φ k) Φ H S ops [o]):WX P C n Q ops aq L D Φ H S:=
 Fm cn (λi o listed a av w U hi ft hr=>by
  have hm:i∈l:=by
   rw[<-hl];refine List.mem_filter.2 ⟨List.mem_range.2 (Array.getElem?_eq_some_iff.1 U).1,?_⟩
   have h1:gY L i=false:=by
    cases hb:gY L i with
    |false=>rfl
    |true=>exact absurd (H4.1 hb) hi
   simp only[h1,U,Bool.not_false,Bool.true_and,List.all_eq_true,Bool.or_eq_true,Bool.not_eq_true'];intro e he;cases hb:Region.binds .any e with
   |false=>exact .inl rfl
   |true=>exact .inr (H4.2 (hr.sub _ (ft e (cw he) hb)))
  have hn:gY aq i=false:=by
   have:=List.all_eq_true.1 TK i hm;simpa using this
  exact met cn U hi hn (h i hm o U) ft hr) (λej=>by
  have:(List.range ops.size).all (gY L)=true:=List.all_eq_true.2 λi hi=>H4.2 (ej i (List.mem_range.1 hi));rw[this]at db;cases db)
theorem Lm (cn:gL ops aq=true)(k:Nat) {o:Oper} (hl:lA ops aq L=[k])(TK:gY aq k=false)(db:(List.range ops.size).all (gY L)=false)(ho:ops[k]? =some o)
  (h:WL P C n (QX P C n Q ops aq L D Φ k) Φ H S ops [o]):WX P C n Q ops aq L D Φ H S:=
 yB cn [k] hl (by simp[TK]) db λk' U o' xw=>by
  simp only[List.mem_singleton]at U;subst U;rw[ho]at xw;cases xw;exact h
theorem Fz (cn:gL ops aq=true)(k j:Nat) {o p:Oper} (hl:lA ops aq L=[k,j])(TK:gY aq k=false)(a0M:gY aq j=false)(db:(List.range ops.size).all (gY L)=false)(ho:ops[k]? =some o)(hp:ops[j]? =some p)
  (h:WL P C n (QX P C n Q ops aq L D Φ k) Φ H S ops [o]) (h':WL P C n (QX P C n Q ops aq L D Φ j) Φ H S ops [p]):WX P C n Q ops aq L D Φ H S:=
 yB cn [k,j] hl (by simp[TK,a0M]) db λk' dx o' U=>by
  simp only[List.mem_cons,List.not_mem_nil,or_false]at dx;rcases dx with rfl|rfl;· rw[ho]at U;cases U;exact h
  · rw[hp]at U;cases U;exact h'
theorem Bu {S':List (Nat×Value)} (cn:gL ops aq=true)(i:Nat) {o:Oper} {d:Nat} {v:Value} (B:List Fact)(m:List Nat)(hi:ops[i]? =some o)(hli:gY aq i=true)(hL:gY L i=false)(ft:(o.after.toList.all λe=> !Region.binds .any e||gY L e.on)=true)
  (hd:o.dst=some d) (jY:Nat.blt d n=true) (hS:eH d S=S') (hB:QK H m=B)
  (det:(QJ ops S o=some true/\∀a w,fj n S a->yU Φ B w->(execOp a.eval o).run P w=.ok (.value v) w)\/(QJ ops S o=some false/\v=undef))
  (next:WX P C n Q ops aq (i::L) (B.map (λb=>(i,b))++D) Φ H ((d,v)::S')):WX P C n Q ops aq L D Φ H S:=by
 intro listed a av w hr;have hiL:i∉L:=λh=>by rw[H4.2 h]at hL;cases hL
 have hio:i<ops.size:=(Array.getElem?_eq_some_iff.1 hi).1;have Ty:d<n:=Nat.le_of_ble_eq_true jY
 have zN:∀e∈o.after,Region.binds .any e=true->e.on∈L:=λe he U=>by
  have:=List.all_eq_true.1 ft e (cw he);simp only[U,Bool.not_true,Bool.false_or]at this;exact H4.1 this
 have ix:∀t,t≠d->(av.put (some d) v).tmps[t]? =av.tmps[t]?:=λt ht=>by
  simp only[Act.put];rw[Array.getElem?_setIfInBounds_ne (Ne.symm ht)]
 have hB':∀b∈B,b∈H:=λb U=>by
  rw[<-hB]at U;obtain⟨q,_,hq⟩:=List.mem_filterMap.1 U;exact List.mem_of_getElem? hq
 refine next listed a (av.put (some d) v) w ⟨hr.frm.put Ty hS,hr.asize,hr.adef,hr.holds,hr.lsize,λj hj=>List.mem_cons_of_mem _ (hr.sub j hj),λj hj=>?_,λt ht=>?_,λj hj mH=>?_,λx hx Hq=>?_⟩
 ·rcases List.mem_cons.1 hj with rfl|hj;· exact hio
  · exact hr.inL j hj
 ·have M1:t≠d:=λe=>by
   subst e
   have hu:listed.getD i false=false:=by
    cases U:listed.getD i false with
    |false=>rfl
    |true=>exact absurd (hr.sub i U) hiL
   exact ht i o ax hu hi hd
  rw[ix t M1];exact hr.agree t λj oj hj mH sH vr=>ht j oj (List.mem_cons_of_mem _ hj) mH sH vr
 ·rcases List.mem_cons.1 hj with rfl|hj
  ·refine ⟨o,d,v,Φ,B,hi,hd,Ty,hli,?_,λe he U=>List.mem_cons_of_mem _ (zN e he U),λ_ h=>h,λb U=>List.mem_append_left _ (List.mem_map.2 ⟨b,U,rfl⟩),λa' w' CQ xt=>?_⟩;· simp[Act.put,hr.frm.size,Ty]
   ·have Gc:∀t∈ly ops o,a'.tmps[t]? =av.tmps[t]?:=λt ht=>(CQ t ht).trans (ix t λe=>by
     subst e;exact(Xo cn hi).2.2.2 hli t hd ht)
    rcases det with⟨h1,h2⟩|⟨h1,h2⟩
    ·left;rw[Qb8 Gc];refine⟨GW hr.frm h1,?_⟩;rw[execOp_congr o (Xo cn hi).2.1 (sa Gc)];exact h2 av w' hr.frm xt
    ·right;rw[Qb8 Gc];exact⟨GW hr.frm h1,h2⟩
  ·obtain⟨oj,dj,vj,Hy,Bj,sH,vr,Tz,M0,Zh,uy,JQ,hBj,CU⟩:=(hr.owed j hj mH).ex;have BX:i≠j:=λe=>hiL (e▸hj);obtain⟨p1,p2⟩:=Q9N cn hi sH BX hd;have hdd:dj≠d:=λe=>p1 (by rw[<-e];exact vr);refine⟨oj,dj,vj,Hy,Bj,sH,vr,Tz,M0,(ix dj hdd).trans Zh,λe he U=>List.mem_cons_of_mem _ (uy e he U),JQ,λb U=>List.mem_append_right _ (hBj b U),λa' w' CQ xt=>?_⟩;refine CU a' w' (λt ht=>(CQ t ht).trans (ix t λe=>?_)) xt;subst e;obtain⟨e,he,U,heq⟩:=VB sH ((p2 ht).1 hli);exact hiL (heq▸uy e he U)
 ·rcases List.mem_append.1 hx with hx|hx
  ·obtain⟨b,U,rfl⟩:=List.mem_map.1 hx;exact hB' b U
  · exact hr.deps x hx Hq
theorem uo.more {listed:Array Bool} {a av:Act} {w:World} {Φ':List Fact} (U:uo P C n ops aq L D Φ H S listed a av w)(gI:∀φ∈Φ,φ∈Φ')(hw:Qj C Φ' H w):uo P C n ops aq L D Φ' H S listed a av w:=
 ⟨U.frm,U.asize,U.adef,hw,U.lsize,U.sub,U.inL,U.agree,λj hj mH=>by
  obtain⟨oj,dj,vj,Hy,Bj,sH,vr,Tz,M0,Zh,uy,JQ,hBj,CU⟩:=(U.owed j hj mH).ex;exact⟨oj,dj,vj,Hy,Bj,sH,vr,Tz,M0,Zh,uy,λφ bh=>gI φ (JQ φ bh),hBj,CU⟩,U.deps⟩
theorem Fo {Λ:Type} {pure:Λ->Prop} {facts:Λ->List Fact} (ja:∀F w,(∀ψ∈Φ,ψ.p F w)->∃r:Λ,pure r/\∀φ∈facts r,φ.p F w)(next:∀r,pure r->WX P C n Q ops aq L D (facts r++Φ) H S):WX P C n Q ops aq L D Φ H S:=λlisted a av w U=>by
 obtain⟨r,h1,h2⟩:=vJ U.holds λF=>ja F w;exact next r h1 listed a av w (U.more (λφ bh=>List.mem_append_right _ bh) h2)
theorem VQ {d:Nat} {t:Bool} {S':List (Nat×Value)} (hx:look S d=some (.bool t))(hS:eH d S=S')(ht:t=true->WX P C n Q ops aq L D Φ H ((d,.bool true)::S'))(hf:t=false->WX P C n Q ops aq L D Φ H ((d,.bool false)::S')):WX P C n Q ops aq L D Φ H S:=by
 subst hS;intro listed a U w hr
 have h1:∀b,t=b->fj n ((d,.bool b)::eH d S) U:=λb hb=>hr.frm.sub λx lU=>by
  rcases List.mem_cons.1 lU with rfl|lU;· rw[<-hb];exact LB hx
  · exact(OU lU).1
 have h2:∀RW,fj n RW U->uo P C n ops aq L D Φ H RW listed a U w:=λRW hf=>{hr with frm:=hf}
 cases t;· exact hf rfl listed a U w (h2 _ (h1 _ rfl))
 · exact ht rfl listed a U w (h2 _ (h1 _ rfl))
theorem Qj.drew' {w U:World} (h:Qj C Φ H w)(hb:Below w.heap.size w U):Qj C Φ H U:=by
 obtain⟨F,N,hi⟩:=h;exact⟨F,N,hi.grow hb⟩
theorem QI {id:Nat} {l:List Oper} (aq:List Nat)(hm:P.follows .mixedOrders=true)(cn:gL l.toArray aq=true)(h':gL l.toArray aq=true->WX P C n Q l.toArray aq [] [] Φ H S):WC P C n Q Φ H S (.region id l.toArray true):=by
 intro a w U hw;have h:=h' cn;refine wp_region_any hm (h (Array.replicate l.toArray.size false) a a {w with drawn:=w.drawn+1} ⟨U,U.size,U.defers,hw.drew' ⟨rfl,rfl,rfl,Nat.le_refl _,λ_ _=>rfl⟩,ax,λi hi=>?_,ax,λt _=>rfl,ax,ax⟩ _ ?_)
 ·have:(Array.replicate l.toArray.size false).getD i false=false:=by
   simp only[Array.getD_eq_getD_getElem?,Array.getElem?_replicate];split<;>rfl
  rw[this]at hi;cases hi
 ·have:∀m:Nat,((List.replicate m false).filter (! ·)).length<=m:=λm=>ax
  simp
end core
end
end
section
open Go.RowKit
noncomputable section
def kL (ops:Array Oper)(aq L:List Nat)(i n d:Nat)(o:Oper):Bool:=
 gY aq i&& !gY L i&&(o.after.toList.all λe=>!Region.binds .any e||gY L e.on)&&Nat.blt d n
section
variable {P:Program} {C:Ctx} {n:FD} {Q:Exit->Act->World->Prop} {ops:Array Oper} {aq L:List Nat} {D:List (Nat×Fact)} {Φ H:List Fact} {S S':List (Nat×Value)}
theorem HU (cn:gL ops aq=true)(i:Nat) {o:Oper} {d:Nat} {v:Value} (B:List Fact)(m:List Nat)(hi:ops[i]? =some o)(hd:o.dst=some d)(U:kL ops aq L i n d o=true)(hS:eH d S=S')(hB:QK H m=B)(hg:QJ ops S o=some true)
  (det:∀a w,fj n S a->yU Φ B w->(execOp a.eval o).run P w=.ok (.value v) w)
  (next:WX P C n Q ops aq (i::L) (B.map (λb=>(i,b))++D) Φ H ((d,v)::S')):WX P C n Q ops aq L D Φ H S:=by
 simp only[kL,Bool.and_eq_true,Bool.not_eq_true']at U;obtain⟨⟨⟨h1,h2⟩,h3⟩,h4⟩:=U;exact Bu cn i B m hi h1 h2 h3 hd h4 hS hB (.inl ⟨hg,det⟩) next
theorem Ll (cn:gL ops aq=true)(i:Nat) {o:Oper} {d:Nat} (hi:ops[i]? =some o)(hd:o.dst=some d)(U:kL ops aq L i n d o=true)(hS:eH d S=S')(hg:QJ ops S o=some false)
  (next:WX P C n Q ops aq (i::L) D Φ H ((d,undef)::S')):WX P C n Q ops aq L D Φ H S:=by
 simp only[kL,Bool.and_eq_true,Bool.not_eq_true']at U;obtain⟨⟨⟨h1,h2⟩,h3⟩,h4⟩:=U;exact Bu cn i [] [] hi h1 h2 h3 hd h4 hS rfl (.inr ⟨hg,rfl⟩) next
theorem Fp (U:gL ops aq=true)(i:Nat) {o:Oper} {d:Nat} {v:Value} (hi:ops[i]? =some o)(hd:o.dst=some d)(hl:kL ops aq L i n d o=true)(hS:eH d S=S')(hg:QJ ops S o=some true)(hv:z7 S o.op=some v)
  (next:WX P C n Q ops aq (i::L) D Φ H ((d,v)::S')):WX P C n Q ops aq L D Φ H S:=
 HU U i [] [] hi hd hl hS rfl hg (λa w hf _=>lx hf hv w) next
theorem UU (U:gL ops aq=true)(i:Nat) {o:Oper} {d t:Nat} {x:Operand} {p:Option Addr} {k c e:Nat} (hi:ops[i]? =some o)(hd:o.dst=some d)(hl:kL ops aq L i n d o=true)(hS:eH d S=S')(hg:QJ ops S o=some true)
  (ho:o.op=.call {callee:=.builtin .len,args:=#[x],argTypes:=#[t]}) (hx:da S x=some (.slice p k c)) (ht:fJ P t=some e)
  (next:WX P C n Q ops aq (i::L) D Φ H ((d,.int .i64 (k:Int))::S')):WX P C n Q ops aq L D Φ H S:=
 HU U i [] [] hi hd hl hS rfl hg (λa w hf _=>by simp[execOp,ho,resolve,invoke,builtin,Builtin.len_,hf.eval hx,run_underlying (tU ht),goInt]) next
theorem yA (U:gL ops aq=true)(i:Nat) {o:Oper} {d t k off b q:Nat} {x:Operand} (hi:ops[i]? =some o)(hd:o.dst=some d)(hl:kL ops aq L i n d o=true)(hS:eH d S=S')(hg:QJ ops S o=some true)
  (ho:o.op=.fieldAddr t x k) (hx:da S x=some (.pointer (some ⟨b,q,none⟩))) (hk:QQ P t k=some off)
  (next:WX P C n Q ops aq (i::L) D Φ H ((d,.pointer (some ⟨b,q+off,none⟩))::S')):WX P C n Q ops aq L D Φ H S:=
 HU U i [] [] hi hd hl hS rfl hg (λa w hf _=>by simp[execOp,ho,hf.eval hx,kW hk]) next
theorem RO (cn:gL ops aq=true)(i:Nat) {o:Oper} {d t:Nat} {U:Array (Nat×Operand)} {z:Value} {pl:List (Nat×Nat)} {parts:List (Nat×Value)} {out:List Value} (hi:ops[i]? =some o)(hd:o.dst=some d)(hl:kL ops aq L i n d o=true)(hS:eH d S=S')(hg:QJ ops S o=some true)
  (ho:o.op=.build t U) (hz:gE P t=some z) (hp:tW P t=some pl) (he:Pf S U.toList=some parts) (hf:kq (VJ pl) z.cells.toList parts=some out)
  (next:WX P C n Q ops aq (i::L) D Φ H ((d,.agg out.toArray)::S')):WX P C n Q ops aq L D Φ H S:=
 HU cn i [] [] hi hd hl hS rfl hg (λa w eM _=>by
  have h0:U.map (λx=>(x.1,a.eval x.2))=parts.toArray:=by
   rw[<-eM.evalP he,<-List.map_toArray]
  have h1:=run_build hz hp hf w;rw[<-h0]at h1;simp only[execOp,ho,Sem.run_bind];rw[show(U.map λx=>match x with|(i,x)=>(i,a.eval x))=U.map (λx=>(x.1,a.eval x.2))from rfl,h1];rfl) next
theorem lN (U:gL ops aq=true)(i:Nat) {o:Oper} {d t sz b q:Nat} {x:Operand} {g:Bool} {cs:List Value} {v:Value} (B:List Fact)(m:List Nat)(hi:ops[i]? =some o)(hd:o.dst=some d)(hl:kL ops aq L i n d o=true)(hS:eH d S=S')(hB:QK H m=B)(hg:QJ ops S o=some true)
  (ho:o.op=.load t x) (hx:da S x=some (.pointer (some ⟨b,q,none⟩))) (hc:∀w,yU Φ B w->pn w b q cs) (hs:QM P t=some sz) (ha:eW P t=some g) (hlen:cs.length=sz) (hv:kd g cs=some v)
  (next:WX P C n Q ops aq (i::L) (B.map (λb=>(i,b))++D) Φ H ((d,v)::S')):WX P C n Q ops aq L D Φ H S:=
 HU U i B m hi hd hl hS hB hg (λa w hf hw=>by simp[execOp,ho,hf.eval hx,Instr.loadAt,Instr.sureAddr,Rr (hc w hw) hs ha hlen hv]) next
theorem Qc5 {w:World} {b q j sz:Nat} {all cs:List Value} (h:pn w b q all)(U:(all.drop j).take sz=cs):pn w b (q+j) cs:=λi u hu=>by
 have:=h (j+i) u (by rw[<-U,List.getElem?_take]at hu;split at hu<;>first|(rw[List.getElem?_drop]at hu;exact hu)|cases hu);rwa [<-Nat.add_assoc]at this
theorem Ov (cn:gL ops aq=true)(i:Nat) {o:Oper} {d t sz b q:Nat} {x:Operand} {g:Bool} {all cs:List Value} {v:Value} (k j:Nat)(hi:ops[i]? =some o)(hd:o.dst=some d)(hl:kL ops aq L i n d o=true)(hS:eH d S=S')(hg:QJ ops S o=some true)
  (ho:o.op=.load t x) (U:Φ[k]? =some (.cells b q all)) (hx:da S x=some (.pointer (some ⟨b,q+j,none⟩))) (qM:(all.drop j).take sz=cs) (hs:QM P t=some sz) (ha:eW P t=some g) (hlen:cs.length=sz) (hv:kd g cs=some v)
  (next:WX P C n Q ops aq (i::L) D Φ H ((d,v)::S')):WX P C n Q ops aq L D Φ H S:=
 lN cn i [] [] hi hd hl hS rfl hg ho hx (λw ⟨⟨F,h⟩,_⟩=>Qc5 (h _ (iL U)).2 qM) hs ha hlen hv next
theorem Bv (cn:gL ops aq=true)(i:Nat) {o:Oper} {d t sz b U:Nat} {x:Operand} {g:Bool} {all cs:List Value} {v:Value} (k j:Nat)(hi:ops[i]? =some o)(hd:o.dst=some d)(hl:kL ops aq L i n d o=true)(hS:eH d S=S')(hg:QJ ops S o=some true)
  (ho:o.op=.load t x) (bh:QK H [k]=[.blk b all U]) (hx:da S x=some (.pointer (some ⟨b,j,none⟩))) (qM:(all.drop j).take sz=cs) (hs:QM P t=some sz) (ha:eW P t=some g) (hlen:cs.length=sz) (hv:kd g cs=some v)
  (next:WX P C n Q ops aq (i::L) ((i,.blk b all U)::D) Φ H ((d,v)::S')):WX P C n Q ops aq L D Φ H S:=
 lN cn i [.blk b all U] [k] hi hd hl hS bh hg ho hx (λw ⟨_,h⟩=>by
  obtain⟨N,F,h1⟩:=h _ (List.mem_singleton.2 rfl);have:=Qc5 (Xq h1.2) qM;rwa [Nat.zero_add]at this) hs ha hlen hv next
theorem Lk {α:Type} (cn:gL ops aq=true)(i:Nat) {o:Oper} {d t e sz:Nat} {x y:Operand} {R:eI α} {p:Option Addr} {cp:Nat} {l:List α} {ik:IntKind} {z:Int} (k j:Nat)(hi:ops[i]? =some o)(hd:o.dst=some d)(hl:kL ops aq L i n d o=true)(hS:eH d S=S')(hg:QJ ops S o=some true)
  (ho:o.op=.indexAddr t x y) (bh:Φ[k]? =some (.sli sz R p cp l)) (hx:da S x=some (.slice p l.length cp)) (hy:da S y=some (.int ik z)) (hz:z=(j:Int)) (hj:j<l.length) (he:fJ P t=some e) (hs:QM P e=some sz)
  (next:∀b q cs u,l[j]? =some u->cs.length=sz->WX P C n Q ops aq (i::L) D (.cells b q cs::.rep R cs u::Φ) H ((d,.pointer (some ⟨b,q,none⟩))::S')):WX P C n Q ops aq L D Φ H S:=by
 subst hz;refine Fo (Λ:=Nat×Nat×List Value) (pure:=λr=>p=some ⟨r.1,r.2.1,none⟩/\r.2.2.length=sz) (facts:=λr=>[.cells r.1 (r.2.1+j*sz) r.2.2,.rep R r.2.2 l[j]]) (λF w dV=>?_) ?_
 ·obtain⟨p',n',c',xs,Et,Hn,hc,hm,lT,eP⟩:=(dV _ (iL bh):zc F w sz (R.p F w) (.slice p l.length cp) l)
  cases Et;obtain⟨b,off,hp,hF,iT⟩:=eP an;obtain⟨cs,U,hr,hu⟩:=lT.at (List.getElem?_eq_getElem hj)
  refine⟨(b,off,cs),⟨hp,U⟩,λφ fx=>?_⟩;simp only[List.mem_cons,List.not_mem_nil,or_false]at fx;rcases fx with rfl|rfl
  ·refine⟨hF,λi u j2=>?_⟩;rw[Nat.add_assoc];exact iT _ u (hu i u j2)
  · exact hr
 ·rintro⟨b,off,cs⟩ ⟨rfl,U⟩;refine HU cn i [] [] hi hd hl hS rfl hg (λa w hf _=>?_) (next b (off+j*sz) cs _ (List.getElem?_eq_getElem hj) U);have h1:(0:Int)<=j/\(j:Int)<l.length:=an
  simp[execOp,ho,hf.eval hx,hf.eval hy,Instr.indexAt,asIntOf,run_underlying (tU he),h1,wK hs,Addr.add,hj]
theorem XK {α Λ:Type} {R:eI α} {cells:α->Λ->List Value} {pure:α->Λ->Prop} {facts:α->Λ->List Fact} {cs:List Value} {x:α} (op:po R cells pure facts)(k:Nat)(hk:Φ[k]? =some (.rep R cs x))
  (next:∀r:Λ,cs=cells x r->pure x r->WX P C n Q ops aq L D (facts x r++Φ) H S):WX P C n Q ops aq L D Φ H S:=
 Fo (pure:=λr=>cs=cells x r/\pure x r) (facts:=facts x) (λF w dV=>by obtain⟨r,h1,U,h3⟩:=op F w cs x (dV _ (iL hk));exact⟨r,⟨h1,U⟩,h3⟩) λr ⟨h1,U⟩=>next r h1 U
theorem uh {o:Oper} {rest:List Oper} {d:Nat} {op:BinOp} {t u:TypeId} {x y:Operand} {a b v:Value} (hg:QJ ops S o=some true)(hd:o.dst=some d)(hn:Nat.blt d n=true)(hS:eH d S=S')(ho:o.op=.binOp op t x y u)(hx:da S x=some a)(hy:da S y=some b)
  (hr:∀w,(do eqGuard op t x y a b;binOp op t a b:Sem Value).run P w=.ok v w) (next:WL P C n Q Φ H ((d,v)::S') ops rest):WL P C n Q Φ H S ops (o::rest):=
 Hh hg hd hn hS (λ_ w U _=>by
  have h1:=hr w;unfold execOp;simp only[ho,U.eval hx,U.eval hy];rw[Sem.run_bind,h1];rfl) next
theorem Li (cn:gL ops aq=true)(i:Nat) {o:Oper} {d:Nat} {op:BinOp} {t u:TypeId} {x y:Operand} {a b v:Value} (hi:ops[i]? =some o)(hd:o.dst=some d)(hl:kL ops aq L i n d o=true)(hS:eH d S=S')(hg:QJ ops S o=some true)
  (ho:o.op=.binOp op t x y u) (hx:da S x=some a) (hy:da S y=some b) (hr:∀w,(do eqGuard op t x y a b;binOp op t a b:Sem Value).run P w=.ok v w)
  (next:WX P C n Q ops aq (i::L) D Φ H ((d,v)::S')):WX P C n Q ops aq L D Φ H S:=
 HU cn i [] [] hi hd hl hS rfl hg (λ_ w U _=>by
  have h1:=hr w;unfold execOp;simp only[ho,U.eval hx,U.eval hy];rw[Sem.run_bind,h1];rfl) next
theorem lD {P:Program} {t e:Nat} (ht:fJ P t=some e)(x y:Operand)(p:Option Addr)(m c m' U:Nat)(w:World):(do eqGuard .eql t x y (.slice p m c) (.slice none m' U);binOp .eql t (.slice p m c) (.slice none m' U):Sem Value).run P w=.ok (.bool (Option.isNone p)) w:=by
 have h:=Lib.run_eql_slice_nil (P:=P) w t e p m c m' U (tU ht);rw[Sem.run_bind,show(eqGuard .eql t x y (.slice p m c) (.slice none m' U)).run P w=.ok () w from rfl];exact h
theorem lE {P:Program} {t e:Nat} (ht:fJ P t=some e)(x y:Operand)(p:Option Addr)(m c m' U:Nat)(w:World):(do eqGuard .neq t x y (.slice p m c) (.slice none m' U);binOp .neq t (.slice p m c) (.slice none m' U):Sem Value).run P w=.ok (.bool (!Option.isNone p)) w:=by
 have h:=run_neq_slice_nil_any (P:=P) w t e p m c m' U (tU ht);rw[Sem.run_bind,show(eqGuard .neq t x y (.slice p m c) (.slice none m' U)).run P w=.ok () w from rfl];exact h
theorem Xz {o:Oper} {rest:List Oper} {d:Nat} {t u e:TypeId} {x y:Operand} {p:Option Addr} {m c m' U:Nat} (hg:QJ ops S o=some true)(hd:o.dst=some d)(hn:Nat.blt d n=true)(hS:eH d S=S')(ho:o.op=.binOp .eql t x y u)(hx:da S x=some (.slice p m c))(hy:da S y=some (.slice none m' U))(ht:fJ P t=some e)
 (next:WL P C n Q Φ H ((d,.bool (Option.isNone p))::S') ops rest):WL P C n Q Φ H S ops (o::rest):=uh hg hd hn hS ho hx hy (lD ht x y p m c m' U) next
theorem wj {o:Oper} {rest:List Oper} {d:Nat} {t u e:TypeId} {x y:Operand} {p:Option Addr} {m c m' U:Nat} (hg:QJ ops S o=some true)(hd:o.dst=some d)(hn:Nat.blt d n=true)(hS:eH d S=S')(ho:o.op=.binOp .neq t x y u)(hx:da S x=some (.slice p m c))(hy:da S y=some (.slice none m' U))(ht:fJ P t=some e)
 (next:WL P C n Q Φ H ((d,.bool (!Option.isNone p))::S') ops rest):WL P C n Q Φ H S ops (o::rest):=uh hg hd hn hS ho hx hy (lE ht x y p m c m' U) next
theorem GN {α:Type} {o:Oper} {rest:List Oper} {d:Nat} {t e sz m g:Nat} {x i:Operand} {R:eI α} {cp:Nat} {l:List α} {ik:IntKind} {z:Int} (k j:Nat)(hg:QJ ops S o=some true)(hd:o.dst=some d)(hn:Nat.blt d n=true)(hS:eH d S=S')(ho:o.op=.indexAddr t x i)
  (U:H[k]? =some (.own e sz R (.slice (some ⟨g,0,none⟩) m cp) l)) (hx:da S x=some (.slice (some ⟨g,0,none⟩) m cp)) (hi:da S i=some (.int ik z)) (hz:z=(j:Int)) (hj:j<l.length) (he:fJ P t=some e) (hs:QM P e=some sz)
  (next:WL P C n Q Φ H ((d,.pointer (some ⟨g,j*sz,none⟩))::S') ops rest):WL P C n Q Φ H S ops (o::rest):=
 Fv k j hg hd hn hS ho U hx hi hz hj he hs λg' e=>by cases e;exact next
theorem RQ {w:World} {α:Type} {e sz m:Nat} {R:eI α} {p:Option Addr} {cp:Nat} {l:List α} {k:Nat} (hw:Qj C Φ H w)(bh:H[k]? =some (.own e sz R (.slice p m cp) l)):m=l.length/\(0<l.length->∃g,p=some ⟨g,0,none⟩):=by
 obtain⟨F,N,hi⟩:=hw;obtain⟨_,U⟩:=hi.owns k _ bh;exact⟨U.len,λh=>by obtain⟨g,hp,_⟩:=U.head h;exact⟨g,hp⟩⟩
theorem GO {α:Type} {e sz m:Nat} {R:eI α} {p:Option Addr} {cp:Nat} {l:List α} (k:Nat)(bh:H[k]? =some (.own e sz R (.slice p m cp) l))(next:m=l.length->(0<l.length->∃g,p=some ⟨g,0,none⟩)->WX P C n Q ops aq L D Φ H S):WX P C n Q ops aq L D Φ H S:=
 λlisted a av w U=>next (RQ U.holds bh).1 (RQ U.holds bh).2 listed a av w U
theorem uQ {α:Type} {e sz m:Nat} {R:eI α} {p:Option Addr} {cp:Nat} {l:List α} {rest:List Oper} (k:Nat)(U:H[k]? =some (.own e sz R (.slice p m cp) l))(next:m=l.length->(0<l.length->∃g,p=some ⟨g,0,none⟩)->WL P C n Q Φ H S ops rest):WL P C n Q Φ H S ops rest:=
 λa w hf hw=>next (RQ hw U).1 (RQ hw U).2 a w hf hw
theorem Xx {α:Type} {e sz m:Nat} {R:eI α} {p:Option Addr} {cp:Nat} {l:List α} {c:Code} (k:Nat)(U:H[k]? =some (.own e sz R (.slice p m cp) l))(next:m=l.length->(0<l.length->∃g,p=some ⟨g,0,none⟩)->WC P C n Q Φ H S c):WC P C n Q Φ H S c:=
 λa w hf hw=>next (RQ hw U).1 (RQ hw U).2 a w hf hw
theorem Mp {α:Type} (cn:gL ops aq=true)(i:Nat) {o:Oper} {d t e sz m:Nat} {x y:Operand} {R:eI α} {p:Option Addr} {cp:Nat} {l:List α} {ik:IntKind} {z:Int} (k j:Nat)(hi:ops[i]? =some o)(hd:o.dst=some d)(hl:kL ops aq L i n d o=true)(hS:eH d S=S')(hg:QJ ops S o=some true)
  (ho:o.op=.indexAddr t x y) (bh:H[k]? =some (.own e sz R (.slice p m cp) l)) (hx:da S x=some (.slice p m cp)) (hy:da S y=some (.int ik z)) (hz:z=(j:Int)) (hj:j<l.length) (he:fJ P t=some e) (hs:QM P e=some sz)
  (next:∀g,p=some ⟨g,0,none⟩->WX P C n Q ops aq (i::L) D Φ H ((d,.pointer (some ⟨g,j*sz,none⟩))::S')):WX P C n Q ops aq L D Φ H S:=
 GO k bh λhm hp=>by
  obtain⟨g,rfl⟩:=hp an;subst hz;refine HU cn i [] [] hi hd hl hS rfl hg (λa w U _=>?_) (next g rfl);have h1:(0:Int)<=j/\(j:Int)<m:=an
  have h2:j<m:=an
  simp[execOp,ho,U.eval hx,U.eval hy,Instr.indexAt,asIntOf,run_underlying (tU he),h1,h2,wK hs];unfold Addr.add;split<;>simp_all
theorem Qc8 {α:Type} (cn:gL ops aq=true)(i:Nat) {o:Oper} {d t e sz m g:Nat} {x y:Operand} {R:eI α} {cp:Nat} {l:List α} {ik:IntKind} {z:Int} (k j:Nat)(hi:ops[i]? =some o)(hd:o.dst=some d)(hl:kL ops aq L i n d o=true)(hS:eH d S=S')(hg:QJ ops S o=some true)
  (ho:o.op=.indexAddr t x y) (U:H[k]? =some (.own e sz R (.slice (some ⟨g,0,none⟩) m cp) l)) (hx:da S x=some (.slice (some ⟨g,0,none⟩) m cp)) (hy:da S y=some (.int ik z)) (hz:z=(j:Int)) (hj:j<l.length) (he:fJ P t=some e) (hs:QM P e=some sz)
  (next:WX P C n Q ops aq (i::L) D Φ H ((d,.pointer (some ⟨g,j*sz,none⟩))::S')):WX P C n Q ops aq L D Φ H S:=
 Mp cn i k j hi hd hl hS hg ho U hx hy hz hj he hs λg' e=>by cases e;exact next
theorem lM {α:Type} (cn:gL ops aq=true)(i:Nat) {o:Oper} {d t e sz st m g:Nat} {x:Operand} {R:eI α} {cp:Nat} {l:List α} {ag:Bool} {y:α} {cells:α->Unit->List Value} {pure:α->Unit->Prop} {facts:α->Unit->List Fact} {v:Value} (op:po R cells pure facts)(k j q:Nat)
  (hi:ops[i]? =some o) (hd:o.dst=some d) (hl:kL ops aq L i n d o=true) (hS:eH d S=S') (hg:QJ ops S o=some true) (ho:o.op=.load t x)
  (U:QK H [k]=[.own e sz R (.slice (some ⟨g,0,none⟩) m cp) l]) (hx:da S x=some (.pointer (some ⟨g,j*sz+q,none⟩))) (hj:l[j]? =some y) (hs:QM P t=some st) (ha:eW P t=some ag)
  (hv:kd ag (((cells y ()).drop q).take st)=some v) (hlen:(((cells y ()).drop q).take st).length=st)
  (next:pure y ()->WX P C n Q ops aq (i::L) ((i,.own e sz R (.slice (some ⟨g,0,none⟩) m cp) l)::D) Φ H ((d,v)::S')):WX P C n Q ops aq L D Φ H S:=by
 have pD:∀N F w,(Fact.own e sz R (.slice (some ⟨g,0,none⟩) m cp) l).op N F w->pn w g (j*sz+q) (((cells y ()).drop q).take st)/\pure y ():=by
  intro N F w ⟨_,xs,xw,lT⟩;obtain⟨cs,LX,hr,hu⟩:=lT.at hj;obtain⟨r,h1,h2,_⟩:=op F w cs y hr;subst h1;refine⟨λz u hq=>?_,h2⟩;have:=xw.cells (g:=g) rfl (j*sz+(q+z)) u (hu _ u (by rw[List.getElem?_take]at hq;split at hq<;>first|(rw[List.getElem?_drop]at hq;exact hq)|cases hq));rw[Cg]at this;rw[Nat.zero_add]at this;rwa [Nat.add_assoc]
 intro listed a av w hr
 have Z2:pure y ():=by
  obtain⟨F,N,hm⟩:=hr.holds
  have hk:H[k]? =some (.own e sz R (.slice (some ⟨g,0,none⟩) m cp) l):=by
   simp only[QK,List.filterMap_cons,List.filterMap_nil]at U;split at U;· cases U
   · rename_i b hb;rw[hb];simpa using U
  exact(pD _ _ _ (hm.owns k _ hk)).2
 exact lN cn i [.own e sz R (.slice (some ⟨g,0,none⟩) m cp) l] [k] hi hd hl hS U hg ho hx (λw ⟨_,h⟩=>by
  obtain⟨N,F,h1⟩:=h _ (List.mem_singleton.2 rfl);exact(pD N F w h1).1) hs ha hlen hv (next Z2) listed a av w hr
theorem Dt {P:Program} {t e sz m g j cp:Nat} {ik:IntKind} (U:j<m)(he:fJ P t=some e)(hs:QM P e=some sz)(w:World):(Instr.indexAt t (.slice (some ⟨g,0,none⟩) m cp) (.int ik (j:Int))).run P w=.ok (.pointer (some ⟨g,j*sz,none⟩)) w:=by
 have h1:(0:Int)<=j/\(j:Int)<m:=an
 simp[Instr.indexAt,asIntOf,run_underlying (tU he),h1,U,wK hs];unfold Addr.add;split<;>simp_all
theorem OR (cn:gL ops aq=true)(i:Nat) {o:Oper} {d t e sz m g cp:Nat} {x y:Operand} {ik:IntKind} {z:Int} (j:Nat)(hi:ops[i]? =some o)(hd:o.dst=some d)(hl:kL ops aq L i n d o=true)(hS:eH d S=S')(hg:QJ ops S o=some true)
  (ho:o.op=.indexAddr t x y) (hx:da S x=some (.slice (some ⟨g,0,none⟩) m cp)) (hy:da S y=some (.int ik z)) (hz:z=(j:Int)) (hj:j<m) (he:fJ P t=some e) (hs:QM P e=some sz)
  (next:WX P C n Q ops aq (i::L) D Φ H ((d,.pointer (some ⟨g,j*sz,none⟩))::S')):WX P C n Q ops aq L D Φ H S:=by
 subst hz;exact HU cn i [] [] hi hd hl hS rfl hg (λa w U _=>by simp[execOp,ho,U.eval hx,U.eval hy,Dt hj he hs]) next
end
end
end
section
open Go.RowKit
def DY (h:Fact):Prop:=∀N F G w,h.op N F w->h.op N G w
theorem yF {α:Type} {e sz m c:Nat} {R:eI α} {p:Option Addr} {l:List α} {F:dW} {w:World} (h:(Fact.own e sz R (.slice p m c) l).p F w):(Fact.sli sz R p c l).p F w:=by
 obtain⟨h1,h2⟩:=h;have hm:=h2.len;subst hm;obtain⟨xs,ho,lT⟩:=h2;rcases ho.2 with⟨h0,U⟩|⟨g,cap,cur,hv,_,hg,yO,Js,qM,fu⟩
 ·obtain rfl:l=[]:=List.eq_nil_of_length_eq_zero U;cases h0;exact⟨none,_,0,xs,rfl,rfl,Nat.le_refl _,an,lT,λh=>absurd h an⟩
 ·cases hv;refine⟨_,_,_,xs,rfl,rfl,yO,Js,lT,λ_=>⟨g,0,rfl,h1 g rfl,λj u hj=>?_⟩⟩;have:=ho.cells (g:=g) rfl j u hj;rwa [Cg]at this
def Of (q m:List Nat):Bool:=q.all λi=>m.any (Nat.beq i)
theorem vZ {q m:List Nat} (h:Of q m=true):∀i∈q,i∈m:=λi hi=>by
 have:=List.all_eq_true.1 h i hi;obtain⟨j,hj,U⟩:=List.any_eq_true.1 this;rw[Nat.eq_of_beq_eq_true U];exact hj
theorem fQ.afterLend {C:Ctx} {Φ H:List Fact} {F:dW} {N:Nat->dW} {w w':World} (h:fQ C Φ H F N w) {l m q:List Nat} (hl:fD (l++m) H.length=true)(hq:Of q m=true) {Hr:List Fact} (fK:∀x∈Hr,DY x)
  (U:Qj ⟨w,λk=>∃i,i<(QK H l).length/\N (l.getD i 0) k,λk=>F k\/∃j,j∈q/\N j k⟩ [] Hr w'):Qj C Φ (Hr++QK H m) w':=by
 obtain⟨F',N',U⟩:=U;obtain⟨h1,h2⟩:=Xp hl;have PA:=vZ hq
 have W0:fD m H.length=true:=by
  have:∀(l:List Nat),fD (l++m) H.length=true->fD m H.length=true:=by
   intro l;induction l with
   |nil=>exact id
   |cons i l ih=>intro h;simp only[List.cons_append,fD,Bool.and_eq_true]at h;exact ih h.2
  exact this l hl
 have hS:∀k,(∃i,i<(QK H l).length/\N (l.getD i 0) k)->∃j,j∈l/\j<H.length/\N j k:=by
  rintro k ⟨i,hi,hk⟩;rw[(VA H l λi hi=>h1 i (by simp[hi])).1]at hi;refine⟨l[i],List.getElem_mem hi,h1 _ (by simp[List.getElem_mem hi]),?_⟩;simpa[List.getD,hi]using hk
 have hql:∀j,j∈q->j∉l:=λj hj Hm=>(List.nodup_append.1 h2).2.2 j Hm j (PA j hj) rfl
 have fG:∀i k,i<Hr.length->N' i k->¬F k/\(∀j,j∈m->¬N j k):=by
  intro i k hi hk;obtain⟨_,b,c⟩:=U.nlt i k hi hk;refine⟨λhf=>c (U.fold k (.inl hf)),λj hj hn=>?_⟩;rcases b with b|b;· have:=(h.nlt j k (h1 j (by simp[hj])) hn).1;simp at b;omega
  ·obtain⟨j',Np,bp,Hn⟩:=hS k b;exact h.apart j j' k (h1 j (by simp[hj])) bp (λe=>by subst e;exact(List.nodup_append.1 h2).2.2 _ Np _ hj rfl) hn Hn
 have hr2:Qj ⟨w,λk=>∃i,i<(QK H l).length/\N (l.getD i 0) k,F⟩ [] Hr w':=by
  refine⟨F,N',λk hk=>Nat.lt_of_lt_of_le (h.flt k hk) U.mod.size,λ_ h=>h,λ_ h=>.inl h,ax,λi x hx=>fK x (List.mem_of_getElem? hx) _ _ _ _ (U.owns i x hx),λi k hi hk=>⟨(U.nlt i k hi hk).1,(U.nlt i k hi hk).2.1,(fG i k hi hk).1⟩,U.apart,U.mod⟩
 exact h.after hl hr2
section
variable {P:Program} {C:Ctx} {n:FD} {Q:Exit->Act->World->Prop} {Φ Φ':List Fact} {H H':List Fact} {S S':List (Nat×Value)} {ops:Array Oper} {rest:List Oper} {o:Oper} {d:Nat} {c x y:Code}
theorem Gl {f:FuncId} {xs:Array Operand} {ts:Array TypeId} {args:List Value} {Φf Hf:List Fact} {R:Value->List Fact->List Fact->Prop} (l m q:List Nat)(hg:QJ ops S o=some true)
  (ho:o.op=.call {callee:=.value (.func f),args:=xs,argTypes:=ts}) (hx:vk S xs.toList=some args) (ji:QW P f=true)
  (hH:QK H l=Hf) (spec:QA P f args Φf Hf R) (dV:∀F w,(∀ψ∈Φ,ψ.p F w)->(∀ψ∈QK H q,ψ.p F w)->∀φ∈Φf,φ.p F w) (fK:∀v bo Hr,R v bo Hr->bo=[]/\∀x∈Hr,DY x) (hl:fD (l++m) H.length=true) (hq:Of q m=true) (hm:QK H m=H')
  (next:∀v bo Hr,R v bo Hr->∀a w,fj n S a->Qj C (bo++Φ) (Hr++H') w->wpList P ops Q rest (a.put o.dst v) w):WL P C n Q Φ H S ops (o::rest):=by
 subst hH;subst hm;intro a w U ⟨F,N,hi⟩;obtain⟨i1,i2⟩:=Xp hl;have PA:=vZ hq
 have iU:fD l H.length=true:=by
  clear spec next
  have:∀(l:List Nat),fD (l++m) H.length=true->fD l H.length=true:=by
   intro l;induction l with
   |nil=>intro _;rfl
   | cons i l ih=>
     intro h;simp only[List.cons_append,fD,Bool.and_eq_true,Bool.not_eq_true',List.any_append,Bool.or_eq_false_iff]at h⊢;exact⟨⟨h.1.1,h.1.2.1⟩,ih h.2⟩
  exact this l hl
 have hp:=hi.pick l iU;have gI:∀k,F k->(F k\/∃j,j∈q/\N j k):=λ_ h=>.inl h
 have eh:=spec (λk=>F k\/∃j,j∈q/\N j k) _ w (λk hk=>by
   rcases hk with hk|⟨j,hj,hk⟩
   · exact hi.flt k hk
   · exact(hi.nlt j k (i1 j (by simp[PA j hj])) hk).1)
  (dV _ w (λψ gJ=>ψ.good gI (fy.refl _ _) (hi.facts ψ gJ)) (λψ gJ=>by
   obtain⟨j,hj,Gh⟩:=List.mem_filterMap.1 gJ;exact ψ.opgood (λk hk=>.inr ⟨j,hj,hk⟩) (fy.refl _ _) gI (fy.refl _ _) (hi.owns j ψ Gh)))
  (λi x hx=>x.opgood (λ_ h=>h) (fy.refl _ _) gI (fy.refl _ _) (hp.owns i x hx))
  (λi k gZ hk=>⟨(hp.nlt i k gZ hk).1,λU=>by
   rcases U with U|⟨j,hj,U⟩
   · exact(hp.nlt i k gZ hk).2.2 U
   · have yN:i<l.length:=by rw[(VA H l λi hi=>i1 i (by simp[hi])).1]at gZ;exact gZ
     have e:l.getD i 0=l[i]:=by simp[yN]
     rw[e]at hk;exact hi.apart l[i] j k (i1 _ (by simp[List.getElem_mem yN])) (i1 j (by simp[PA j hj])) (λe=>(List.nodup_append.1 i2).2.2 _ (List.getElem_mem yN) _ (PA j hj) e) hk U⟩) hp.apart
 refine wpList_step λK hK=>?_;rw[GW U hg,if_pos rfl];unfold Oper.wp
 have fq:xs.map a.eval=args.toArray:=by
  have:=U.evalL hx;have h0:xs=xs.toList.toArray:=ax
  rw[<-this,h0,List.map_toArray]
 have eQ:(execOp a.eval o).run P w=.ok (.enter f args.toArray) w:=by
  have Hl:a.eval (.func f)=.func (.func f) #[] #[]:=rfl
  have h2:(resolve a.eval {callee:=.value (.func f),args:=xs,argTypes:=ts} o.type).run P w=.ok {target:=.fn (.func f) #[],args:=args.toArray} w:=by
   simp[resolve,Hl,Deferred.ofValue,fq]
  unfold execOp;simp only[ho,Sem.run_bind,h2,Result.andThen_ok];simp[invoke,VH ji]
 rw[eQ,Oper.upon_enter];refine eh.mono ?_;rintro e w' ⟨v,bo,Hr,rfl,hR,hh⟩;obtain⟨rfl,eM⟩:=fK v bo Hr hR;exact hK _ _ (next v [] Hr hR a w' U (hi.afterLend hl hq eM hh))
theorem Fl {f:FuncId} {xs:Array Operand} {ts:Array TypeId} {args:List Value} {Φf Hf:List Fact} {R:Value->List Fact->List Fact->Prop} (l m q:List Nat)(hg:QJ ops S o=some true)(hd:o.dst=some d)(hn:Nat.blt d n=true)(hS:eH d S=S')
  (ho:o.op=.call {callee:=.value (.func f),args:=xs,argTypes:=ts}) (hx:vk S xs.toList=some args) (ji:QW P f=true)
  (hH:QK H l=Hf) (spec:QA P f args Φf Hf R) (dV:∀F w,(∀ψ∈Φ,ψ.p F w)->(∀ψ∈QK H q,ψ.p F w)->∀φ∈Φf,φ.p F w) (fK:∀v U Hr,R v U Hr->U=[]/\∀x∈Hr,DY x) (hl:fD (l++m) H.length=true) (hq:Of q m=true) (hm:QK H m=H')
  (next:∀v U Hr,R v U Hr->WL P C n Q (U++Φ) (Hr++H') ((d,v)::S') ops rest):WL P C n Q Φ H S ops (o::rest):=
 Gl l m q hg ho hx ji hH spec dV fK hl hq hm λv U Hr hR a w hf hw=>by rw[hd];exact next v U Hr hR _ w (hf.put (Nat.le_of_ble_eq_true hn) hS) hw
end
theorem pW {φ:Fact} {Φ':List Fact} {F:dW} {w:World} (h:φ.p F w)(h':∀U∈Φ',U.p F w):∀U∈φ::Φ',U.p F w:=λU gJ=>by
 rcases List.mem_cons.1 gJ with rfl|gJ;· exact h
 · exact h' U gJ
theorem QP {F:dW} {w:World}:∀U∈([]:List Fact),U.p F w:=ax
theorem zC {x:Fact} (h:x∈([]:List Fact)):DY x:=by cases h
end
section
open Go.RowKit
theorem tn {α:Type} {sz:Nat} {R:eI α} {F:dW} {w:World}:(Fact.sli sz R none 0 ([]:List α)).p F w:=⟨none,0,0,[],rfl,rfl,Nat.le_refl _,an,rfl,λh=>absurd h an⟩
theorem EU {α:Type} {sz c:Nat} {R U:eI α} {p:Option Addr} {l:List α} {F:dW} {w:World} (h:(Fact.sli sz R p c l).p F w)(hR:∀cs x,R.p F w cs x->U.p F w cs x):(Fact.sli sz U p c l).p F w:=by
 obtain⟨p',n',c',xs,e1,e2,h1,h2,h3,h4⟩:=h;exact⟨p',n',c',xs,e1,e2,h1,h2,h3.mono λcs x _=>hR cs x,h4⟩
end
section
open Go.RowKit
def H9 (a:fl)(v:V)(has:List Bool)(vals:List V):Option (List Bool×List V):=
 if a.k=1 then some (has,vals)
 else if a.k=4 then if a.v=v then some (has,vals)else none
 else if a.k=3 then if 0<=a.var/\a.var<has.length/\has[a.var.toNat]? =some true/\vals[a.var.toNat]? =some v then some (has,vals)else none
 else if a.k=2 then if 0<=a.var/\a.var<has.length then some (has.set a.var.toNat true,vals.set a.var.toNat v)else none
 else none
theorem sg {a:fl} {v:V} {h:List Bool} {vs:List V} {h':List Bool} {vs':List V} (e:H9 a v h vs=some (h',vs')):h'.length=h.length/\vs'.length=vs.length:=by
 unfold H9 at e;repeat' split at e
 all_goals first|(cases e;done)|(simp at e;obtain⟨rfl,rfl⟩:=e;simp)
end
section
open Go.RowKit
section
variable {P:Program} {C:Ctx} {n:FD} {Q:Exit->Act->World->Prop} {Φ Φ':List Fact} {H H':List Fact} {S S':List (Nat×Value)} {ops:Array Oper} {rest:List Oper} {o:Oper} {d:Nat}
theorem rN {f:FuncId} {args:List Value} {Φf Hf:List Fact} {R:Value->List Fact->List Fact->Prop} (l m:List Nat)(hg:QJ ops S o=some true)
  (eQ:∀a w,fj n S a->(execOp a.eval o).run P w=.ok (.enter f args.toArray) w)
  (hH:QK H l=Hf) (spec:QA P f args Φf Hf R) (dV:∀F w,(∀ψ∈Φ,ψ.p F w)->∀φ∈Φf,φ.p F w) (hl:fD (l++m) H.length=true) (hm:QK H m=H')
  (next:∀v U Hr,R v U Hr->∀a w,fj n S a->Qj C (U++Φ) (Hr++H') w->wpList P ops Q rest (a.put o.dst v) w):WL P C n Q Φ H S ops (o::rest):=by
 subst hH;subst hm;intro a w hf ⟨F,N,hi⟩
 have iU:fD l H.length=true:=by
  clear spec next
  have:∀(l:List Nat),fD (l++m) H.length=true->fD l H.length=true:=by
   intro l;induction l with
   |nil=>intro _;rfl
   | cons i l ih=>
     intro h;simp only[List.cons_append,fD,Bool.and_eq_true,Bool.not_eq_true',List.any_append,Bool.or_eq_false_iff]at h⊢;exact⟨⟨h.1.1,h.1.2.1⟩,ih h.2⟩
  exact this l hl
 have hp:=hi.pick l iU;have eh:=spec F _ w hi.flt (λφ bh=>dV F w hi.facts φ bh) hp.owns (λi k gZ hk=>⟨(hp.nlt i k gZ hk).1,(hp.nlt i k gZ hk).2.2⟩) hp.apart;refine wpList_step λK hK=>?_;rw[GW hf hg,if_pos rfl];unfold Oper.wp;rw[eQ a w hf,Oper.upon_enter];refine eh.mono ?_;rintro e w' ⟨v,U,Hr,rfl,hR,hh⟩;exact hK _ _ (next v U Hr hR a w' hf (hi.after hl hh))
theorem MV {f:FuncId} {y:Operand} {xs:Array Operand} {ts:Array TypeId} {U args:List Value} {fp:Array Value} (ho:o.op=.call {callee:=.value y,args:=xs,argTypes:=ts})(hy:da S y=some (.func (.func f) #[] fp))(hx:vk S xs.toList=some U)
  (ji:QW P f=true) (ha:U++fp.toList=args):∀a w,fj n S a->(execOp a.eval o).run P w=.ok (.enter f args.toArray) w:=by
 intro a w hf
 have fq:xs.map a.eval=U.toArray:=by
  have:=hf.evalL hx;have h0:xs=xs.toList.toArray:=ax
  rw[<-this,h0,List.map_toArray]
 have h2:(resolve a.eval {callee:=.value y,args:=xs,argTypes:=ts} o.type).run P w=.ok {target:=.fn (.func f) fp,args:=U.toArray} w:=by
  simp[resolve,hf.eval hy,Deferred.ofValue,fq]
 have h3:U.toArray++fp=args.toArray:=by rw[<-ha];simp
 unfold execOp;simp only[ho,Sem.run_bind,h2,Result.andThen_ok];simp[invoke,VH ji,h3]
theorem pk {f:FuncId} {y:Operand} {xs:Array Operand} {ts:Array TypeId} {fo args:List Value} {fp:Array Value} {Φf Hf:List Fact} {R:Value->List Fact->List Fact->Prop} (l m:List Nat)(hg:QJ ops S o=some true)(hd:o.dst=some d)(hn:Nat.blt d n=true)(hS:eH d S=S')
  (ho:o.op=.call {callee:=.value y,args:=xs,argTypes:=ts}) (hy:da S y=some (.func (.func f) #[] fp)) (hx:vk S xs.toList=some fo) (ji:QW P f=true) (ha:fo++fp.toList=args)
  (hH:QK H l=Hf) (spec:QA P f args Φf Hf R) (dV:∀F w,(∀ψ∈Φ,ψ.p F w)->∀φ∈Φf,φ.p F w) (hl:fD (l++m) H.length=true) (hm:QK H m=H')
  (next:∀v U Hr,R v U Hr->WL P C n Q (U++Φ) (Hr++H') ((d,v)::S') ops rest):WL P C n Q Φ H S ops (o::rest):=
 rN l m hg (MV ho hy hx ji ha) hH spec dV hl hm λv U Hr hR a w hf hw=>by rw[hd];exact next v U Hr hR _ w (hf.put (Nat.le_of_ble_eq_true hn) hS) hw
theorem wH {f:FuncId} {xs:Array Operand} {U:List Value} (hg:QJ ops S o=some true)(hd:o.dst=some d)(hn:Nat.blt d n=true)(hS:eH d S=S')(ho:o.op=.makeFunc (.func f) #[] xs)(hx:vk S xs.toList=some U)
  (next:WL P C n Q Φ H ((d,.func (.func f) #[] U.toArray)::S') ops rest):WL P C n Q Φ H S ops (o::rest):=
 Hh hg hd hn hS (λa w hf _=>by
  have fq:xs.map a.eval=U.toArray:=by
   have:=hf.evalL hx;have h0:xs=xs.toList.toArray:=ax
   rw[<-this,h0,List.map_toArray]
  simp[execOp,ho,Instr.makeFunc,fq]) next
end
end
section
open Go Go.RowKit
section
variable {P:Program} {C:Ctx} {n:FD} {Q:Exit->Act->World->Prop} {Φ Φ':List Fact} {H H':List Fact} {S S':List (Nat×Value)} {ops:Array Oper} {rest:List Oper} {o:Oper} {d:Nat}
theorem DP {α:Type} {t e e2 sz je m2:Nat} {s x:Operand} {R:eI α} {v z:Value} {l l2:List α} {p:Option Addr} {cp:Nat} (k j:Nat)(hg:QJ ops S o=some true)(hd:o.dst=some d)(hn:Nat.blt d n=true)(hS:eH d S=S')
  (ho:o.op=.call {callee:=.builtin .append,args:=#[s,x],argTypes:=#[t,t]}) (bh:H[k]? =some (.own e sz R v l)) (hs:da S s=some v) (gJ:H[j]? =some (.own e2 sz R (.slice p m2 cp) l2)) (hx:da S x=some (.slice p l2.length cp))
  (he:fJ P t=some e) (hr:gV P e=some (z,sz,je)) (tZ:Nat.beq z.cells.size sz=true) (iJ:Nat.blt 0 sz=true) (Jl:l.length+l2.length<=9223372036854775807) (LV:(l.length+l2.length)*je<=140737488355328)
  {H2:Option Addr->Nat->List Fact} (hH:∀p' U,H.set k (.own e sz R (.slice p' (l++l2).length U) (l++l2))=H2 p' U) (next:∀p' U,WL P C n Q Φ (H2 p' U) ((d,.slice p' (l++l2).length U)::S') ops rest):WL P C n Q Φ H S ops (o::rest):=
 Qbr k hg hd hn hS ho bh hs hx (λF N w hi=>by
  obtain⟨_,xs,ho,lT⟩:=hi.owns j _ gJ;rcases ho.2 with⟨h0,h00⟩|⟨g,cap,cur,hv,_⟩
  · exact⟨xs,lT,λh=>absurd h an⟩
  ·cases hv;refine⟨xs,lT,λ_=>⟨g,0,rfl,λq u hq=>?_⟩⟩;have:=ho.cells (g:=g) rfl q u hq;rwa [Cg]at this) he hr tZ iJ Jl LV hH next
theorem UT (hg:QJ ops S o=some true)(hd:o.dst=none)(run:∀a w,fj n S a->Qj C Φ H w->∃v w',(execOp a.eval o).run P w=.ok (.value v) w'/\Qj C Φ' H' w')(next:WL P C n Q Φ' H' S ops rest):WL P C n Q Φ H S ops (o::rest):=by
 intro a w U hw;obtain⟨v,w',hr,h1⟩:=run a w U hw;refine wpList_step λK hK=>?_
 rw[GW U hg,if_pos rfl];unfold Oper.wp;rw[hr];unfold Oper.upon;rw[hd];exact hK _ _ (next _ _ U h1)
end
theorem OZ {α:Type} {l:List α} {k:Nat} {x:α} (h:l[k]? =some x):l.set k x=l:=by
 obtain⟨h1,rfl⟩:=List.getElem?_eq_some_iff.1 h;exact List.set_getElem_self h1
end
section
open Go.RowKit
def tE (P:Program)(t:Nat):Option Nat:=match P.underlying t with
 |some (.pointer e)=>some e
 |_=>none
theorem KP {P:Program} {t e:Nat} (h:tE P t=some e):P.underlying t=some (.pointer e):=by
 unfold tE at h;split at h;· rename_i hu;cases h;exact hu
 · cases h
theorem Pe {P:Program} {t e:Nat} (U:tE P t=some e)(n:Nat)(a:Option Addr)(w:World):(Op.equalIn (n+1) t (.pointer a) (.pointer none)).run P w=.ok a.isNone w:=by
 cases a<;>simp[Op.equalIn,run_underlying (KP U)]
theorem NT {P:Program} {t e:Nat} (U:tE P t=some e)(x y:Operand)(a:Option Addr)(w:World):(do eqGuard .neq t x y (.pointer a) (.pointer none);binOp .neq t (.pointer a) (.pointer none):Sem Value).run P w=.ok (.bool (!a.isNone)) w:=by
 rw[Sem.run_bind,show(eqGuard .neq t x y (.pointer a) (.pointer none)).run P w=.ok () w from rfl,Result.andThen_ok];have h:=Pe U 9999 a w;simp only[binOp];simp[Op.equal,Op.maxDepth,h]
theorem IA {P:Program} {t e:Nat} (U:tE P t=some e)(x y:Operand)(a:Option Addr)(w:World):(do eqGuard .eql t x y (.pointer a) (.pointer none);binOp .eql t (.pointer a) (.pointer none):Sem Value).run P w=.ok (.bool a.isNone) w:=by
 rw[Sem.run_bind,show(eqGuard .eql t x y (.pointer a) (.pointer none)).run P w=.ok () w from rfl,Result.andThen_ok];have h:=Pe U 9999 a w;simp only[binOp];simp[Op.equal,Op.maxDepth,h]
end
section
open Go Go.RowKit
def nR (k:IntKind)(x:Int):Prop:=IntKind.min k<=x/\x<=IntKind.max k
def gd {α:Type} (c:Prop) [Decidable c] (m:Option α):Option α:=if c then m else none
def Qg {α β:Type} (m:Option α)(k:α->Option β):Option β:=match m with
 |some a=>k a
 |none=>none
def j7 {σ O:Type} (X:Option (σ⊕O))(Y:σ->Option O):Option O:=match X with
 |some (.inl s)=>Y s
 |some (.inr o)=>some o
 |none=>none
def vz {σ O:Type} (Y:σ->Option O)(x:σ⊕O)(b:O):Prop:=match x with
 | .inl s=>Y s=some b
 | .inr o=>o=b
def fF {σ O:Type} (f:σ->Option (σ⊕O)):Nat->σ->Option O
 |0,_=>none
 |n+1,s=>j7 (f s) (fF f n)
section
variable {α β σ O:Type}
theorem mA {c:Prop} [Decidable c] {m:Option α} {b:α} (h:gd c m=some b):c/\m=some b:=by
 unfold gd at h;split at h;· rename_i U;exact⟨U,h⟩
 · cases h
theorem QY {c:Prop} [Decidable c] {m:Option α} (h:c):gd c m=m:=if_pos h
theorem Qw {m:Option α} {k:α->Option β} {b:β} (h:Qg m k=some b):∃a,m=some a/\k a=some b:=by
 unfold Qg at h;split at h;· rename_i a;exact⟨a,rfl,h⟩
 · cases h
theorem Q1 {a:α} {k:α->Option β}:Qg (some a) k=k a:=rfl
theorem kQ {X:Option (σ⊕O)} {Y:σ->Option O} {b:O} (h:j7 X Y=some b):∃x,X=some x/\vz Y x b:=by
 unfold j7 at h;split at h;· rename_i s;exact⟨_,rfl,h⟩
 · rename_i o;cases h;exact⟨_,rfl,rfl⟩
 · cases h
theorem rv {s:σ} {Y:σ->Option O}:j7 (some (.inl s)) Y=Y s:=rfl
theorem H3 {o:O} {Y:σ->Option O}:j7 (some (.inr o)) Y=some o:=rfl
theorem j5 {Y:σ->Option O} {x:σ⊕O} {b:O} {s:σ} (h:vz Y x b)(e:x=.inl s):Y s=some b:=by subst e;exact h
theorem QG {Y:σ->Option O} {x:σ⊕O} {b o:O} (h:vz Y x b)(e:x=.inr o):b=o:=by subst e;exact Eq.symm h
theorem Gj {f:σ->Option (σ⊕O)} {n:Nat} {s:σ} {b:O} (h:fF f n s=some b):∃m x,n=m+1/\f s=some x/\vz (fF f m) x b:=by
 cases n with
 |zero=>cases h
 |succ n=>obtain⟨x,h1,U⟩:=kQ h;exact⟨n,x,rfl,h1,U⟩
theorem Lz {f:σ->Option (σ⊕O)} {n:Nat} {s s':σ} (h:f s=some (.inl s')):fF f (n+1) s=fF f n s':=by
 show j7 (f s) (fF f n)=_;rw[h];rfl
theorem ua {f:σ->Option (σ⊕O)} {n:Nat} {s:σ} {o:O} (h:f s=some (.inr o)):fF f (n+1) s=some o:=by
 show j7 (f s) (fF f n)=_;rw[h];rfl
theorem Xt {f:σ->Option (σ⊕O)}:∀{n m:Nat} {s:σ} {b:O},fF f n s=some b->n<=m->fF f m s=some b
 |0,_,_,_,h,_=>by cases h
 |n+1,0,_,_,_,h=>an
 | n+1,m+1,s,b,h,hm=>by
   obtain⟨x,h1,U⟩:=kQ (show j7 (f s) (fF f n)=some b from h);show j7 (f s) (fF f m)=some b;rw[h1];cases x with
   |inl s'=>exact Xt (show fF f n s'=some b from U) an
   |inr o=>exact congrArg some (show o=b from U)
theorem VI {f:σ->Option (σ⊕O)} (I:σ->Prop)(μ:σ->Nat)(R:O->Prop)(step:∀s,I s->(∃s',f s=some (.inl s')/\I s'/\μ s'<μ s)\/(∃o,f s=some (.inr o)/\R o)):
   ∀(n:Nat) (s:σ),I s->μ s<n->∃o,fF f n s=some o/\R o
 |0,_,_,h=>an
 | n+1,s,hI,h=>by
   rcases step s hI with⟨s',h1,U,h3⟩|⟨o,h1,U⟩
   ·obtain⟨o,h4,h5⟩:=VI I μ R step n s' U an;exact⟨o,by rw[Lz h1];exact h4,h5⟩
   · exact⟨o,ua h1,U⟩
theorem iM {c:Bool} {x y:Option α} {b:α} (h:(if c=true then x else y)=some b):(c=true/\x=some b)\/(c=false/\y=some b):=by
 cases c;· exact .inr ⟨rfl,h⟩
 · exact .inl ⟨rfl,h⟩
theorem Zy {c:Bool} {x y:α} {b:α} (hm:(if c=true then x else y)=b)(h:c=true):x=b:=by rwa [if_pos h]at hm
theorem Zx {c:Bool} {x y:α} {b:α} (hm:(if c=true then x else y)=b)(h:c=false):y=b:=by rwa [if_neg (by simp[h])]at hm
theorem kc {l:List α} {j:Nat} {x:α} (h:l[j]? =some x):j<l.length:=(List.getElem?_eq_some_iff.1 h).1
theorem gQ {b c:Bool} (h:b=c):Value.bool b=.bool c:=by rw[h]
theorem ZG {a b:Nat}:Value.bool (decide ((a:Int)<(b:Int)))=.bool (decide (a<b)):=ax
theorem ZF {a b:Nat}:Value.bool (decide ((a:Int)<=(b:Int)))=.bool (decide (a<=b)):=ax
theorem ZE {a b:Nat}:Value.bool (decide ((a:Int)>(b:Int)))=.bool (decide (b<a)):=ax
theorem ZD {a b:Nat}:Value.bool (decide ((a:Int)>=(b:Int)))=.bool (decide (b<=a)):=ax
theorem ZC {a b:Nat}:Value.bool ((a:Int)==(b:Int))=.bool (a==b):=by
 congr 1;by_cases h:a=b;· subst h;simp
 ·have U:¬(a:Int)=b:=an
  rw[beq_false_of_ne h,beq_false_of_ne U]
theorem ZH {a b:Nat}:Value.bool ((a:Int) !=(b:Int))=.bool (a !=b):=by
 congr 1;by_cases h:a=b;· subst h;simp
 ·have U:¬(a:Int)=b:=an
  simp[bne,beq_false_of_ne h,beq_false_of_ne U]
theorem i64_in {x:Int} (h:inI x):Value.int .i64 (IntKind.wrap .i64 x)=.int .i64 x:=by rw[IntWalk.i64_in _ h]
theorem wL {x:Int} (h:0<=x):x=(x.toNat:Int):=an
end
def za {α Λ:Type} (cells:α->Λ->List Value)(facts:α->Λ->List Fact)(one:∀x r,∀u∈cells x r,u.oneCell'=true):eI α:=
 ⟨λF w cs x=>∃r,cs=cells x r/\∀φ∈facts x r,φ.p F w,λhF ha ⟨r,h1,h2⟩=>⟨r,h1,λφ U=>φ.good hF ha (h2 φ U)⟩,λ⟨r,h1,_⟩ u hu=>one _ r u (h1▸hu)⟩
theorem Ft {α Λ:Type} {cells:α->Λ->List Value} {facts:α->Λ->List Fact} {one:∀x r,∀u∈cells x r,u.oneCell'=true}:po (za cells facts one) cells (λ_ _=>True) facts:=λ_ _ _ _ ⟨r,h1,U⟩=>⟨r,h1,trivial,U⟩
section
variable {P:Program} {C:Ctx} {n:FD} {Q:Exit->Act->World->Prop} {Φ Φ':List Fact} {H H':List Fact} {S S':List (Nat×Value)} {ops:Array Oper} {rest:List Oper} {o:Oper} {d:Nat} {aq L:List Nat} {D:List (Nat×Fact)} {c:Code} {e:Exit}
theorem tm {α:Type 1} {l:List α} {k:Nat} {x:α} (h:l[k]? =some x):l.set k x=l:=by
 obtain⟨h1,U⟩:=List.getElem?_eq_some_iff.1 h;rw[<-U];simp
theorem uS (k:Nat) {φ φ':Fact} (hk:H[k]? =some φ)(he:φ=φ')(hH:H.set k φ'=H')(h:WL P C n Q Φ H' S ops rest):WL P C n Q Φ H S ops rest:=by
 subst he;subst hH;rwa [tm hk]at h
theorem LO (k:Nat) {φ φ':Fact} (hk:H[k]? =some φ)(he:φ=φ')(hH:H.set k φ'=H')(h:WC P C n Q Φ H' S c):WC P C n Q Φ H S c:=by
 subst he;subst hH;rwa [tm hk]at h
theorem pb (k:Nat) {φ φ':Fact} (hk:H[k]? =some φ)(he:φ=φ')(hH:H.set k φ'=H')(h:WE C n Q Φ H' S e):WE C n Q Φ H S e:=by
 subst he;subst hH;rwa [tm hk]at h
theorem nN (k:Nat) {x:Nat} {v v':Value} (hk:S[k]? =some (x,v))(he:v=v')(h:WL P C n Q Φ H (S.set k (x,v')) ops rest):WL P C n Q Φ H S ops rest:=by
 subst he;rwa [OZ hk]at h
theorem a0b (k:Nat) {x:Nat} {v v':Value} (hk:S[k]? =some (x,v))(he:v=v')(h:WC P C n Q Φ H (S.set k (x,v')) c):WC P C n Q Φ H S c:=by
 subst he;rwa [OZ hk]at h
theorem a0d (k:Nat) {x:Nat} {v v':Value} (hk:S[k]? =some (x,v))(he:v=v')(h:WE C n Q Φ H (S.set k (x,v')) e):WE C n Q Φ H S e:=by
 subst he;rwa [OZ hk]at h
theorem Mk {σ:Type} {ok:σ->Prop} {q9:σ->List (Nat×Value)} {gw pU:σ->List Fact} {μ:σ->Nat} {k:Nat} (s':σ)(U:μ s'<k)(h0:ok s')(l:List Nat)(hS:gC l S=q9 s')(dV:∀F w,(∀ψ∈Φ,ψ.p F w)->∀φ∈gw s',φ.p F w)(hH:H=pU s'):
 WE C n (Exit.then (λa' w'=>∃s',μ s'<k/\nX ok q9 gw pU C n s' a' w') Q) Φ H S .normal:=λa w hf hw=>⟨s',U,AZ s' h0 l hS dV hH hf hw⟩
theorem sQ {a b:Nat} (h:a=b):Value.int .i64 (a:Int)=.int .i64 (b:Int):=by rw[h]
theorem HR (l:List Nat)(hl:fD l H.length=true)(hH:QK H l=H')(h:WC P C n Q Φ H' S c):WC P C n Q Φ H S c:=λa w U hw=>h a w U (by rw[<-hH];exact hw.pick l hl)
theorem HM {α:Type} (U sz:Nat)(R:eI α)(next:WE C n Q Φ (.own U sz R (.slice none 0 0) []::H) S e):WE C n Q Φ H S e:=λa w hf hw=>next a w hf (hw.rowNil U sz R)
theorem Oq (φ:Fact)(U:∀F w,(∀ψ∈Φ,ψ.p F w)->φ.p F w)(h:WE C n Q (φ::Φ) H S e):WE C n Q Φ H S e:=
 λa w hf hw=>h a w hf (hw.fact λF=>U F w)
theorem pe {α:Type} {t e sz:Nat} {x i:Operand} {R:eI α} {p:Option Addr} {cp:Nat} {l:List α} {ik:IntKind} {z:Int} {y:α} (k j:Nat)(hg:QJ ops S o=some true)(hd:o.dst=some d)(hn:Nat.blt d n=true)(hS:eH d S=S')(ho:o.op=.indexAddr t x i)
  (bh:Φ[k]? =some (.sli sz R p cp l)) (hx:da S x=some (.slice p l.length cp)) (hi:da S i=some (.int ik z)) (hz:z=(j:Int)) (hy:l[j]? =some y) (he:fJ P t=some e) (hs:QM P e=some sz)
  (next:∀b q cs,cs.length=sz->WL P C n Q (.cells b q cs::.rep R cs y::Φ) H ((d,.pointer (some ⟨b,q,none⟩))::S') ops rest):WL P C n Q Φ H S ops (o::rest):=
 Lg k j hg hd hn hS ho bh hx hi hz (kc hy) he hs λb q cs y' U hl=>by
  obtain rfl:y=y':=Option.some.inj (hy.symm.trans U);exact next b q cs hl
theorem pf {α:Type} (cn:gL ops aq=true)(i:Nat) {o:Oper} {d t e sz:Nat} {x y:Operand} {R:eI α} {p:Option Addr} {cp:Nat} {l:List α} {ik:IntKind} {z:Int} {u:α} (k j:Nat)(hi:ops[i]? =some o)(hd:o.dst=some d)(U:kL ops aq L i n d o=true)(hS:eH d S=S')(hg:QJ ops S o=some true)
  (ho:o.op=.indexAddr t x y) (bh:Φ[k]? =some (.sli sz R p cp l)) (hx:da S x=some (.slice p l.length cp)) (hy:da S y=some (.int ik z)) (hz:z=(j:Int)) (hu:l[j]? =some u) (he:fJ P t=some e) (hs:QM P e=some sz)
  (next:∀b q cs,cs.length=sz->WX P C n Q ops aq (i::L) D (.cells b q cs::.rep R cs u::Φ) H ((d,.pointer (some ⟨b,q,none⟩))::S')):WX P C n Q ops aq L D Φ H S:=
 Lk cn i k j hi hd U hS hg ho bh hx hy hz (kc hu) he hs λb q cs y' Zr U=>by
  obtain rfl:u=y':=Option.some.inj (hu.symm.trans Zr);exact next b q cs U
end
end
section
open Go Go.RowKit
theorem bg {Φ Φ':List Fact} (l:List Nat)(h:QK Φ l=Φ')(F:dW)(w:World)(U:∀ψ∈Φ,ψ.p F w):∀φ∈Φ',φ.p F w:=ask l h U
def jV (d:Nat)(S:List (Nat×Value)):Bool:=S.all λx=>!(Nat.beq x.1 d)
section
variable {P:Program} {C:Ctx} {n:FD} {Q:Exit->Act->World->Prop} {Φ Φ':List Fact} {H H':List Fact} {S S':List (Nat×Value)} {ops:Array Oper} {rest:List Oper} {o:Oper} {d:Nat}
private theorem p2.{u,v} {α:Type u} {β:Type v} {a U:α} {b b':β} (h:(a,b)=(U,b')):a=U/\b=b':=by cases h;exact⟨rfl,rfl⟩
theorem wP {v:Value} (h:(QJ ops S o,o.dst,Nat.blt d n,jV d S,z7 S o.op)=(some true,some d,true,true,some v))(next:WL P C n Q Φ H ((d,v)::S) ops rest):WL P C n Q Φ H S ops (o::rest):=by
 obtain⟨h1,h⟩:=p2 h;obtain⟨U,h⟩:=p2 h;obtain⟨h3,h⟩:=p2 h;obtain⟨h4,h5⟩:=p2 h;exact Qt h1 U h3 (Q0 h4) h5 next
theorem wO (h:(QJ ops S o,o.dst,Nat.blt d n,jV d S)=(some false,some d,true,true))(next:WL P C n Q Φ H ((d,undef)::S) ops rest):WL P C n Q Φ H S ops (o::rest):=by
 obtain⟨h1,h⟩:=p2 h;obtain⟨U,h⟩:=p2 h;obtain⟨h3,h4⟩:=p2 h;exact Lh h1 U h3 (Q0 h4) next
theorem wF {t k off b q:Nat} {x:Operand} (h:(QJ ops S o,o.dst,Nat.blt d n,jV d S,o.op,da S x)=(some true,some d,true,true,.fieldAddr t x k,some (.pointer (some ⟨b,q,none⟩))))
  (hk:QQ P t k=some off) (next:WL P C n Q Φ H ((d,.pointer (some ⟨b,q+off,none⟩))::S) ops rest):WL P C n Q Φ H S ops (o::rest):=by
 obtain⟨h1,h⟩:=p2 h;obtain⟨U,h⟩:=p2 h;obtain⟨h3,h⟩:=p2 h;obtain⟨h4,h⟩:=p2 h;obtain⟨h5,h6⟩:=p2 h;exact Qbc h1 U h3 (Q0 h4) h5 h6 hk next
theorem wN {t:TypeId} {x:Operand} {p:Option Addr} {k c e:Nat} (h:(QJ ops S o,o.dst,Nat.blt d n,jV d S,o.op,da S x)=(some true,some d,true,true,.call {callee:=.builtin .len,args:=#[x],argTypes:=#[t]},some (.slice p k c)))
  (ht:fJ P t=some e) (next:WL P C n Q Φ H ((d,.int .i64 (k:Int))::S) ops rest):WL P C n Q Φ H S ops (o::rest):=by
 obtain⟨h1,h⟩:=p2 h;obtain⟨U,h⟩:=p2 h;obtain⟨h3,h⟩:=p2 h;obtain⟨h4,h⟩:=p2 h;obtain⟨h5,h6⟩:=p2 h;exact DQ h1 U h3 (Q0 h4) h5 h6 ht next
theorem wD {t b tb:Nat} {x:Operand} {g:Bool} {all:List Value} {c v:Value} (k j:Nat)(h:(QJ ops S o,o.dst,Nat.blt d n,jV d S,o.op,H[k]?,da S x,all[j]?)=(some true,some d,true,true,.load t x,some (.blk b all tb),some (.pointer (some ⟨b,j,none⟩)),some c))
  (hs:QM P t=some 1) (ha:eW P t=some g) (hv:kd g [c]=some v) (next:WL P C n Q Φ H ((d,v)::S) ops rest):WL P C n Q Φ H S ops (o::rest):=by
 obtain⟨h1,h⟩:=p2 h;obtain⟨U,h⟩:=p2 h;obtain⟨h3,h⟩:=p2 h;obtain⟨h4,h⟩:=p2 h;obtain⟨h5,h⟩:=p2 h;obtain⟨h6,h⟩:=p2 h;obtain⟨h7,h8⟩:=p2 h;refine LF k j h1 U h3 (Q0 h4) h5 h6 h7 (cs:=[c]) ?_ hs ha rfl hv next
 obtain⟨hj,hc⟩:=List.getElem?_eq_some_iff.1 h8;rw[List.drop_eq_getElem_cons hj,hc];rfl
theorem wS {t sz b U:Nat} {x y:Operand} {all cs all':List Value} {v:Value} (k j:Nat)(h:(QJ ops S o,o.dst,o.op,H[k]?,da S x,da S y,v.cells.toList)=(some true,none,.store t x y,some (.blk b all U),some (.pointer (some ⟨b,j,none⟩)),some v,cs))
  (hs:QM P t=some sz) (h':(Nat.beq cs.length sz,cs.all (·.oneCell'),Nat.ble (j+sz) all.length,uG all j cs)=(true,true,true,all')) (hH:H.set k (.blk b all' U)=H') (next:WL P C n Q Φ H' S ops rest):WL P C n Q Φ H S ops (o::rest):=by
 obtain⟨h1,h⟩:=p2 h;obtain⟨h2,h⟩:=p2 h;obtain⟨h3,h⟩:=p2 h;obtain⟨h4,h⟩:=p2 h;obtain⟨h5,h⟩:=p2 h;obtain⟨h6,h7⟩:=p2 h;obtain⟨g1,h'⟩:=p2 h';obtain⟨g2,h'⟩:=p2 h';obtain⟨g3,g4⟩:=p2 h';exact Bt k j h1 h2 h3 h4 h5 h6 h7 hs g1 g2 g3 g4 hH next
theorem wB {t:Nat} {x:Operand} {v:Value} {zs:List Value} (h:(QJ ops S o,o.dst,Nat.blt d n,jV d S,o.op,da S x,v.cells.toList)=(some true,some d,true,true,.box t x,some v,zs))
  (next:∀g,WL P C n Q Φ (.blk g zs t::H) ((d,.pointer (some ⟨g,0,none⟩))::S) ops rest):WL P C n Q Φ H S ops (o::rest):=by
 obtain⟨h1,h⟩:=p2 h;obtain⟨U,h⟩:=p2 h;obtain⟨h3,h⟩:=p2 h;obtain⟨h4,h⟩:=p2 h;obtain⟨h5,h⟩:=p2 h;obtain⟨h6,h7⟩:=p2 h;exact tP h1 U h3 (Q0 h4) h5 h6 h7 next
theorem wC {f:FuncId} {xs:Array Operand} {ts:Array TypeId} {args:List Value} {Φf U:List Fact} {R:Value->List Fact->List Fact->Prop} (l m:List Nat)
  (h:(QJ ops S o,o.dst,Nat.blt d n,jV d S,o.op,vk S xs.toList)=(some true,some d,true,true,.call {callee:=.value (.func f),args:=xs,argTypes:=ts},some args)) (ji:QW P f=true)
  (hH:QK H l=U) (spec:QA P f args Φf U R) (dV:∀F w,(∀ψ∈Φ,ψ.p F w)->∀φ∈Φf,φ.p F w) (hl:fD (l++m) H.length=true) (hm:QK H m=H')
  (next:∀v bo Hr,R v bo Hr->WL P C n Q (bo++Φ) (Hr++H') ((d,v)::S) ops rest):WL P C n Q Φ H S ops (o::rest):=by
 obtain⟨h1,h⟩:=p2 h;obtain⟨h2,h⟩:=p2 h;obtain⟨h3,h⟩:=p2 h;obtain⟨h4,h⟩:=p2 h;obtain⟨h5,h6⟩:=p2 h;exact yy l m h1 h2 h3 (Q0 h4) h5 h6 ji hH spec dV hl hm next
end
section
variable {P:Program} {C:Ctx} {n:FD} {Q:Exit->Act->World->Prop} {ops:Array Oper} {aq L:List Nat} {D:List (Nat×Fact)} {Φ H:List Fact} {S S':List (Nat×Value)}
private theorem p3 {α β:Type} {a U:α} {b b':β} (h:(a,b)=(U,b')):a=U/\b=b':=by cases h;exact⟨rfl,rfl⟩
theorem xP (U:gL ops aq=true)(i:Nat) {o:Oper} {d:Nat} {v:Value} (h:(ops[i]?,o.dst,kL ops aq L i n d o,jV d S,QJ ops S o,z7 S o.op)=(some o,some d,true,true,some true,some v))
  (next:WX P C n Q ops aq (i::L) D Φ H ((d,v)::S)):WX P C n Q ops aq L D Φ H S:=by
 obtain⟨h1,h⟩:=p3 h;obtain⟨h2,h⟩:=p3 h;obtain⟨h3,h⟩:=p3 h;obtain⟨h4,h⟩:=p3 h;obtain⟨h5,h6⟩:=p3 h;exact Fp U i h1 h2 h3 (Q0 h4) h5 h6 next
theorem xO (U:gL ops aq=true)(i:Nat) {o:Oper} {d:Nat} (h:(ops[i]?,o.dst,kL ops aq L i n d o,jV d S,QJ ops S o)=(some o,some d,true,true,some false))
  (next:WX P C n Q ops aq (i::L) D Φ H ((d,undef)::S)):WX P C n Q ops aq L D Φ H S:=by
 obtain⟨h1,h⟩:=p3 h;obtain⟨h2,h⟩:=p3 h;obtain⟨h3,h⟩:=p3 h;obtain⟨h4,h5⟩:=p3 h;exact Ll U i h1 h2 h3 (Q0 h4) h5 next
theorem xS (U:gL ops aq=true)(k:Nat) {o:Oper} (h:(lA ops aq L,gY aq k,(List.range ops.size).all (gY L),ops[k]?)=([k],false,false,some o))
  (h':WL P C n (QX P C n Q ops aq L D Φ k) Φ H S ops [o]):WX P C n Q ops aq L D Φ H S:=by
 obtain⟨h1,h⟩:=p3 h;obtain⟨h2,h⟩:=p3 h;obtain⟨h3,h4⟩:=p3 h;exact Lm U k h1 h2 h3 h4 h'
end
end
section
open Go.RowKit
noncomputable section
inductive SV where
 |v (x:Value)
 |opq (i:Nat)
 |ptr (g off:Nat)
 |sl (g off len cap:Nat) (own:Bool)
 |mp (g:Nat)
 |fn (f:Nat) (fi fp:List SV)
 |agg (l:List SV)
 |tup (l:List SV)
abbrev Env:=Nat->Option (Nat×Nat×Nat)
mutual
def SV.den (ρ:Env)(E:List Value):SV->Option Value
 | .v x=>some x
 | .opq i=>E[i]?
 | .ptr g off=>(ρ g).map λe=>.pointer (some ⟨e.1,e.2.2+off,none⟩)
 | .sl g off len cap own=>(ρ g).map λe=>.slice (some ⟨e.1,e.2.2+off,none⟩) len (if own then e.2.1-cap else cap)
 | .mp g=>(ρ g).map λe=>.map (some e.1)
 | .fn f fi fp=>match SV.dens ρ E fi,SV.dens ρ E fp with
   |some us,some vs=>some (.func (.func f) us.toArray vs.toArray)
   |_,_=>none
 | .agg l=>(SV.dens ρ E l).map λvs=>.agg vs.toArray
 | .tup l=>(SV.dens ρ E l).map λvs=>.tuple vs.toArray
def SV.dens (ρ:Env)(E:List Value):List SV->Option (List Value)
 |[]=>some []
 | x::l=>match SV.den ρ E x,SV.dens ρ E l with
   |some y,some U=>some (y::U)
   |_,_=>none
end
def Env.le (ρ cj:Env):Prop:=∀g e,ρ g=some e->cj g=some e
section den
variable {ρ cj:Env} {E:List Value}
theorem QF {x:SV} {l:List SV} {vs:List Value} (h:SV.dens ρ E (x::l)=some vs):∃v ws,vs=v::ws/\x.den ρ E=some v/\SV.dens ρ E l=some ws:=by
 unfold SV.dens at h;split at h;· rename_i v ws h1 U;cases h;exact⟨v,ws,rfl,h1,U⟩
 · cases h
theorem so {f:Nat} {U fp:List SV} {x:Value} (h:(SV.fn f U fp).den ρ E=some x):∃us vs,SV.dens ρ E U=some us/\SV.dens ρ E fp=some vs/\x=.func (.func f) us.toArray vs.toArray:=by
 unfold SV.den at h;split at h;· rename_i us vs h1 h2;cases h;exact⟨us,vs,h1,h2,rfl⟩
 · cases h
theorem Ja {f:Nat} {U fp:List SV} {us vs:List Value} (h1:SV.dens ρ E U=some us)(h2:SV.dens ρ E fp=some vs):(SV.fn f U fp).den ρ E=some (.func (.func f) us.toArray vs.toArray):=by
 unfold SV.den;rw[h1,h2]
theorem Ce {x:SV} {l:List SV} {v:Value} {ws:List Value} (h1:x.den ρ E=some v)(U:SV.dens ρ E l=some ws):SV.dens ρ E (x::l)=some (v::ws):=by
 unfold SV.dens;rw[h1,U]
mutual
theorem SV.den_mono (h:ρ.le cj):∀(v:SV)(x:Value),v.den ρ E=some x->v.den cj E=some x
 | .v _,_,e=>e
 | .opq _,_,e=>e
 | .ptr g off,x,e=>by
   simp only[SV.den,Option.map_eq_some_iff]at e⊢;obtain⟨a,h1,U⟩:=e;exact⟨a,h _ _ h1,U⟩
 | .sl g off len cap own,x,e=>by
   simp only[SV.den,Option.map_eq_some_iff]at e⊢;obtain⟨a,h1,U⟩:=e;exact⟨a,h _ _ h1,U⟩
 | .mp g,x,e=>by
   simp only[SV.den,Option.map_eq_some_iff]at e⊢;obtain⟨a,h1,U⟩:=e;exact⟨a,h _ _ h1,U⟩
 | .fn f fi fp,x,e=>by
   obtain⟨us,vs,h1,U,rfl⟩:=so e;exact Ja (SV.dens_mono h fi us h1) (SV.dens_mono h fp vs U)
 | .agg l,x,e=>by
   simp only[SV.den,Option.map_eq_some_iff]at e⊢;obtain⟨a,h1,U⟩:=e;exact⟨a,SV.dens_mono h l a h1,U⟩
 | .tup l,x,e=>by
   simp only[SV.den,Option.map_eq_some_iff]at e⊢;obtain⟨a,h1,U⟩:=e;exact⟨a,SV.dens_mono h l a h1,U⟩
theorem SV.dens_mono (h:ρ.le cj):∀(l:List SV)(xs:List Value),SV.dens ρ E l=some xs->SV.dens cj E l=some xs
 |[],_,e=>e
 | x::l,xs,e=>by
   obtain⟨v,ws,rfl,h1,U⟩:=QF e;exact Ce (SV.den_mono h x v h1) (SV.dens_mono h l ws U)
end
theorem yW:∀{l:List SV} {vs:List Value},SV.dens ρ E l=some vs->vs.length=l.length
 |[],vs,h=>by cases h;rfl
 | x::l,vs,h=>by
   obtain⟨v,ws,rfl,h1,U⟩:=QF h;simp[yW U]
theorem zm:∀{l:List SV} {vs:List Value} {i:Nat} {x:SV},SV.dens ρ E l=some vs->l[i]? =some x->∃y,vs[i]? =some y/\x.den ρ E=some y
 |[],_,_,_,_,U=>by simp at U
 | a::l,vs,i,x,h,U=>by
   obtain⟨v,ws,rfl,h1,h2⟩:=QF h;cases i with
   |zero=>simp at U;subst U;exact⟨v,rfl,h1⟩
   |succ i=>simpa using zm h2 (cw U)
theorem OM:∀{l m:List SV} {vs ws:List Value},SV.dens ρ E l=some vs->SV.dens ρ E m=some ws->SV.dens ρ E (l++m)=some (vs++ws)
 |[],m,vs,ws,h,k=>by cases h;exact k
 | x::l,m,vs,ws,h,k=>by
   obtain⟨v,us,rfl,h1,U⟩:=QF h;exact Ce h1 (OM U k)
theorem QbY:∀{l:List SV} {vs:List Value} (k:Nat),SV.dens ρ E l=some vs->SV.dens ρ E (l.take k)=some (vs.take k)
 |[],vs,k,h=>by cases h;simp[SV.dens]
 |x::l,vs,0,h=>by simp[SV.dens]
 | x::l,vs,k+1,h=>by
   obtain⟨v,us,rfl,h1,U⟩:=QF h;simpa using Ce h1 (QbY k U)
theorem QbX:∀{l:List SV} {vs:List Value} (k:Nat),SV.dens ρ E l=some vs->SV.dens ρ E (l.drop k)=some (vs.drop k)
 |[],vs,k,h=>by cases h;simp[SV.dens]
 |x::l,vs,0,h=>by simpa using h
 | x::l,vs,k+1,h=>by
   obtain⟨v,us,rfl,h1,U⟩:=QF h;simpa using QbX k U
theorem xl:∀(l:List Value),SV.dens ρ E (l.map .v)=some l
 |[]=>rfl
 |x::l=>Ce (x:=.v x) rfl (xl l)
theorem zn:∀{l:List SV} {vs:List Value},SV.dens ρ E l=some vs->∀u∈vs,∃x∈l,x.den ρ E=some u
 |[],vs,h,u,hu=>by cases h;cases hu
 | x::l,vs,h,u,hu=>by
   obtain⟨v,ws,rfl,h1,U⟩:=QF h;rcases List.mem_cons.1 hu with rfl|hu;· exact⟨x,ax,h1⟩
   ·obtain⟨y,hy,h3⟩:=zn U u hu;exact⟨y,by simp[hy],h3⟩
def SV.of:Value->SV
 | .agg cs=>.agg (cs.toList.map .v)
 |x=>.v x
theorem SV.of_den (x:Value):(SV.of x).den ρ E=some x:=by
 unfold SV.of;split;· simp[SV.den,xl]
 · rfl
def SV.cells:SV->List SV
 | .agg l=>l
 | .v (.agg cs)=>cs.toList.map .v
 |x=>[x]
theorem SV.cells_den {v:SV} {x:Value} (h:v.den ρ E=some x)(ho:∀i,v≠.opq i):SV.dens ρ E v.cells=some x.cells.toList:=by
 cases v with
 | v y=>
   cases h;unfold SV.cells;split;· rename_i e;cases e
   · rename_i e;cases e;simp[Value.cells,xl]
   ·rename_i h1 U
    have:x.cells=#[x]:=by
     unfold Value.cells;split;· rename_i cs;exact absurd rfl (U cs)
     · rfl
    rw[this];exact Ce rfl rfl
 |opq i=>exact absurd rfl (ho i)
 | agg l=>
   simp only[SV.den,Option.map_eq_some_iff]at h;obtain⟨vs,h1,rfl⟩:=h;simpa[SV.cells,Value.cells]using h1
 | ptr g off=>
   have h':=h;simp only[SV.den,Option.map_eq_some_iff]at h;obtain⟨a,h1,rfl⟩:=h;exact Ce h' rfl
 | sl g off len cap own=>
   have h':=h;simp only[SV.den,Option.map_eq_some_iff]at h;obtain⟨a,h1,rfl⟩:=h;exact Ce h' rfl
 | mp g=>
   have h':=h;simp only[SV.den,Option.map_eq_some_iff]at h;obtain⟨a,h1,rfl⟩:=h;exact Ce h' rfl
 | fn f fi l=>
   have h':=h;obtain⟨us,vs,h1,U,rfl⟩:=so h;exact Ce h' rfl
 | tup l=>
   have h':=h;simp only[SV.den,Option.map_eq_some_iff]at h;obtain⟨a,h1,rfl⟩:=h;exact Ce h' rfl
def SV.isOpq:SV->Bool
 | .opq _=>true
 |_=>false
def SV.one:SV->Bool
 | .v x=>x.oneCell'
 | .ptr _ _=>true
 | .sl _ _ _ _ _=>true
 | .mp _=>true
 | .fn _ _ _=>true
 |_=>false
theorem SV.one_den {v:SV} {x:Value} (h:v.den ρ E=some x)(h1:v.one=true):x.oneCell'=true:=by
 cases v with
 |v y=>cases h;exact h1
 |ptr g off=>simp only[SV.den,Option.map_eq_some_iff]at h;obtain⟨a,_,rfl⟩:=h;rfl
 |sl g off len cap own=>simp only[SV.den,Option.map_eq_some_iff]at h;obtain⟨a,_,rfl⟩:=h;rfl
 |mp g=>simp only[SV.den,Option.map_eq_some_iff]at h;obtain⟨a,_,rfl⟩:=h;rfl
 |fn f U l=>obtain⟨us,vs,_,_,rfl⟩:=so h;rfl
 |_=>cases h1
theorem mT {l:List SV} {vs:List Value} (h:SV.dens ρ E l=some vs)(h1:l.all SV.one=true):∀u∈vs,u.oneCell'=true:=λu hu=>by
 obtain⟨x,hx,U⟩:=zn h u hu;exact SV.one_den U (List.all_eq_true.1 h1 x hx)
end den
inductive Tr where
 |nil
 |node (l:Tr) (x:Option SV) (r:Tr)
noncomputable def Tr.get (t:Tr):Nat->Option SV:=Tr.rec (motive:=λ_=>Nat->Option SV) (λ_=>none) (λ_ x _ U gr k=>Bool.rec (Bool.rec (gr (Nat.sub (Nat.div k 2) 1)) (U (Nat.div k 2)) (Nat.beq (Nat.mod k 2) 1)) x (Nat.beq k 0)) t
noncomputable def Tr.set (v:SV)(f:Nat):Tr->Nat->Tr:=Nat.rec (motive:=λ_=>Tr->Nat->Tr) (λt _=>t) (λ_ U t k=>Tr.rec (motive:=λ_=>Tr)
 (Bool.rec (Bool.rec (.node .nil none (U .nil (Nat.sub (Nat.div k 2) 1))) (.node (U .nil (Nat.div k 2)) none .nil) (Nat.beq (Nat.mod k 2) 1)) (.node .nil (some v) .nil) (Nat.beq k 0))
 (λl x r _ _=>Bool.rec (Bool.rec (.node l x (U r (Nat.sub (Nat.div k 2) 1))) (.node (U l (Nat.div k 2)) x r) (Nat.beq (Nat.mod k 2) 1)) (.node l (some v) r) (Nat.beq k 0)) t) f
theorem Lw {a b:Nat} (h:Nat.beq a b=false):a≠b:=λe=>by rw[e,Nat.beq_refl]at h;cases h
theorem Qn {a b:Nat} (h:Nat.beq a b=true):a=b:=Nat.eq_of_beq_eq_true h
theorem Tr.get_node {l r:Tr} {x:Option SV} {k:Nat}:(Tr.node l x r).get k=if k=0 then x else if k%2=1 then l.get (k/2)else r.get (k/2-1):=by
 show(Bool.rec (motive:=λ_=>Option SV) (Bool.rec (motive:=λ_=>Option SV) (r.get (k/2-1)) (l.get (k/2)) (Nat.beq (k%2) 1)) x (Nat.beq k 0))=_;cases U:Nat.beq k 0 with
 |true=>have:=Qn U;subst this;rfl
 | false=>
   rw[if_neg (Lw U)];cases h1:Nat.beq (k%2) 1 with
   |true=>rw[if_pos (Qn h1)]
   |false=>rw[if_neg (Lw h1)]
theorem Tr.set_node {v:SV} {f:Nat} {l r:Tr} {x:Option SV} {k:Nat}:Tr.set v (f+1) (.node l x r) k=if k=0 then .node l (some v) r else if k%2=1 then .node (Tr.set v f l (k/2)) x r else .node l x (Tr.set v f r (k/2-1)):=by
 show(Bool.rec (motive:=λ_=>Tr) (Bool.rec (motive:=λ_=>Tr) (.node l x (Tr.set v f r (k/2-1))) (.node (Tr.set v f l (k/2)) x r) (Nat.beq (k%2) 1)) (.node l (some v) r) (Nat.beq k 0))=_;cases U:Nat.beq k 0 with
 |true=>have:=Qn U;subst this;rfl
 | false=>
   rw[if_neg (Lw U)];cases h1:Nat.beq (k%2) 1 with
   |true=>rw[if_pos (Qn h1)]
   |false=>rw[if_neg (Lw h1)]
theorem Tr.set_nil {v:SV} {f:Nat} {k:Nat}:Tr.set v (f+1) .nil k=Tr.set v (f+1) (.node .nil none .nil) k:=rfl
theorem Tr.nil_get {k:Nat}:Tr.nil.get k=(Tr.node .nil none .nil).get k:=by
 rw[Tr.get_node];have:∀j,Tr.nil.get j=none:=λ_=>rfl
 simp[this]
theorem Tr.get_set {v:SV}:∀(f:Nat) (t:Tr) (k j:Nat),k+1<2^f->(Tr.set v f t k).get j=if j=k then some v else t.get j
 |0,_,k,_,h=>by simp at h
 | f + 1,t,k,j,h=>by
   have key:∀l x r,(Tr.set v (f+1) (.node l x r) k).get j=if j=k then some v else(Tr.node l x r).get j:=by
    intro l x r;rw[Nat.pow_succ]at h;rw[Tr.set_node];by_cases h0:k=0
    ·subst h0;rw[if_pos rfl,Tr.get_node,Tr.get_node];by_cases U:j=0<;>simp[U]
    ·rw [if_neg h0];by_cases h1:k%2=1
     ·rw [if_pos h1,Tr.get_node,Tr.get_node,Tr.get_set f _ _ _ an];by_cases U:j=0;· rw[if_pos U,if_pos U,if_neg an]
      ·rw [if_neg U,if_neg U];by_cases Nq:j%2=1
       ·rw[if_pos Nq,if_pos Nq];by_cases e:j=k;· subst e;simp
        · rw[if_neg an,if_neg e]
       · rw[if_neg Nq,if_neg Nq,if_neg an]
     ·rw [if_neg h1,Tr.get_node,Tr.get_node,Tr.get_set f _ _ _ an];by_cases U:j=0;· rw[if_pos U,if_pos U,if_neg an]
      ·rw [if_neg U,if_neg U];by_cases Nq:j%2=1;· rw[if_pos Nq,if_pos Nq,if_neg an]
       ·rw[if_neg Nq,if_neg Nq];by_cases e:j=k;· subst e;simp
        · rw[if_neg an,if_neg e]
   cases t with
   |nil=>rw[Tr.set_nil,Tr.nil_get];exact key _ _ _
   |node l x r=>exact key l x r
noncomputable def Tr.put (t:Tr)(k:Nat)(v:SV):Tr:=Tr.set v 14 t k
inductive HO where
 |blk (cs:List SV) (ty:Nat)
 |row (cs:List SV) (n sz ty:Nat)
 |mp (es:List (SV×SV×Nat)) (clock:Nat)
 |it (m:Option Nat) (since:Nat) (seen:List Nat) (jJ:Nat)
 |ro (cs:List SV)
abbrev di:=List (Nat×HO)
theorem xX {w U:World} {e sz b n cap:Nat} {xs:List Value} (h:w.ownsRow 0 e sz (.slice (some ⟨b,0,none⟩) n cap) n xs)(hb:U.heap[b]? =w.heap[b]?):U.ownsRow 0 e sz (.slice (some ⟨b,0,none⟩) n cap) n xs:=by
 refine⟨h.1,?_⟩;rcases h.2 with⟨h0,_⟩|⟨g,c,cur,hv,h1,h2,h3⟩
 · cases h0
 · cases hv;exact .inr ⟨_,_,cur,rfl,h1,hb.trans h2,h3⟩
def y9 (e sz b n cap:Nat)(xs:List Value):Fact:=
 .raw (λN w=>N b/\w.ownsRow 0 e sz (.slice (some ⟨b,0,none⟩) n cap) n xs) (λU ha h=>⟨U _ h.1,xX h.2 (ha _ h.1)⟩)
def ZM (b:Nat)(o:Obj):Fact:=.raw (λN w=>N b/\w.heap[b]? =some o) (λU ha h=>⟨U _ h.1,(ha _ h.1).trans h.2⟩)
def S9 (b:Nat)(vs:List Value):Fact:=.raw (λN w=>N b/\pn w b 0 vs) (λU ha h=>⟨U _ h.1,h.2.agree ha h.1⟩)
def jc (ρ:Env)(E:List Value):List (SV×SV×Nat)->List MapEntry->Prop
 |[],[]=>True
 |(k,v,b)::r,e::s=>k.den ρ E=some e.key/\v.den ρ E=some e.val/\b=e.born/\jc ρ E r s
 |_,_=>False
def IterM (ρ:Env):Option Nat->Option Nat->Prop
 |none,none=>True
 |some g,some b=>∃c,ρ g=some (b,c,0)
 |_,_=>False
def HO.isFact (ρ:Env)(E:List Value)(g:Nat):HO->Fact->Prop
 | .blk cs ty,φ=>∃b c vs,ρ g=some (b,c,0)/\SV.dens ρ E cs=some vs/\φ=.blk b vs ty
 | .row cs n sz ty,φ=>∃b c vs,ρ g=some (b,c,0)/\SV.dens ρ E cs=some vs/\φ=y9 ty sz b n c vs
 | .mp es clock,φ=>∃b c U,ρ g=some (b,c,0)/\jc ρ E es U/\φ=ZM b (.map U.toArray clock)
 | .it m since seen jJ,φ=>∃b c bm,ρ g=some (b,c,0)/\IterM ρ m bm/\φ=ZM b (.mapIter bm since seen.toArray jJ)
 | .ro cs,φ=>∃b c vs,ρ g=some (b,c,0)/\SV.dens ρ E cs=some vs/\φ=S9 b vs
def iD (ρ:Env)(E:List Value):di->List Fact->Prop
 |[],[]=>True
 |(g,o)::r,φ::H=>o.isFact ρ E g φ/\iD ρ E r H
 |_,_=>False
noncomputable def ki (hp:di)(k:Nat):Option HO:=List.rec (motive:=λ_=>Option HO) none (λp _ U=>Bool.rec U (some p.2) (Nat.beq p.1 k)) hp
theorem G5 {g k:Nat} {o:HO} {r:di}:ki ((g,o)::r) k=match Nat.beq g k with
  |true=>some o
  |false=>ki r k:=by
 show(Bool.rec (motive:=λ_=>Option HO) (ki r k) (some o) (Nat.beq g k))=_;cases Nat.beq g k<;>rfl
def xx:di->Nat->HO->di
 |[],_,_=>[]
 | (g,o)::r,k,U=>match Nat.beq g k with
   |true=>(g,U)::r
   |false=>(g,o)::xx r k U
def Gd:di->Nat->Nat->HO->di
 |[],_,_,_=>[]
 | (g,o)::r,k,U,o'=>match Nat.beq g k with
   |true=>(U,o')::r
   |false=>(g,o)::Gd r k U o'
section heap
variable {ρ cj:Env} {E:List Value}
theorem IterM.mono (h:ρ.le cj) {m U:Option Nat} (hm:IterM ρ m U):IterM cj m U:=by
 cases m<;>cases U<;>first|exact hm|(obtain⟨c,hc⟩:=hm;exact⟨c,h _ _ hc⟩)
theorem jc.mono (h:ρ.le cj):∀{l:List (SV×SV×Nat)} {m:List MapEntry},jc ρ E l m->jc cj E l m
 |[],[],_=>trivial
 |(_,_,_)::_,_::_,U=>⟨SV.den_mono h _ _ U.1,SV.den_mono h _ _ U.2.1,U.2.2.1,jc.mono h U.2.2.2⟩
 |[],_::_,U=>U.elim
 |_::_,[],U=>U.elim
theorem HO.isFact_mono (h:ρ.le cj) {g:Nat} {o:HO} {φ:Fact} (hf:o.isFact ρ E g φ):o.isFact cj E g φ:=by
 cases o with
 |blk cs ty=>obtain⟨b,c,vs,h1,U,h3⟩:=hf;exact⟨b,c,vs,h _ _ h1,SV.dens_mono h _ _ U,h3⟩
 |row cs n sz ty=>obtain⟨b,c,vs,h1,U,h3⟩:=hf;exact⟨b,c,vs,h _ _ h1,SV.dens_mono h _ _ U,h3⟩
 |mp es c=>obtain⟨b,c',MW,h1,U,h3⟩:=hf;exact⟨b,c',MW,h _ _ h1,U.mono h,h3⟩
 |it m since seen jJ=>obtain⟨b,c,bm,h1,U,h3⟩:=hf;exact⟨b,c,bm,h _ _ h1,IterM.mono h U,h3⟩
 |ro cs=>obtain⟨b,c,vs,h1,U,h3⟩:=hf;exact⟨b,c,vs,h _ _ h1,SV.dens_mono h _ _ U,h3⟩
theorem iD.mono (h:ρ.le cj):∀{hp:di} {H:List Fact},iD ρ E hp H->iD cj E hp H
 |[],[],_=>trivial
 |(_,_)::_,_::_,U=>⟨HO.isFact_mono h U.1,iD.mono h U.2⟩
 |[],_::_,U=>U.elim
 |_::_,[],U=>U.elim
theorem Mj:∀{hp:di} {H:List Fact} {g:Nat} {o:HO},iD ρ E hp H->ki hp g=some o->
   ∃k φ,H[k]? =some φ/\o.isFact ρ E g φ/\(∀cj o' φ',ρ.le cj->o'.isFact cj E g φ'->iD cj E (xx hp g o') (H.set k φ'))/\(∀cj g' o' φ',ρ.le cj->o'.isFact cj E g' φ'->iD cj E (Gd hp g g' o') (H.set k φ'))
 |[],_,_,_,_,h=>by cases h
 |(g',o')::r,[],_,_,U,_=>U.elim
 | (g',o')::r,φ::H,g,o,U,h=>by
   rw[G5]at h;cases hb:Nat.beq g' g with
   | true=>
     simp only[hb,Option.some.injEq]at h;subst h;have:=Qn hb;subst this;refine⟨0,φ,rfl,U.1,λcj o2 φ2 hle h2=>?_,λcj g2 o2 φ2 hle h2=>?_⟩;· simp only[xx,hb];exact⟨h2,iD.mono hle U.2⟩
     · simp only[Gd,hb];exact⟨h2,iD.mono hle U.2⟩
   | false=>
     simp only[hb]at h;obtain⟨k,ψ,h1,h2,h3,h4⟩:=Mj U.2 h;refine⟨k+1,ψ,by simpa using h1,h2,λcj o2 φ2 hle h5=>?_,λcj g2 o2 φ2 hle h5=>?_⟩;· simp only[xx,hb];exact⟨HO.isFact_mono hle U.1,h3 cj o2 φ2 hle h5⟩
     · simp only[Gd,hb];exact⟨HO.isFact_mono hle U.1,h4 cj g2 o2 φ2 hle h5⟩
def HO.cs:HO->Option (List SV)
 | .blk cs _=>some cs
 | .row cs _ _ _=>some cs
 | .ro cs=>some cs
 |_=>none
theorem uF {w:World} {e sz b n cap:Nat} {xs:List Value} (h:w.ownsRow 0 e sz (.slice (some ⟨b,0,none⟩) n cap) n xs):pn w b 0 xs:=λj u hu=>by
 have:=h.cells (g:=b) rfl j u hu;rw[Cg]at this;exact this
theorem HO.cells_at {o:HO} {g:Nat} {φ:Fact} {cs:List SV} (hf:o.isFact ρ E g φ)(hc:o.cs=some cs):∃b c vs,ρ g=some (b,c,0)/\SV.dens ρ E cs=some vs/\∀N F w,φ.op N F w->pn w b 0 vs:=by
 cases o with
 | blk vf ty=>
   cases hc;obtain⟨b,c,vs,h1,U,rfl⟩:=hf;exact⟨b,c,vs,h1,U,λN F w h=>Xq h.2⟩
 | row vf n sz ty=>
   cases hc;obtain⟨b,c,vs,h1,U,rfl⟩:=hf;exact⟨b,c,vs,h1,U,λN F w h=>uF h.2⟩
 | ro vf=>
   cases hc;obtain⟨b,c,vs,h1,U,rfl⟩:=hf;exact⟨b,c,vs,h1,U,λN F w h=>h.2⟩
 |mp es c=>cases hc
 |it m since seen jJ=>cases hc
def mc (ρ:Env)(lo hi:Nat):Prop:=∀g,lo<=g->g<hi->ρ g=none
structure Ext (ρ cj:Env) (lo hi:Nat):Prop where
 le:ρ.le cj
 out:∀g,ρ g=none->g<lo\/hi<=g->cj g=none
theorem Ext.refl (ρ:Env)(lo hi:Nat):Ext ρ ρ lo hi:=⟨λ_ _ h=>h,λ_ h _=>h⟩
theorem Ext.trans {ρ cj U:Env} {lo dt hi ei:Nat} (h:Ext ρ cj lo hi)(k:Ext cj U dt ei)(hl:lo<=dt)(hh:ei<=hi):Ext ρ U lo hi:=
 ⟨λg e he=>k.le g e (h.le g e he),λg hg ho=>k.out g (h.out g hg ho) an⟩
def Env.put (ρ:Env)(g:Nat)(e:Nat×Nat×Nat):Env:=λk=>if k=g then some e else ρ k
theorem Env.put_ext {ρ:Env} {g hi:Nat} {e:Nat×Nat×Nat} (hg:ρ g=none)(U:g<hi):Ext ρ (ρ.put g e) g hi:=
 ⟨λk x hk=>by unfold Env.put;split<;>simp_all,λk hk ho=>by unfold Env.put;rw[if_neg an];exact hk⟩
theorem Env.put_same {ρ:Env} {g:Nat} {e:Nat×Nat×Nat}:(ρ.put g e) g=some e:=by simp[Env.put]
theorem Env.put_free {ρ:Env} {g hi:Nat} {e:Nat×Nat×Nat} (h:mc ρ g hi):mc (ρ.put g e) (g+1) hi:=λk h1 U=>by unfold Env.put;rw[if_neg an];exact h k an U
end heap
structure Rel (ρ:Env) (E:List Value) (fr:Tr) (hp:di) (S:List (Nat×Value)) (H:List Fact):Prop where
 fr:∀k v,fr.get k=some v->∃x,v.den ρ E=some x/\look S k=some x
 hp:iD ρ E hp H
theorem XA {d k:Nat} (U:k≠d):∀{S:List (Nat×Value)},look (eH d S) k=look S k
 |[]=>rfl
 | (j,v)::r=>by
   unfold eH;split
   ·rename_i hb;have:=Qn hb;subst this;have:Nat.beq j k=false:=by cases h:Nat.beq j k with|false=>rfl|true=>exact absurd (Qn h).symm U
    simp only[look,this];exact XA U
   ·simp only[look];cases Nat.beq j k with
    |true=>rfl
    |false=>exact XA U
theorem Rel.put {ρ cj:Env} {E:List Value} {fr:Tr} {hp dc:di} {S:List (Nat×Value)} {H H':List Fact} (h:Rel ρ E fr hp S H)(hle:ρ.le cj) {d:Nat} {v:SV} {x:Value} (hd:d+1<2^14)(hv:v.den cj E=some x)(hH:iD cj E dc H'):
  Rel cj E (fr.put d v) dc ((d,x)::eH d S) H':=by
 refine⟨λk u hk=>?_,hH⟩;unfold Tr.put at hk;rw[Tr.get_set 14 _ _ _ hd]at hk;split at hk
 ·rename_i e;subst e;cases hk;exact⟨x,hv,by simp[look]⟩
 ·rename_i U;obtain⟨y,h1,h2⟩:=h.fr k u hk;refine⟨y,SV.den_mono hle _ _ h1,?_⟩;have:Nat.beq d k=false:=by cases hb:Nat.beq d k with|false=>rfl|true=>exact absurd (Qn hb).symm U
  simp only[look,this];rw[XA U];exact h2
theorem Rel.mono {ρ cj:Env} {E:List Value} {fr:Tr} {hp U:di} {S:List (Nat×Value)} {H H':List Fact} (h:Rel ρ E fr hp S H)(hle:ρ.le cj)(hH:iD cj E U H'):Rel cj E fr U S H':=
 ⟨λk u hk=>by obtain⟨y,h1,h2⟩:=h.fr k u hk;exact⟨y,SV.den_mono hle _ _ h1,h2⟩,hH⟩
end
end
end Go.Proofs.YtocfkfhdcnjklaaGreatDoor
