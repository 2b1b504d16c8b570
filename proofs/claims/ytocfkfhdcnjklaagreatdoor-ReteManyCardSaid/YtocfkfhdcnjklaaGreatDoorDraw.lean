import Derived.Test.YtocfkfhdcnjklaaGreatDoorBase
import Derived.Maps.Own
import Derived.Maps.OwnSet
import Derived.Maps.Views
import Derived.Deep.DeepAppendRoom
namespace Go.Proofs.YtocfkfhdcnjklaaGreatDoor
section
open Go.RowKit
noncomputable section
def lA (ops:Array Oper)(o:Oper):List Nat:=
 (o.op.operands.toList.filterMap λ| .tmp t=>some t|_=>none)++(match o.guard with|some (j,_)=>((ops[j]?).bind (·.dst)).toList|none=>[])
def CD (ops:Array Oper)(k i:Nat):Bool:=match ops[k]? with
 |some o=>o.after.toList.any λe=>Region.binds .any e&&Nat.beq e.on i
 |none=>false
noncomputable def ia (l:List Nat)(i:Nat):Bool:=List.rec (motive:=λ_=>Bool) false (λx _ U=>Bool.rec U true (Nat.beq i x)) l
theorem Hs {i:Nat}:∀{l:List Nat},ia l i=true↔i∈l
 |[]=>⟨λh=>(by cases h),λh=>(by cases h)⟩
 | x::l=>by
   show(Bool.rec (motive:=λ_=>Bool) (ia l i) true (Nat.beq i x))=true↔_;rw[List.mem_cons,<-Hs (l:=l)];cases h:Nat.beq i x with
   |true=>exact⟨λ_=>.inl (Nat.eq_of_beq_eq_true h),λ_=>rfl⟩
   |false=>exact⟨.inr,λq=>q.resolve_left λe=>by rw[e,Nat.beq_refl]at h;cases h⟩
def gT (ops:Array Oper) (aq:List Nat):Bool:=
 (List.range ops.size).all λi=>match ops[i]? with
  |none=>false
  | some o=>
    (o.after.toList.all λe=>!Region.binds .any e||Nat.blt e.on i)&&
    (match o.op with| .select _ _=>false| .defer _=>false|_=>true)&&
    (!ia aq i||match o.dst with|some d=>!ia (lA ops o) d|none=>false)&&
    (List.range ops.size).all λj=>Nat.beq i j||match ops[j]? with
     |none=>false
     | some U=>match o.dst with
       |none=>true
       | some d=>
         (match U.dst with|some d'=>!Nat.beq d d'|none=>true)&&
         (!ia (lA ops U) d||(if ia aq i then CD ops j i else(!ia aq j||CD ops i j||CD ops j i)))
def lC (ops:Array Oper)(aq L:List Nat):List Nat:=
 (List.range ops.size).filter λi=> !ia L i&&match ops[i]? with
  |some o=>o.after.toList.all λe=>!Region.binds .any e||ia L e.on
  |none=>false
section draw
variable (P:Program) (C:Ctx) (n:FD) (Q:Exit->Act->World->Prop) (ops:Array Oper) (aq:List Nat)
def zb (Φ B:List Fact)(w:World):Prop:=(∃F,∀φ∈Φ,φ.p F w)/\∀b∈B,∃N F,b.op N F w
structure a0w (L:List Nat) (D:List (Nat×Fact)) (Φ:List Fact) (av:Act) (i:Nat):Prop where
 ex:∃(o:Oper) (d:Nat) (v:Value) (HS B:List Fact),ops[i]? =some o/\o.dst=some d/\d<n/\ia aq i=true/\av.tmps[d]? =some v/\(∀e∈o.after,Region.binds .any e=true->e.on∈L)/\
  (∀φ∈HS,φ∈Φ)/\(∀b∈B,(i,b)∈D)/\
  ∀(a:Act) (w:World),(∀t∈lA ops o,a.tmps[t]? =av.tmps[t]?)->zb HS B w->(Region.wanted o (yielded ops a.tmps)=true/\(execOp a.eval o).run P w=.ok (.value v) w)\/(Region.wanted o (yielded ops a.tmps)=false/\v=undef)
structure uB (L:List Nat) (D:List (Nat×Fact)) (Φ H:List Fact) (S:List (Nat×Value)) (listed:Array Bool) (a av:Act) (w:World):Prop where
 frm:fq n S av
 asize:a.tmps.size=n
 adef:a.defers=n.D
 holds:Qj C Φ H w
 lsize:listed.size=ops.size
 sub:∀i,listed.getD i false=true->i∈L
 inL:∀i∈L,i<ops.size
 agree:∀t,(∀i o,i∈L->listed.getD i false=false->ops[i]? =some o->o.dst≠some t)->a.tmps[t]? =av.tmps[t]?
 owed:∀i∈L,listed.getD i false=false->a0w P n ops aq L D Φ av i
 deps:∀x∈D,listed.getD x.1 false=false->x.2∈H
def WX (L:List Nat)(D:List (Nat×Fact))(Φ H:List Fact)(S:List (Nat×Value)):Prop:=
 ∀listed a U w,uB P C n ops aq L D Φ H S listed a U w->∀fuel,(listed.toList.filter (! ·)).length<=fuel->wpAny P .any ops Q fuel listed a w
end draw
theorem XD {ops:Array Oper} {aq:List Nat} (h:gT ops aq=true) {i:Nat} {o:Oper} (ho:ops[i]? =some o):
  (∀e∈o.after,Region.binds .any e=true->e.on<i)/\(∀cs b,o.op≠.select cs b)/\(∀c,o.op≠.defer c)/\(ia aq i=true->∀d,o.dst=some d->d∉lA ops o):=by
 have bq:=(Array.getElem?_eq_some_iff.1 ho).1;have:=List.all_eq_true.1 h i (List.mem_range.2 bq);simp only[ho,Bool.and_eq_true,List.all_eq_true,Bool.or_eq_true,Bool.not_eq_true']at this;obtain⟨⟨⟨h1,h2⟩,U⟩,_⟩:=this;refine⟨λe he hb=>?_,λcs b e=>(by rw[e]at h2;cases h2),λc e=>(by rw[e]at h2;cases h2),λhl d hd hm=>?_⟩;rotate_left
 ·rcases U with U|U;· rw[hl]at U;cases U
  ·rw[hd]at U;simp only[Bool.not_eq_true']at U;rw[Hs.2 hm]at U;cases U
 rcases h1 e (cv he)with h3|h3;· rw[hb]at h3;cases h3
 · exact Nat.le_of_ble_eq_true h3
theorem Q9F {ops:Array Oper} {aq:List Nat} (h:gT ops aq=true) {i j d:Nat} {o o':Oper} (ho:ops[i]? =some o)(xT:ops[j]? =some o')(db:i≠j)(hd:o.dst=some d):
  o'.dst≠some d/\(d∈lA ops o'->(ia aq i=true->CD ops j i=true)/\(ia aq i=false->ia aq j=true->CD ops i j=true\/CD ops j i=true)):=by
 have bq:=(Array.getElem?_eq_some_iff.1 ho).1;have xR:=(Array.getElem?_eq_some_iff.1 xT).1;have h1:=List.all_eq_true.1 h i (List.mem_range.2 bq);simp only[ho,Bool.and_eq_true]at h1;have h2:=List.all_eq_true.1 h1.2 j (List.mem_range.2 xR)
 have hnb:Nat.beq i j=false:=by
  cases hb:Nat.beq i j with
  |true=>exact absurd (Nat.eq_of_beq_eq_true hb) db
  |false=>rfl
 simp only[xT,hd,hnb,Bool.false_or,Bool.and_eq_true,Bool.or_eq_true,Bool.not_eq_true']at h2;obtain⟨h3,U⟩:=h2;refine⟨λe=>?_,λhr=>?_⟩;· rw[e]at h3;simp at h3
 ·rcases U with U|U;· rw[Hs.2 hr]at U;cases U
  ·refine⟨λhl=>by rw[if_pos hl]at U;exact U,λhl hj=>?_⟩;rw[if_neg (by rw[hl];simp)]at U;simp only[Bool.or_eq_true,Bool.not_eq_true']at U;rcases U with(U|U)|U;· rw[hj]at U;cases U
   · exact .inl U
   · exact .inr U
theorem VY {ops:Array Oper} {k i:Nat} {o:Oper} (ho:ops[k]? =some o)(h:CD ops k i=true):∃e∈o.after,Region.binds .any e=true/\e.on=i:=by
 simp only[CD,ho,List.any_eq_true,Bool.and_eq_true]at h;obtain⟨e,he,h1,U⟩:=h;exact⟨e,by simpa using he,h1,Nat.eq_of_beq_eq_true U⟩
theorem sy {ops:Array Oper} {o:Oper} {a b:Act} (h:∀t∈lA ops o,a.tmps[t]? =b.tmps[t]?):∀x∈o.op.operands,a.eval x=b.eval x:=by
 intro x U;cases x with
 | tmp t=>
   have:t∈lA ops o:=List.mem_append_left _ (List.mem_filterMap.2 ⟨.tmp t,by simpa using U,rfl⟩);simp only[Act.eval,Array.getD_eq_getD_getElem?,h t this]
 |const c=>rfl
 |global g=>rfl
 |func f=>rfl
theorem Qb0 {ops:Array Oper} {o:Oper} {a b:Act} (h:∀t∈lA ops o,a.tmps[t]? =b.tmps[t]?):Region.wanted o (yielded ops a.tmps)=Region.wanted o (yielded ops b.tmps):=by
 unfold Region.wanted;rcases hg:o.guard with _|⟨j,want⟩
 · rfl
 ·simp only[yielded];rcases U:(ops[j]?).bind (·.dst)with _|d;· rfl
  ·have:d∈lA ops o:=by
    refine List.mem_append_right _ ?_;simp[hg,U]
   simp only[Option.bind_some,h d this]
section count
theorem CU:∀(l:List Bool)(i:Nat)(h:i<l.length),l[i]=false->((l.set i true).filter (! ·)).length+1=(l.filter (! ·)).length:=by
 intro l;induction l with
 |nil=>intro i h;simp at h
 | cons b l ih=>
   intro i h U;cases i with
   |zero=>simp at U;subst U;simp
   | succ i=>
     have:=ih i (cv h) (cv U);cases b<;>simp[List.filter_cons]<;>omega
theorem mu {listed:Array Bool} {i:Nat} (hi:i<listed.size)(h:listed.getD i false=false):((listed.setIfInBounds i true).toList.filter (! ·)).length+1=(listed.toList.filter (! ·)).length:=by
 have U:listed[i]=false:=by simpa[hi]using h
 have:=CU listed.toList i (cv hi) (cv U);simpa using this
theorem LS {listed:Array Bool} {i j:Nat} (hi:i<listed.size):(listed.setIfInBounds i true).getD j false=if j=i then true else listed.getD j false:=by
 by_cases h:j=i;· subst h;simp[hi]
 ·rw[if_neg h];simp[Array.getD_eq_getD_getElem?,Array.getElem?_setIfInBounds_ne (Ne.symm h)]
end count
section core
variable {P:Program} {C:Ctx} {n:FD} {Q:Exit->Act->World->Prop} {ops:Array Oper} {aq L:List Nat} {D:List (Nat×Fact)} {Φ H:List Fact} {S:List (Nat×Value)}
theorem tz (cn:gT ops aq=true) {listed:Array Bool} (hs:listed.size=ops.size)(h:Region.ready .any ops listed=[]):∀i,i<ops.size->listed.getD i false=true:=by
 intro i;induction i using Nat.strongRecOn with
 | _ i ih=>
   intro hi;cases hb:listed.getD i false with
   |true=>rfl
   | false=>
     have U:ops[i]? =some ops[i]:=Array.getElem?_eq_getElem hi
     have hm:i∈Region.ready .any ops listed:=mem_ready.2 ⟨by simpa[hs,hi]using hb,_,U,λe he TM=>by
      have:=(XD cn U).1 e he TM;exact ih e.on this (Nat.lt_trans this hi)⟩
     rw[h]at hm;cases hm
theorem GR (cn:gT ops aq=true) {listed:Array Bool} {a av:Act} {w:World} (U:uB P C n ops aq L D Φ H S listed a av w) {i:Nat} (hi:i∈L)(hu:listed.getD i false=false) {o:Oper} (ho:ops[i]? =some o)
  (fy:∀e∈o.after,Region.binds .any e=true->listed.getD e.on false=true) {K:Act->World->Prop} (hK:∀a',uB P C n ops aq L D Φ H S (listed.setIfInBounds i true) a' av w->K a' w):wpOp P ops Q i K a w:=by
 obtain⟨o',d,v,HS,B,xT,hd,kp,bq,hv,A6,ec,hB,Df⟩:=(U.owed i hi hu).ex;rw[ho]at xT;cases xT;have yY:i<listed.size:=by rw[U.lsize];exact U.inL i hi
 have GD:∀t∈lA ops o,a.tmps[t]? =av.tmps[t]?:=λt ht=>U.agree t λj oj hj mL sX vA=>by
  by_cases Ce:j=i
  ·subst Ce;rw[ho]at sX;cases sX;exact(XD cn ho).2.2.2 bq t vA ht
  ·obtain⟨_,_,_,_,_,_,_,_,Ml,_⟩:=(U.owed j hj mL).ex;have:=((Q9F cn sX ho Ce vA).2 ht).1 Ml;obtain⟨e,he,hb,rfl⟩:=VY ho this;rw[fy e he hb]at mL;cases mL
 have xK:zb HS B w:=by
  obtain⟨F,N,hm⟩:=U.holds;refine⟨⟨F,λφ bj=>hm.facts φ (ec φ bj)⟩,λb hb=>?_⟩;have:=U.deps _ (hB b hb) hu;obtain⟨k,hk⟩:=List.getElem?_of_mem this;exact⟨N k,F,hm.owns k b hk⟩
 have GB:uB P C n ops aq L D Φ H S (listed.setIfInBounds i true) (a.put (some d) v) av w:=by
  refine⟨U.frm,by simp[Act.put,U.asize],U.adef,U.holds,by simpa using U.lsize,λj hj=>?_,U.inL,λt ht=>?_,λj hj mL=>?_,λx hx HM=>?_⟩
  ·rw[LS yY]at hj;split at hj;· rename_i e;rw[e];exact hi
   · exact U.sub j hj
  ·by_cases Mm:t=d
   ·subst Mm;simp only[Act.put];rw[Array.getElem?_setIfInBounds_self];simp[U.asize,kp,hv]
   ·simp only[Act.put];rw[Array.getElem?_setIfInBounds_ne (Ne.symm Mm)];refine U.agree t λj oj hj mL sX vA=>?_
    by_cases Ce:j=i;· subst Ce;rw[ho]at sX;cases sX;rw[hd]at vA;cases vA;exact Mm rfl
    · exact ht j oj hj (by rw[LS yY,if_neg Ce];exact mL) sX vA
  ·rw[LS yY]at mL;split at mL;· cases mL
   · exact U.owed j hj mL
  ·rw[LS yY]at HM;split at HM;· cases HM
   · exact U.deps x hx HM
 unfold wpOp;simp only[ho];rcases Df a w GD xK with⟨h1,h2⟩|⟨h1,h2⟩
 ·rw[if_pos h1];left;unfold Oper.wp;rw[h2,Oper.upon_value,hd];exact hK _ GB
 ·rw[if_neg (by rw[h1];simp),hd,<-h2];exact hK _ GB
theorem FN (cn:gT ops aq=true)
   (fe:∀i o listed a av w,ops[i]? =some o->i∉L->(∀e∈o.after,Region.binds .any e=true->listed.getD e.on false=true)->uB P C n ops aq L D Φ H S listed a av w->
    wpOp P ops Q i (λa' w'=>∀fuel,((listed.setIfInBounds i true).toList.filter (! ·)).length<=fuel->wpAny P .any ops Q fuel (listed.setIfInBounds i true) a' w') a w)
   (PL:(∀i,i<ops.size->i∈L)->WE C n Q Φ H S .normal):WX P C n Q ops aq L D Φ H S:=by
 intro listed a av w U fuel;induction fuel generalizing listed a with
 | zero=>
   intro hf
   have ef:Region.ready .any ops listed=[]:=by
    refine List.eq_nil_iff_forall_not_mem.2 λi hi=>?_;have h1:=(mem_ready.1 hi).1;obtain⟨o,ho,_⟩:=(mem_ready.1 hi).2;have bq:i<listed.size:=by rw[U.lsize];exact(Array.getElem?_eq_some_iff.1 ho).1
    have:=mu bq (by simpa[bq]using h1);omega
   refine⟨ef,?_⟩;have hl:=tz cn U.lsize ef
   have ha:a.tmps=av.tmps:=by
    apply Array.ext_getElem?;intro t;exact U.agree t λi o hi hu _=>by rw[hl i (U.inL i hi)]at hu;cases hu
   have:a=av:=by
    rcases a with⟨at_,ad⟩;rcases av with⟨bt,bd⟩;have h1:=U.adef;have h2:=U.frm.defers;simp only at ha h1 h2;rw[ha,h1,h2]
   rw[this];exact PL (λi hi=>U.sub i (hl i hi)) av w U.frm U.holds
 | succ fuel ih=>
   intro hf;refine⟨λef=>?_,λi hi=>?_⟩
   ·have hl:=tz cn U.lsize ef
    have ha:a.tmps=av.tmps:=by
     apply Array.ext_getElem?;intro t;exact U.agree t λi o hi hu _=>by rw[hl i (U.inL i hi)]at hu;cases hu
    have:a=av:=by
     rcases a with⟨at_,ad⟩;rcases av with⟨bt,bd⟩;have h1:=U.adef;have h2:=U.frm.defers;simp only at ha h1 h2;rw[ha,h1,h2]
    rw[this];exact PL (λi hi=>U.sub i (hl i hi)) av w U.frm U.holds
   ·obtain⟨h1,o,ho,fy⟩:=mem_ready.1 hi;have bq:i<listed.size:=by rw[U.lsize];exact(Array.getElem?_eq_some_iff.1 ho).1
    have hu:listed.getD i false=false:=by simpa[bq]using h1
    have a0L:=mu bq hu;by_cases hL:i∈L;· exact GR cn U hL hu ho fy λa' cy=>ih _ a' cy an
    · exact wpOp_mono (λa' w' h=>h fuel an) (fe i o listed a av w ho hL fy U)
def QX (P:Program)(C:Ctx)(n:FD)(Q:Exit->Act->World->Prop)(ops:Array Oper)(aq L:List Nat)(D:List (Nat×Fact))(Φ:List Fact)(k:Nat):Exit->Act->World->Prop
 | .normal,a,w=>∃Φ' H' S',fq n S' a/\Qj C Φ' H' w/\(∀φ∈Φ,φ∈Φ')/\(∀x∈D,CD ops k x.1=false->x.2∈H')/\WX P C n Q ops aq (k::L) D Φ' H' S'
 |_,_,_=>False
def vJ (ops:Array Oper)(k:Nat):List (Nat×Fact)->List Fact
 |[]=>[]
 | (i,b)::r=>match CD ops k i with
   |true=>vJ ops k r
   |false=>b::vJ ops k r
theorem oL {k:Nat}:∀{D:List (Nat×Fact)} {x:Nat×Fact},x∈D->CD ops k x.1=false->x.2∈vJ ops k D
 | (i,b)::r,x,U,hp=>by
   unfold vJ;rcases List.mem_cons.1 U with rfl|U;· simp only at hp;rw[hp];simp
   ·split;· exact oL U hp
    · exact List.mem_cons_of_mem _ (oL U hp)
theorem fD {k:Nat} {Φ' H':List Fact} {S':List (Nat×Value)} (l m:List Nat)(ec:QO Φ' l=Φ)(hD:QO H' m=vJ ops k D)(next:WX P C n Q ops aq (k::L) D Φ' H' S'):WE C n (QX P C n Q ops aq L D Φ k) Φ' H' S' .normal:=by
 intro a w hf hw;refine⟨Φ',H',S',hf,hw,λφ U=>?_,λx hx hp=>?_,next⟩
 ·rw[<-ec]at U;obtain⟨i,_,hi⟩:=List.mem_filterMap.1 U;exact List.mem_of_getElem? hi
 ·have:=oL hx hp;rw[<-hD]at this;obtain⟨i,_,hi⟩:=List.mem_filterMap.1 this;exact List.mem_of_getElem? hi
theorem Oper.wp_put {o:Oper} {a b:Act} {w:World} {K K':Act->World->Prop} {Q' Q'':Exit->Act->World->Prop} (hs:∀cs b,o.op≠.select cs b)(HJ:∀x∈o.op.operands,a.eval x=b.eval x)
   (a0M:∀d v U,¬K ({b with defers:=d::b.defers}.put o.dst v) U) (hK:∀v U,K (b.put o.dst v) U->K' (a.put o.dst v) U) (Dl:∀e b U,e≠.normal->¬Q' e b U) (h:o.wp P b w K Q'):o.wp P a w K' Q'':=by
 unfold Oper.wp at*;rw[execOp_congr o hs HJ];generalize (execOp b.eval o).run P w=r at*;cases r with
 | ok nx U=>
   cases nx<;>simp only[Oper.upon]at h⊢
   all_goals first
    |exact hK _ _ h
    |exact h
    |exact absurd h (a0M _ _ _)
    |exact Calls.mono h (λe w'' he=>by
     cases e with
     |returned v=>exact hK _ _ he
     |panicked ch=>exact absurd he (Dl _ _ _ ax)
     |outgrown=>obtain⟨_,_,he⟩:=he;exact absurd he (Dl _ _ _ ax))
    |exact Rows.mono h (λ_ _ he=>hK _ _ he)
 |halt x U=>cases x<;>simp only[Oper.upon]at h⊢<;>first|exact h|exact absurd h (Dl _ _ _ ax)
theorem Act.put_defers {a:Act} {dst:Option Nat} {v:Value}:(a.put dst v).defers=a.defers:=by cases dst<;>rfl
theorem Act.put_size {a:Act} {dst:Option Nat} {v:Value}:(a.put dst v).tmps.size=a.tmps.size:=by cases dst<;>simp[Act.put]
theorem met (cn:gT ops aq=true) {k:Nat} {o:Oper} (ho:ops[k]? =some o)(hk:k∉L)(U3:ia aq k=false)(h:WL P C n (QX P C n Q ops aq L D Φ k) Φ H S ops [o])
  {listed:Array Bool} {a av:Act} {w:World} (fy:∀e∈o.after,Region.binds .any e=true->listed.getD e.on false=true) (U:uB P C n ops aq L D Φ H S listed a av w):
  wpOp P ops Q k (λa' w'=>∀fuel,((listed.setIfInBounds k true).toList.filter (! ·)).length<=fuel->wpAny P .any ops Q fuel (listed.setIfInBounds k true) a' w') a w:=by
 have jL:k<listed.size:=by rw[U.lsize];exact(Array.getElem?_eq_some_iff.1 ho).1
 have hku:listed.getD k false=false:=by
  cases hb:listed.getD k false with
  |false=>rfl
  |true=>exact absurd (U.sub k hb) hk
 have GD:∀t∈lA ops o,a.tmps[t]? =av.tmps[t]?:=λt ht=>U.agree t λj oj hj mL sX vA=>by
  have Ce:j≠k:=λe=>hk (e▸hj);obtain⟨_,_,_,_,_,_,_,_,Ml,_⟩:=(U.owed j hj mL).ex;have:=((Q9F cn sX ho Ce vA).2 ht).1 Ml;obtain⟨e,he,hb,rfl⟩:=VY ho this;rw[fy e he hb]at mL;cases mL
 have key:∀v w',(∃Φ' H' S',fq n S' (av.put o.dst v)/\Qj C Φ' H' w'/\(∀φ∈Φ,φ∈Φ')/\(∀x∈D,CD ops k x.1=false->x.2∈H')/\WX P C n Q ops aq (k::L) D Φ' H' S')->
   ∀fuel,((listed.setIfInBounds k true).toList.filter (! ·)).length<=fuel->wpAny P .any ops Q fuel (listed.setIfInBounds k true) (a.put o.dst v) w':=by
  rintro v w' ⟨Φ',H',S',hf',iO,K5,hD',hx⟩;refine hx _ _ (av.put o.dst v) w' ⟨hf',by rw[Act.put_size];exact U.asize,by rw[Act.put_defers];exact U.adef,iO,by simpa using U.lsize,λj hj=>?_,λj hj=>?_,λt ht=>?_,λj hj mL=>?_,λx lY HM=>?_⟩
  ·rw[LS jL]at hj;split at hj;· rename_i e;rw[e];simp
   · exact List.mem_cons_of_mem _ (U.sub j hj)
  ·rcases List.mem_cons.1 hj with rfl|hj;· rw[<-U.lsize];exact jL
   · exact U.inL j hj
  ·have fa:a.tmps[t]? =av.tmps[t]? \/o.dst=some t:=by
     by_cases hd:o.dst=some t;· exact .inr hd
     · refine .inl (U.agree t λj oj hj mL sX vA=>ht j oj (List.mem_cons_of_mem _ hj) ?_ sX vA);rw[LS jL,if_neg (λ(e:j=k)=>hk (e▸hj))];exact mL
   cases hd:o.dst with
   | none=>
     rcases fa with h0|h0;· exact h0
     · rw[hd]at h0;cases h0
   | some d=>
     simp only[Act.put];by_cases Mm:t=d
     · subst Mm;have h1:=U.asize;have h2:=U.frm.size;by_cases bq:t<n;· rw[Array.getElem?_setIfInBounds_self,Array.getElem?_setIfInBounds_self];simp[h1,h2,bq]
       · simp[Array.getElem?_eq_none,h1,h2,Nat.not_lt.1 bq]
     · rw[Array.getElem?_setIfInBounds_ne (Ne.symm Mm),Array.getElem?_setIfInBounds_ne (Ne.symm Mm)];rcases fa with h0|h0;· exact h0
       · rw[hd]at h0;cases h0;exact absurd rfl Mm
  ·have A7:j≠k:=λe=>by subst e;rw[LS jL,if_pos rfl]at mL;cases mL
   rw[LS jL,if_neg A7]at mL;have hjL:j∈L:=(List.mem_cons.1 hj).resolve_left A7;obtain⟨oj,d,vj,HS,B,sX,vA,kp,Ml,Zz,A6,K6,hB,Df⟩:=(U.owed j hjL mL).ex
   have U4:∀t,(o.dst=some t->t≠d/\t∉lA ops oj):=by
     intro t ht;obtain⟨p1,p2⟩:=Q9F cn ho sX (Ne.symm A7) ht;refine⟨λe=>p1 (by rw[e];exact vA),λhm=>?_⟩;rcases(p2 hm).2 U3 Ml with h0|h0
     · obtain⟨e,he,hb,rfl⟩:=VY ho h0;rw[fy e he hb]at mL;cases mL
     · obtain⟨e,he,hb,rfl⟩:=VY sX h0;exact hk (A6 e he hb)
   have iB:∀t,(t=d\/t∈lA ops oj)->(av.put o.dst v).tmps[t]? =av.tmps[t]?:=by
     intro t ht;cases hd:o.dst with
     |none=>rfl
     | some d'=>
       obtain⟨q1,q2⟩:=U4 d' hd;simp only[Act.put];rw[Array.getElem?_setIfInBounds_ne];rintro rfl;rcases ht with ht|ht;· exact q1 ht
       · exact q2 ht
   exact ⟨oj,d,vj,HS,B,sX,vA,kp,Ml,(iB d (.inl rfl)).trans Zz,λe he hb=>List.mem_cons_of_mem _ (A6 e he hb),λφ bj=>K5 φ (K6 φ bj),hB,
     λa' w'' Db xK=>Df a' w'' (λt ht=>(Db t ht).trans (iB t (.inr ht))) xK⟩
  ·have db:x.1≠k:=λe=>by rw[LS jL,if_pos e]at HM;cases HM
   rw[LS jL,if_neg db]at HM;refine hD' x lY ?_;cases hb:CD ops k x.1 with
   |false=>rfl
   | true=>
     obtain⟨e,he,kG,heq⟩:=VY ho hb;rw[<-heq,fy e he kG]at HM;cases HM
 unfold wpOp;simp only[ho];have PY:=h av w U.frm U.holds;unfold wpList at PY;rw[Qb0 GD];have PJ:∀v w',wpList P ops (QX P C n Q ops aq L D Φ k) [] (av.put o.dst v) w'->∀fuel,((listed.setIfInBounds k true).toList.filter (! ·)).length<=fuel->wpAny P .any ops Q fuel (listed.setIfInBounds k true) (a.put o.dst v) w':=λv w' h=>key v w' h
 split
 ·rename_i ta;rw[if_pos ta]at PY;left;rcases PY with PY|⟨_,_,_,hf⟩
  ·refine Oper.wp_put (XD cn ho).2.1 (sy GD) (λd v w' hh=>?_) PJ (λe b w' db hq=>?_) PY
   · obtain⟨Φ',H',S',hf',_⟩:=(hh:QX P C n Q ops aq L D Φ k .normal _ _)
     have h3:=congrArg List.length (hf'.defers);rw[Act.put_defers,<-U.frm.defers]at h3;simp at h3
   · cases e<;>first|exact db rfl|exact hq
  · exact hf.elim
 ·rename_i ta;rw[if_neg ta]at PY;exact PJ _ _ PY
theorem QD (U:gT ops aq=true)(ef:(List.range ops.size).all (ia L)=true)(h:WE C n Q Φ H S .normal):WX P C n Q ops aq L D Φ H S:=
 FN U (λi o listed a av w ho hi _ _=>absurd (Hs.1 (List.all_eq_true.1 ef i (List.mem_range.2 (Array.getElem?_eq_some_iff.1 ho).1))) hi) (λ_=>h)
theorem yK (cn:gT ops aq=true)(l:List Nat)(hl:lC ops aq L=l)(U3:l.all (λk=> !ia aq k)=true)(db:(List.range ops.size).all (ia L)=false)
  (h:∀k∈l,∀o,ops[k]? =some o->WL P C n (QX P C n Q ops aq L D Φ k) Φ H S ops [o]):WX P C n Q ops aq L D Φ H S:=
 FN cn (λi o listed a av w U hi fy hr=>by
  have hm:i∈l:=by
   rw[<-hl];refine List.mem_filter.2 ⟨List.mem_range.2 (Array.getElem?_eq_some_iff.1 U).1,?_⟩
   have h1:ia L i=false:=by
    cases hb:ia L i with
    |false=>rfl
    |true=>exact absurd (Hs.1 hb) hi
   simp only[h1,U,Bool.not_false,Bool.true_and,List.all_eq_true,Bool.or_eq_true,Bool.not_eq_true'];intro e he;cases hb:Region.binds .any e with
   |false=>exact .inl rfl
   |true=>exact .inr (Hs.2 (hr.sub _ (fy e (cv he) hb)))
  have hn:ia aq i=false:=by
   have:=List.all_eq_true.1 U3 i hm;simpa using this
  exact met cn U hi hn (h i hm o U) fy hr) (λef=>by
  have:(List.range ops.size).all (ia L)=true:=List.all_eq_true.2 λi hi=>Hs.2 (ef i (List.mem_range.1 hi));rw[this]at db;cases db)
theorem LC (cn:gT ops aq=true)(k:Nat) {o:Oper} (hl:lC ops aq L=[k])(U3:ia aq k=false)(db:(List.range ops.size).all (ia L)=false)(ho:ops[k]? =some o)
  (h:WL P C n (QX P C n Q ops aq L D Φ k) Φ H S ops [o]):WX P C n Q ops aq L D Φ H S:=
 yK cn [k] hl (by simp[U3]) db λk' U o' xT=>by
  simp only[List.mem_singleton]at U;subst U;rw[ho]at xT;cases xT;exact h
theorem FY (cn:gT ops aq=true)(k j:Nat) {o p:Oper} (hl:lC ops aq L=[k,j])(U3:ia aq k=false)(a14:ia aq j=false)(db:(List.range ops.size).all (ia L)=false)(ho:ops[k]? =some o)(hp:ops[j]? =some p)
  (h:WL P C n (QX P C n Q ops aq L D Φ k) Φ H S ops [o]) (h':WL P C n (QX P C n Q ops aq L D Φ j) Φ H S ops [p]):WX P C n Q ops aq L D Φ H S:=
 yK cn [k,j] hl (by simp[U3,a14]) db λk' dy o' U=>by
  simp only[List.mem_cons,List.not_mem_nil,or_false]at dy;rcases dy with rfl|rfl;· rw[ho]at U;cases U;exact h
  · rw[hp]at U;cases U;exact h'
theorem BI {S':List (Nat×Value)} (cn:gT ops aq=true)(i:Nat) {o:Oper} {d:Nat} {v:Value} (B:List Fact)(m:List Nat)(hi:ops[i]? =some o)(hli:ia aq i=true)(hL:ia L i=false)(fy:(o.after.toList.all λe=> !Region.binds .any e||ia L e.on)=true)
  (hd:o.dst=some d) (kp:Nat.blt d n=true) (hS:eL d S=S') (hB:QO H m=B)
  (det:(QI ops S o=some true/\∀a w,fq n S a->zb Φ B w->(execOp a.eval o).run P w=.ok (.value v) w)\/(QI ops S o=some false/\v=undef))
  (next:WX P C n Q ops aq (i::L) (B.map (λb=>(i,b))++D) Φ H ((d,v)::S')):WX P C n Q ops aq L D Φ H S:=by
 intro listed a av w hr;have hiL:i∉L:=λh=>by rw[Hs.2 h]at hL;cases hL
 have hio:i<ops.size:=(Array.getElem?_eq_some_iff.1 hi).1;have TP:d<n:=Nat.le_of_ble_eq_true kp
 have A6:∀e∈o.after,Region.binds .any e=true->e.on∈L:=λe he U=>by
  have:=List.all_eq_true.1 fy e (cv he);simp only[U,Bool.not_true,Bool.false_or]at this;exact Hs.1 this
 have iB:∀t,t≠d->(av.put (some d) v).tmps[t]? =av.tmps[t]?:=λt ht=>by
  simp only[Act.put];rw[Array.getElem?_setIfInBounds_ne (Ne.symm ht)]
 have hB':∀b∈B,b∈H:=λb U=>by
  rw[<-hB]at U;obtain⟨q,_,hq⟩:=List.mem_filterMap.1 U;exact List.mem_of_getElem? hq
 refine next listed a (av.put (some d) v) w ⟨hr.frm.put TP hS,hr.asize,hr.adef,hr.holds,hr.lsize,λj hj=>List.mem_cons_of_mem _ (hr.sub j hj),λj hj=>?_,λt ht=>?_,λj hj mL=>?_,λx hx HM=>?_⟩
 ·rcases List.mem_cons.1 hj with rfl|hj;· exact hio
  · exact hr.inL j hj
 ·have Mm:t≠d:=λe=>by
   subst e
   have hu:listed.getD i false=false:=by
    cases U:listed.getD i false with
    |false=>rfl
    |true=>exact absurd (hr.sub i U) hiL
   exact ht i o ax hu hi hd
  rw[iB t Mm];exact hr.agree t λj oj hj mL sX vA=>ht j oj (List.mem_cons_of_mem _ hj) mL sX vA
 ·rcases List.mem_cons.1 hj with rfl|hj
  ·refine ⟨o,d,v,Φ,B,hi,hd,TP,hli,?_,λe he U=>List.mem_cons_of_mem _ (A6 e he U),λ_ h=>h,λb U=>List.mem_append_left _ (List.mem_map.2 ⟨b,U,rfl⟩),λa' w' Db xK=>?_⟩;· simp[Act.put,hr.frm.size,TP]
   ·have GD:∀t∈lA ops o,a'.tmps[t]? =av.tmps[t]?:=λt ht=>(Db t ht).trans (iB t λe=>by
     subst e;exact(XD cn hi).2.2.2 hli t hd ht)
    rcases det with⟨h1,h2⟩|⟨h1,h2⟩
    ·left;rw[Qb0 GD];refine⟨Hn hr.frm h1,?_⟩;rw[execOp_congr o (XD cn hi).2.1 (sy GD)];exact h2 av w' hr.frm xK
    ·right;rw[Qb0 GD];exact⟨Hn hr.frm h1,h2⟩
  ·obtain⟨oj,dj,vj,HS,Bj,sX,vA,TQ,Ml,Zz,uI,K6,hBj,Df⟩:=(hr.owed j hj mL).ex;have Ce:i≠j:=λe=>hiL (e▸hj);obtain⟨p1,p2⟩:=Q9F cn hi sX Ce hd;have hdd:dj≠d:=λe=>p1 (by rw[<-e];exact vA);refine⟨oj,dj,vj,HS,Bj,sX,vA,TQ,Ml,(iB dj hdd).trans Zz,λe he U=>List.mem_cons_of_mem _ (uI e he U),K6,λb U=>List.mem_append_right _ (hBj b U),λa' w' Db xK=>?_⟩;refine Df a' w' (λt ht=>(Db t ht).trans (iB t λe=>?_)) xK;subst e;obtain⟨e,he,U,heq⟩:=VY sX ((p2 ht).1 hli);exact hiL (heq▸uI e he U)
 ·rcases List.mem_append.1 hx with hx|hx
  ·obtain⟨b,U,rfl⟩:=List.mem_map.1 hx;exact hB' b U
  · exact hr.deps x hx HM
theorem uB.more {listed:Array Bool} {a av:Act} {w:World} {Φ':List Fact} (U:uB P C n ops aq L D Φ H S listed a av w)(gK:∀φ∈Φ,φ∈Φ')(hw:Qj C Φ' H w):uB P C n ops aq L D Φ' H S listed a av w:=
 ⟨U.frm,U.asize,U.adef,hw,U.lsize,U.sub,U.inL,U.agree,λj hj mL=>by
  obtain⟨oj,dj,vj,HS,Bj,sX,vA,TQ,Ml,Zz,uI,K6,hBj,Df⟩:=(U.owed j hj mL).ex;exact⟨oj,dj,vj,HS,Bj,sX,vA,TQ,Ml,Zz,uI,λφ bj=>gK φ (K6 φ bj),hBj,Df⟩,U.deps⟩
theorem FO {Λ:Type} {pure:Λ->Prop} {facts:Λ->List Fact} (jc:∀F w,(∀ψ∈Φ,ψ.p F w)->∃r:Λ,pure r/\∀φ∈facts r,φ.p F w)(next:∀r,pure r->WX P C n Q ops aq L D (facts r++Φ) H S):WX P C n Q ops aq L D Φ H S:=λlisted a av w U=>by
 obtain⟨r,h1,h2⟩:=vR U.holds λF=>jc F w;exact next r h1 listed a av w (U.more (λφ bj=>List.mem_append_right _ bj) h2)
theorem Wd {d:Nat} {t:Bool} {S':List (Nat×Value)} (hx:look S d=some (.bool t))(hS:eL d S=S')(ht:t=true->WX P C n Q ops aq L D Φ H ((d,.bool true)::S'))(hf:t=false->WX P C n Q ops aq L D Φ H ((d,.bool false)::S')):WX P C n Q ops aq L D Φ H S:=by
 subst hS;intro listed a U w hr
 have h1:∀b,t=b->fq n ((d,.bool b)::eL d S) U:=λb hb=>hr.frm.sub λx lY=>by
  rcases List.mem_cons.1 lY with rfl|lY;· rw[<-hb];exact LU hx
  · exact(Pc lY).1
 have h2:∀Sh,fq n Sh U->uB P C n ops aq L D Φ H Sh listed a U w:=λSh hf=>{hr with frm:=hf}
 cases t;· exact hf rfl listed a U w (h2 _ (h1 _ rfl))
 · exact ht rfl listed a U w (h2 _ (h1 _ rfl))
theorem Qj.drew' {w U:World} (h:Qj C Φ H w)(hb:Below w.heap.size w U):Qj C Φ H U:=by
 obtain⟨F,N,hi⟩:=h;exact⟨F,N,hi.grow hb⟩
theorem QJ {id:Nat} {l:List Oper} (aq:List Nat)(hm:P.follows .mixedOrders=true)(cn:gT l.toArray aq=true)(h':gT l.toArray aq=true->WX P C n Q l.toArray aq [] [] Φ H S):WC P C n Q Φ H S (.region id l.toArray true):=by
 intro a w U hw;have h:=h' cn;refine wp_region_any hm (h (Array.replicate l.toArray.size false) a a {w with drawn:=w.drawn+1} ⟨U,U.size,U.defers,hw.drew' ⟨rfl,rfl,rfl,Nat.le_refl _,λ_ _=>rfl⟩,ax,λi hi=>?_,ax,λt _=>rfl,ax,ax⟩ _ ?_)
 ·have:(Array.replicate l.toArray.size false).getD i false=false:=by
   simp only[Array.getD_eq_getD_getElem?,Array.getElem?_replicate];split<;>rfl
  rw[this]at hi;cases hi
 ·have:∀m:Nat,((List.replicate m false).filter (! ·)).length<=m:=λm=>ax
  simp
end core
end
end
section
open Go.RowKit
noncomputable section
def lT (ops:Array Oper)(aq L:List Nat)(i n d:Nat)(o:Oper):Bool:=
 ia aq i&& !ia L i&&(o.after.toList.all λe=>!Region.binds .any e||ia L e.on)&&Nat.blt d n
section
variable {P:Program} {C:Ctx} {n:FD} {Q:Exit->Act->World->Prop} {ops:Array Oper} {aq L:List Nat} {D:List (Nat×Fact)} {Φ H:List Fact} {S S':List (Nat×Value)}
theorem M8 (cn:gT ops aq=true)(i:Nat) {o:Oper} {d:Nat} {v:Value} (B:List Fact)(m:List Nat)(hi:ops[i]? =some o)(hd:o.dst=some d)(U:lT ops aq L i n d o=true)(hS:eL d S=S')(hB:QO H m=B)(hg:QI ops S o=some true)
  (det:∀a w,fq n S a->zb Φ B w->(execOp a.eval o).run P w=.ok (.value v) w)
  (next:WX P C n Q ops aq (i::L) (B.map (λb=>(i,b))++D) Φ H ((d,v)::S')):WX P C n Q ops aq L D Φ H S:=by
 simp only[lT,Bool.and_eq_true,Bool.not_eq_true']at U;obtain⟨⟨⟨h1,h2⟩,h3⟩,h4⟩:=U;exact BI cn i B m hi h1 h2 h3 hd h4 hS hB (.inl ⟨hg,det⟩) next
theorem LB (cn:gT ops aq=true)(i:Nat) {o:Oper} {d:Nat} (hi:ops[i]? =some o)(hd:o.dst=some d)(U:lT ops aq L i n d o=true)(hS:eL d S=S')(hg:QI ops S o=some false)
  (next:WX P C n Q ops aq (i::L) D Φ H ((d,undef)::S')):WX P C n Q ops aq L D Φ H S:=by
 simp only[lT,Bool.and_eq_true,Bool.not_eq_true']at U;obtain⟨⟨⟨h1,h2⟩,h3⟩,h4⟩:=U;exact BI cn i [] [] hi h1 h2 h3 hd h4 hS rfl (.inr ⟨hg,rfl⟩) next
theorem FP (U:gT ops aq=true)(i:Nat) {o:Oper} {d:Nat} {v:Value} (hi:ops[i]? =some o)(hd:o.dst=some d)(hl:lT ops aq L i n d o=true)(hS:eL d S=S')(hg:QI ops S o=some true)(hv:zj S o.op=some v)
  (next:WX P C n Q ops aq (i::L) D Φ H ((d,v)::S')):WX P C n Q ops aq L D Φ H S:=
 M8 U i [] [] hi hd hl hS rfl hg (λa w hf _=>lz hf hv w) next
theorem Vq (U:gT ops aq=true)(i:Nat) {o:Oper} {d t:Nat} {x:Operand} {p:Option Addr} {k c e:Nat} (hi:ops[i]? =some o)(hd:o.dst=some d)(hl:lT ops aq L i n d o=true)(hS:eL d S=S')(hg:QI ops S o=some true)
  (ho:o.op=.call {callee:=.builtin .len,args:=#[x],argTypes:=#[t]}) (hx:de S x=some (.slice p k c)) (ht:fR P t=some e)
  (next:WX P C n Q ops aq (i::L) D Φ H ((d,.int .i64 (k:Int))::S')):WX P C n Q ops aq L D Φ H S:=
 M8 U i [] [] hi hd hl hS rfl hg (λa w hf _=>by simp[execOp,ho,resolve,invoke,builtin,Builtin.len_,hf.eval hx,run_underlying (uu ht),goInt]) next
theorem yJ (U:gT ops aq=true)(i:Nat) {o:Oper} {d t k off b q:Nat} {x:Operand} (hi:ops[i]? =some o)(hd:o.dst=some d)(hl:lT ops aq L i n d o=true)(hS:eL d S=S')(hg:QI ops S o=some true)
  (ho:o.op=.fieldAddr t x k) (hx:de S x=some (.pointer (some ⟨b,q,none⟩))) (hk:QR P t k=some off)
  (next:WX P C n Q ops aq (i::L) D Φ H ((d,.pointer (some ⟨b,q+off,none⟩))::S')):WX P C n Q ops aq L D Φ H S:=
 M8 U i [] [] hi hd hl hS rfl hg (λa w hf _=>by simp[execOp,ho,hf.eval hx,la hk]) next
theorem S9 (cn:gT ops aq=true)(i:Nat) {o:Oper} {d t:Nat} {U:Array (Nat×Operand)} {z:Value} {pl:List (Nat×Nat)} {parts:List (Nat×Value)} {out:List Value} (hi:ops[i]? =some o)(hd:o.dst=some d)(hl:lT ops aq L i n d o=true)(hS:eL d S=S')(hg:QI ops S o=some true)
  (ho:o.op=.build t U) (hz:gW P t=some z) (hp:qe P t=some pl) (he:Pz S U.toList=some parts) (hf:kF (W6 pl) z.cells.toList parts=some out)
  (next:WX P C n Q ops aq (i::L) D Φ H ((d,.agg out.toArray)::S')):WX P C n Q ops aq L D Φ H S:=
 M8 cn i [] [] hi hd hl hS rfl hg (λa w eP _=>by
  have h0:U.map (λx=>(x.1,a.eval x.2))=parts.toArray:=by
   rw[<-eP.evalP he,<-List.map_toArray]
  have h1:=run_build hz hp hf w;rw[<-h0]at h1;simp only[execOp,ho,Sem.run_bind];rw[show(U.map λx=>match x with|(i,x)=>(i,a.eval x))=U.map (λx=>(x.1,a.eval x.2))from rfl,h1];rfl) next
theorem lR (U:gT ops aq=true)(i:Nat) {o:Oper} {d t sz b q:Nat} {x:Operand} {g:Bool} {cs:List Value} {v:Value} (B:List Fact)(m:List Nat)(hi:ops[i]? =some o)(hd:o.dst=some d)(hl:lT ops aq L i n d o=true)(hS:eL d S=S')(hB:QO H m=B)(hg:QI ops S o=some true)
  (ho:o.op=.load t x) (hx:de S x=some (.pointer (some ⟨b,q,none⟩))) (hc:∀w,zb Φ B w->py w b q cs) (hs:QP P t=some sz) (ha:eY P t=some g) (hlen:cs.length=sz) (hv:ku g cs=some v)
  (next:WX P C n Q ops aq (i::L) (B.map (λb=>(i,b))++D) Φ H ((d,v)::S')):WX P C n Q ops aq L D Φ H S:=
 M8 U i B m hi hd hl hS hB hg (λa w hf hw=>by simp[execOp,ho,hf.eval hx,Instr.loadAt,Instr.sureAddr,RJ (hc w hw) hs ha hlen hv]) next
theorem QbU {w:World} {b q j sz:Nat} {all cs:List Value} (h:py w b q all)(U:(all.drop j).take sz=cs):py w b (q+j) cs:=λi u hu=>by
 have:=h (j+i) u (by rw[<-U,List.getElem?_take]at hu;split at hu<;>first|(rw[List.getElem?_drop]at hu;exact hu)|cases hu);rwa [<-Nat.add_assoc]at this
theorem OP (cn:gT ops aq=true)(i:Nat) {o:Oper} {d t sz b q:Nat} {x:Operand} {g:Bool} {all cs:List Value} {v:Value} (k j:Nat)(hi:ops[i]? =some o)(hd:o.dst=some d)(hl:lT ops aq L i n d o=true)(hS:eL d S=S')(hg:QI ops S o=some true)
  (ho:o.op=.load t x) (U:Φ[k]? =some (.cells b q all)) (hx:de S x=some (.pointer (some ⟨b,q+j,none⟩))) (qW:(all.drop j).take sz=cs) (hs:QP P t=some sz) (ha:eY P t=some g) (hlen:cs.length=sz) (hv:ku g cs=some v)
  (next:WX P C n Q ops aq (i::L) D Φ H ((d,v)::S')):WX P C n Q ops aq L D Φ H S:=
 lR cn i [] [] hi hd hl hS rfl hg ho hx (λw ⟨⟨F,h⟩,_⟩=>QbU (h _ (ic U)).2 qW) hs ha hlen hv next
theorem BJ (cn:gT ops aq=true)(i:Nat) {o:Oper} {d t sz b U:Nat} {x:Operand} {g:Bool} {all cs:List Value} {v:Value} (k j:Nat)(hi:ops[i]? =some o)(hd:o.dst=some d)(hl:lT ops aq L i n d o=true)(hS:eL d S=S')(hg:QI ops S o=some true)
  (ho:o.op=.load t x) (bj:QO H [k]=[.blk b all U]) (hx:de S x=some (.pointer (some ⟨b,j,none⟩))) (qW:(all.drop j).take sz=cs) (hs:QP P t=some sz) (ha:eY P t=some g) (hlen:cs.length=sz) (hv:ku g cs=some v)
  (next:WX P C n Q ops aq (i::L) ((i,.blk b all U)::D) Φ H ((d,v)::S')):WX P C n Q ops aq L D Φ H S:=
 lR cn i [.blk b all U] [k] hi hd hl hS bj hg ho hx (λw ⟨_,h⟩=>by
  obtain⟨N,F,h1⟩:=h _ (List.mem_singleton.2 rfl);have:=QbU (XG h1.2) qW;rwa [Nat.zero_add]at this) hs ha hlen hv next
theorem LA {α:Type} (cn:gT ops aq=true)(i:Nat) {o:Oper} {d t e sz:Nat} {x y:Operand} {R:eO α} {p:Option Addr} {cp:Nat} {l:List α} {ik:IntKind} {z:Int} (k j:Nat)(hi:ops[i]? =some o)(hd:o.dst=some d)(hl:lT ops aq L i n d o=true)(hS:eL d S=S')(hg:QI ops S o=some true)
  (ho:o.op=.indexAddr t x y) (bj:Φ[k]? =some (.sli sz R p cp l)) (hx:de S x=some (.slice p l.length cp)) (hy:de S y=some (.int ik z)) (hz:z=(j:Int)) (hj:j<l.length) (he:fR P t=some e) (hs:QP P e=some sz)
  (next:∀b q cs u,l[j]? =some u->cs.length=sz->WX P C n Q ops aq (i::L) D (.cells b q cs::.rep R cs u::Φ) H ((d,.pointer (some ⟨b,q,none⟩))::S')):WX P C n Q ops aq L D Φ H S:=by
 subst hz;refine FO (Λ:=Nat×Nat×List Value) (pure:=λr=>p=some ⟨r.1,r.2.1,none⟩/\r.2.2.length=sz) (facts:=λr=>[.cells r.1 (r.2.1+j*sz) r.2.2,.rep R r.2.2 l[j]]) (λF w ec=>?_) ?_
 ·obtain⟨p',n',c',xs,EP,ET,hc,hm,lX,eX⟩:=(ec _ (ic bj):G5 F w sz (R.p F w) (.slice p l.length cp) l)
  cases EP;obtain⟨b,off,hp,hF,iW⟩:=eX an;obtain⟨cs,U,hr,hu⟩:=lX.at (List.getElem?_eq_getElem hj)
  refine⟨(b,off,cs),⟨hp,U⟩,λφ fA=>?_⟩;simp only[List.mem_cons,List.not_mem_nil,or_false]at fA;rcases fA with rfl|rfl
  ·refine⟨hF,λi u iN=>?_⟩;rw[Nat.add_assoc];exact iW _ u (hu i u iN)
  · exact hr
 ·rintro⟨b,off,cs⟩ ⟨rfl,U⟩;refine M8 cn i [] [] hi hd hl hS rfl hg (λa w hf _=>?_) (next b (off+j*sz) cs _ (List.getElem?_eq_getElem hj) U);have h1:(0:Int)<=j/\(j:Int)<l.length:=an
  simp[execOp,ho,hf.eval hx,hf.eval hy,Instr.indexAt,asIntOf,run_underlying (uu he),h1,yM hs,Addr.add,hj]
theorem XX {α Λ:Type} {R:eO α} {cells:α->Λ->List Value} {pure:α->Λ->Prop} {facts:α->Λ->List Fact} {cs:List Value} {x:α} (op:qg R cells pure facts)(k:Nat)(hk:Φ[k]? =some (.rep R cs x))
  (next:∀r:Λ,cs=cells x r->pure x r->WX P C n Q ops aq L D (facts x r++Φ) H S):WX P C n Q ops aq L D Φ H S:=
 FO (pure:=λr=>cs=cells x r/\pure x r) (facts:=facts x) (λF w ec=>by obtain⟨r,h1,U,h3⟩:=op F w cs x (ec _ (ic hk));exact⟨r,⟨h1,U⟩,h3⟩) λr ⟨h1,U⟩=>next r h1 U
theorem uY {o:Oper} {rest:List Oper} {d:Nat} {op:BinOp} {t u:TypeId} {x y:Operand} {a b v:Value} (hg:QI ops S o=some true)(hd:o.dst=some d)(hn:Nat.blt d n=true)(hS:eL d S=S')(ho:o.op=.binOp op t x y u)(hx:de S x=some a)(hy:de S y=some b)
  (hr:∀w,(do eqGuard op t x y a b;binOp op t a b:Sem Value).run P w=.ok v w) (next:WL P C n Q Φ H ((d,v)::S') ops rest):WL P C n Q Φ H S ops (o::rest):=
 HF hg hd hn hS (λ_ w U _=>by
  have h1:=hr w;unfold execOp;simp only[ho,U.eval hx,U.eval hy];rw[Sem.run_bind,h1];rfl) next
theorem Ly (cn:gT ops aq=true)(i:Nat) {o:Oper} {d:Nat} {op:BinOp} {t u:TypeId} {x y:Operand} {a b v:Value} (hi:ops[i]? =some o)(hd:o.dst=some d)(hl:lT ops aq L i n d o=true)(hS:eL d S=S')(hg:QI ops S o=some true)
  (ho:o.op=.binOp op t x y u) (hx:de S x=some a) (hy:de S y=some b) (hr:∀w,(do eqGuard op t x y a b;binOp op t a b:Sem Value).run P w=.ok v w)
  (next:WX P C n Q ops aq (i::L) D Φ H ((d,v)::S')):WX P C n Q ops aq L D Φ H S:=
 M8 cn i [] [] hi hd hl hS rfl hg (λ_ w U _=>by
  have h1:=hr w;unfold execOp;simp only[ho,U.eval hx,U.eval hy];rw[Sem.run_bind,h1];rfl) next
theorem lF {P:Program} {t e:Nat} (ht:fR P t=some e)(x y:Operand)(p:Option Addr)(m c m' U:Nat)(w:World):(do eqGuard .eql t x y (.slice p m c) (.slice none m' U);binOp .eql t (.slice p m c) (.slice none m' U):Sem Value).run P w=.ok (.bool (Option.isNone p)) w:=by
 have h:=Lib.run_eql_slice_nil (P:=P) w t e p m c m' U (uu ht);rw[Sem.run_bind,show(eqGuard .eql t x y (.slice p m c) (.slice none m' U)).run P w=.ok () w from rfl];exact h
theorem lG {P:Program} {t e:Nat} (ht:fR P t=some e)(x y:Operand)(p:Option Addr)(m c m' U:Nat)(w:World):(do eqGuard .neq t x y (.slice p m c) (.slice none m' U);binOp .neq t (.slice p m c) (.slice none m' U):Sem Value).run P w=.ok (.bool (!Option.isNone p)) w:=by
 have h:=run_neq_slice_nil_any (P:=P) w t e p m c m' U (uu ht);rw[Sem.run_bind,show(eqGuard .neq t x y (.slice p m c) (.slice none m' U)).run P w=.ok () w from rfl];exact h
theorem XQ {o:Oper} {rest:List Oper} {d:Nat} {t u e:TypeId} {x y:Operand} {p:Option Addr} {m c m' U:Nat} (hg:QI ops S o=some true)(hd:o.dst=some d)(hn:Nat.blt d n=true)(hS:eL d S=S')(ho:o.op=.binOp .eql t x y u)(hx:de S x=some (.slice p m c))(hy:de S y=some (.slice none m' U))(ht:fR P t=some e)
 (next:WL P C n Q Φ H ((d,.bool (Option.isNone p))::S') ops rest):WL P C n Q Φ H S ops (o::rest):=uY hg hd hn hS ho hx hy (lF ht x y p m c m' U) next
theorem Hg {o:Oper} {rest:List Oper} {d:Nat} {t u e:TypeId} {x y:Operand} {p:Option Addr} {m c m' U:Nat} (hg:QI ops S o=some true)(hd:o.dst=some d)(hn:Nat.blt d n=true)(hS:eL d S=S')(ho:o.op=.binOp .neq t x y u)(hx:de S x=some (.slice p m c))(hy:de S y=some (.slice none m' U))(ht:fR P t=some e)
 (next:WL P C n Q Φ H ((d,.bool (!Option.isNone p))::S') ops rest):WL P C n Q Φ H S ops (o::rest):=uY hg hd hn hS ho hx hy (lG ht x y p m c m' U) next
theorem He {α:Type} {o:Oper} {rest:List Oper} {d:Nat} {t e sz m g:Nat} {x i:Operand} {R:eO α} {cp:Nat} {l:List α} {ik:IntKind} {z:Int} (k j:Nat)(hg:QI ops S o=some true)(hd:o.dst=some d)(hn:Nat.blt d n=true)(hS:eL d S=S')(ho:o.op=.indexAddr t x i)
  (U:H[k]? =some (.own e sz R (.slice (some ⟨g,0,none⟩) m cp) l)) (hx:de S x=some (.slice (some ⟨g,0,none⟩) m cp)) (hi:de S i=some (.int ik z)) (hz:z=(j:Int)) (hj:j<l.length) (he:fR P t=some e) (hs:QP P e=some sz)
  (next:WL P C n Q Φ H ((d,.pointer (some ⟨g,j*sz,none⟩))::S') ops rest):WL P C n Q Φ H S ops (o::rest):=
 FV k j hg hd hn hS ho U hx hi hz hj he hs λg' e=>by cases e;exact next
theorem Sa {w:World} {α:Type} {e sz m:Nat} {R:eO α} {p:Option Addr} {cp:Nat} {l:List α} {k:Nat} (hw:Qj C Φ H w)(bj:H[k]? =some (.own e sz R (.slice p m cp) l)):m=l.length/\(0<l.length->∃g,p=some ⟨g,0,none⟩):=by
 obtain⟨F,N,hi⟩:=hw;obtain⟨_,U⟩:=hi.owns k _ bj;exact⟨U.len,λh=>by obtain⟨g,hp,_⟩:=U.head h;exact⟨g,hp⟩⟩
theorem Hh {α:Type} {e sz m:Nat} {R:eO α} {p:Option Addr} {cp:Nat} {l:List α} (k:Nat)(bj:H[k]? =some (.own e sz R (.slice p m cp) l))(next:m=l.length->(0<l.length->∃g,p=some ⟨g,0,none⟩)->WX P C n Q ops aq L D Φ H S):WX P C n Q ops aq L D Φ H S:=
 λlisted a av w U=>next (Sa U.holds bj).1 (Sa U.holds bj).2 listed a av w U
theorem qc {α:Type} {e sz m:Nat} {R:eO α} {p:Option Addr} {cp:Nat} {l:List α} {rest:List Oper} (k:Nat)(U:H[k]? =some (.own e sz R (.slice p m cp) l))(next:m=l.length->(0<l.length->∃g,p=some ⟨g,0,none⟩)->WL P C n Q Φ H S ops rest):WL P C n Q Φ H S ops rest:=
 λa w hf hw=>next (Sa hw U).1 (Sa hw U).2 a w hf hw
theorem XO {α:Type} {e sz m:Nat} {R:eO α} {p:Option Addr} {cp:Nat} {l:List α} {c:Code} (k:Nat)(U:H[k]? =some (.own e sz R (.slice p m cp) l))(next:m=l.length->(0<l.length->∃g,p=some ⟨g,0,none⟩)->WC P C n Q Φ H S c):WC P C n Q Φ H S c:=
 λa w hf hw=>next (Sa hw U).1 (Sa hw U).2 a w hf hw
theorem ML {α:Type} (cn:gT ops aq=true)(i:Nat) {o:Oper} {d t e sz m:Nat} {x y:Operand} {R:eO α} {p:Option Addr} {cp:Nat} {l:List α} {ik:IntKind} {z:Int} (k j:Nat)(hi:ops[i]? =some o)(hd:o.dst=some d)(hl:lT ops aq L i n d o=true)(hS:eL d S=S')(hg:QI ops S o=some true)
  (ho:o.op=.indexAddr t x y) (bj:H[k]? =some (.own e sz R (.slice p m cp) l)) (hx:de S x=some (.slice p m cp)) (hy:de S y=some (.int ik z)) (hz:z=(j:Int)) (hj:j<l.length) (he:fR P t=some e) (hs:QP P e=some sz)
  (next:∀g,p=some ⟨g,0,none⟩->WX P C n Q ops aq (i::L) D Φ H ((d,.pointer (some ⟨g,j*sz,none⟩))::S')):WX P C n Q ops aq L D Φ H S:=
 Hh k bj λhm hp=>by
  obtain⟨g,rfl⟩:=hp an;subst hz;refine M8 cn i [] [] hi hd hl hS rfl hg (λa w U _=>?_) (next g rfl);have h1:(0:Int)<=j/\(j:Int)<m:=an
  have h2:j<m:=an
  simp[execOp,ho,U.eval hx,U.eval hy,Instr.indexAt,asIntOf,run_underlying (uu he),h1,h2,yM hs];unfold Addr.add;split<;>simp_all
theorem QbX {α:Type} (cn:gT ops aq=true)(i:Nat) {o:Oper} {d t e sz m g:Nat} {x y:Operand} {R:eO α} {cp:Nat} {l:List α} {ik:IntKind} {z:Int} (k j:Nat)(hi:ops[i]? =some o)(hd:o.dst=some d)(hl:lT ops aq L i n d o=true)(hS:eL d S=S')(hg:QI ops S o=some true)
  (ho:o.op=.indexAddr t x y) (U:H[k]? =some (.own e sz R (.slice (some ⟨g,0,none⟩) m cp) l)) (hx:de S x=some (.slice (some ⟨g,0,none⟩) m cp)) (hy:de S y=some (.int ik z)) (hz:z=(j:Int)) (hj:j<l.length) (he:fR P t=some e) (hs:QP P e=some sz)
  (next:WX P C n Q ops aq (i::L) D Φ H ((d,.pointer (some ⟨g,j*sz,none⟩))::S')):WX P C n Q ops aq L D Φ H S:=
 ML cn i k j hi hd hl hS hg ho U hx hy hz hj he hs λg' e=>by cases e;exact next
theorem lQ {α:Type} (cn:gT ops aq=true)(i:Nat) {o:Oper} {d t e sz st m g:Nat} {x:Operand} {R:eO α} {cp:Nat} {l:List α} {ag:Bool} {y:α} {cells:α->Unit->List Value} {pure:α->Unit->Prop} {facts:α->Unit->List Fact} {v:Value} (op:qg R cells pure facts)(k j q:Nat)
  (hi:ops[i]? =some o) (hd:o.dst=some d) (hl:lT ops aq L i n d o=true) (hS:eL d S=S') (hg:QI ops S o=some true) (ho:o.op=.load t x)
  (U:QO H [k]=[.own e sz R (.slice (some ⟨g,0,none⟩) m cp) l]) (hx:de S x=some (.pointer (some ⟨g,j*sz+q,none⟩))) (hj:l[j]? =some y) (hs:QP P t=some st) (ha:eY P t=some ag)
  (hv:ku ag (((cells y ()).drop q).take st)=some v) (hlen:(((cells y ()).drop q).take st).length=st)
  (next:pure y ()->WX P C n Q ops aq (i::L) ((i,.own e sz R (.slice (some ⟨g,0,none⟩) m cp) l)::D) Φ H ((d,v)::S')):WX P C n Q ops aq L D Φ H S:=by
 have pK:∀N F w,(Fact.own e sz R (.slice (some ⟨g,0,none⟩) m cp) l).op N F w->py w g (j*sz+q) (((cells y ()).drop q).take st)/\pure y ():=by
  intro N F w ⟨_,xs,xT,lX⟩;obtain⟨cs,Mf,hr,hu⟩:=lX.at hj;obtain⟨r,h1,h2,_⟩:=op F w cs y hr;subst h1;refine⟨λz u hq=>?_,h2⟩;have:=xT.cells (g:=g) rfl (j*sz+(q+z)) u (hu _ u (by rw[List.getElem?_take]at hq;split at hq<;>first|(rw[List.getElem?_drop]at hq;exact hq)|cases hq));rw[Ed]at this;rw[Nat.zero_add]at this;rwa [Nat.add_assoc]
 intro listed a av w hr
 have Zj:pure y ():=by
  obtain⟨F,N,hm⟩:=hr.holds
  have hk:H[k]? =some (.own e sz R (.slice (some ⟨g,0,none⟩) m cp) l):=by
   simp only[QO,List.filterMap_cons,List.filterMap_nil]at U;split at U;· cases U
   · rename_i b hb;rw[hb];simpa using U
  exact(pK _ _ _ (hm.owns k _ hk)).2
 exact lR cn i [.own e sz R (.slice (some ⟨g,0,none⟩) m cp) l] [k] hi hd hl hS U hg ho hx (λw ⟨_,h⟩=>by
  obtain⟨N,F,h1⟩:=h _ (List.mem_singleton.2 rfl);exact(pK N F w h1).1) hs ha hlen hv (next Zj) listed a av w hr
end
end
end
section
open Go.RowKit
def Ec (h:Fact):Prop:=∀N F G w,h.op N F w->h.op N G w
theorem qM {α:Type} {e sz m c:Nat} {R:eO α} {p:Option Addr} {l:List α} {F:eh} {w:World} (h:(Fact.own e sz R (.slice p m c) l).p F w):(Fact.sli sz R p c l).p F w:=by
 obtain⟨h1,h2⟩:=h;have hm:=h2.len;subst hm;obtain⟨xs,ho,lX⟩:=h2;rcases ho.2 with⟨h0,U⟩|⟨g,cap,cur,hv,_,hg,yZ,JH,qW,fz⟩
 ·obtain rfl:l=[]:=List.eq_nil_of_length_eq_zero U;cases h0;exact⟨none,_,0,xs,rfl,rfl,Nat.le_refl _,an,lX,λh=>absurd h an⟩
 ·cases hv;refine⟨_,_,_,xs,rfl,rfl,yZ,JH,lX,λ_=>⟨g,0,rfl,h1 g rfl,λj u hj=>?_⟩⟩;have:=ho.cells (g:=g) rfl j u hj;rwa [Ed]at this
def OB (q m:List Nat):Bool:=q.all λi=>m.any (Nat.beq i)
theorem wc {q m:List Nat} (h:OB q m=true):∀i∈q,i∈m:=λi hi=>by
 have:=List.all_eq_true.1 h i hi;obtain⟨j,hj,U⟩:=List.any_eq_true.1 this;rw[Nat.eq_of_beq_eq_true U];exact hj
theorem fP.afterLend {C:Ctx} {Φ H:List Fact} {F:eh} {N:Nat->eh} {w w':World} (h:fP C Φ H F N w) {l m q:List Nat} (hl:fE (l++m) H.length=true)(hq:OB q m=true) {Hr:List Fact} (fJ:∀x∈Hr,Ec x)
  (U:Qj ⟨w,λk=>∃i,i<(QO H l).length/\N (l.getD i 0) k,λk=>F k\/∃j,j∈q/\N j k⟩ [] Hr w'):Qj C Φ (Hr++QO H m) w':=by
 obtain⟨F',N',U⟩:=U;obtain⟨h1,h2⟩:=XF hl;have PU:=wc hq
 have Gx:fE m H.length=true:=by
  have:∀(l:List Nat),fE (l++m) H.length=true->fE m H.length=true:=by
   intro l;induction l with
   |nil=>exact id
   |cons i l ih=>intro h;simp only[List.cons_append,fE,Bool.and_eq_true]at h;exact ih h.2
  exact this l hl
 have hS:∀k,(∃i,i<(QO H l).length/\N (l.getD i 0) k)->∃j,j∈l/\j<H.length/\N j k:=by
  rintro k ⟨i,hi,hk⟩;rw[(VX H l λi hi=>h1 i (by simp[hi])).1]at hi;refine⟨l[i],List.getElem_mem hi,h1 _ (by simp[List.getElem_mem hi]),?_⟩;simpa[List.getD,hi]using hk
 have hql:∀j,j∈q->j∉l:=λj hj Mi=>(List.nodup_append.1 h2).2.2 j Mi j (PU j hj) rfl
 have fG:∀i k,i<Hr.length->N' i k->¬F k/\(∀j,j∈m->¬N j k):=by
  intro i k hi hk;obtain⟨_,b,c⟩:=U.nlt i k hi hk;refine⟨λhf=>c (U.fold k (.inl hf)),λj hj hn=>?_⟩;rcases b with b|b;· have:=(h.nlt j k (h1 j (by simp[hj])) hn).1;simp at b;omega
  ·obtain⟨j',NK,bq,ET⟩:=hS k b;exact h.apart j j' k (h1 j (by simp[hj])) bq (λe=>by subst e;exact(List.nodup_append.1 h2).2.2 _ NK _ hj rfl) hn ET
 have hr2:Qj ⟨w,λk=>∃i,i<(QO H l).length/\N (l.getD i 0) k,F⟩ [] Hr w':=by
  refine⟨F,N',λk hk=>Nat.lt_of_lt_of_le (h.flt k hk) U.mod.size,λ_ h=>h,λ_ h=>.inl h,ax,λi x hx=>fJ x (List.mem_of_getElem? hx) _ _ _ _ (U.owns i x hx),λi k hi hk=>⟨(U.nlt i k hi hk).1,(U.nlt i k hi hk).2.1,(fG i k hi hk).1⟩,U.apart,U.mod⟩
 exact h.after hl hr2
section
variable {P:Program} {C:Ctx} {n:FD} {Q:Exit->Act->World->Prop} {Φ Φ':List Fact} {H H':List Fact} {S S':List (Nat×Value)} {ops:Array Oper} {rest:List Oper} {o:Oper} {d:Nat} {c x y:Code}
theorem GN {f:FuncId} {xs:Array Operand} {ts:Array TypeId} {args:List Value} {Φf Hf:List Fact} {R:Value->List Fact->List Fact->Prop} (l m q:List Nat)(hg:QI ops S o=some true)
  (ho:o.op=.call {callee:=.value (.func f),args:=xs,argTypes:=ts}) (hx:vq S xs.toList=some args) (jq:cz P f=true)
  (hH:QO H l=Hf) (spec:QB P f args Φf Hf R) (ec:∀F w,(∀ψ∈Φ,ψ.p F w)->(∀ψ∈QO H q,ψ.p F w)->∀φ∈Φf,φ.p F w) (fJ:∀v bo Hr,R v bo Hr->bo=[]/\∀x∈Hr,Ec x) (hl:fE (l++m) H.length=true) (hq:OB q m=true) (hm:QO H m=H')
  (next:∀v bo Hr,R v bo Hr->∀a w,fq n S a->Qj C (bo++Φ) (Hr++H') w->wpList P ops Q rest (a.put o.dst v) w):WL P C n Q Φ H S ops (o::rest):=by
 subst hH;subst hm;intro a w U ⟨F,N,hi⟩;obtain⟨i1,i2⟩:=XF hl;have PU:=wc hq
 have iX:fE l H.length=true:=by
  clear spec next
  have:∀(l:List Nat),fE (l++m) H.length=true->fE l H.length=true:=by
   intro l;induction l with
   |nil=>intro _;rfl
   | cons i l ih=>
     intro h;simp only[List.cons_append,fE,Bool.and_eq_true,Bool.not_eq_true',List.any_append,Bool.or_eq_false_iff]at h⊢;exact⟨⟨h.1.1,h.1.2.1⟩,ih h.2⟩
  exact this l hl
 have hp:=hi.pick l iX;have gK:∀k,F k->(F k\/∃j,j∈q/\N j k):=λ_ h=>.inl h
 have ej:=spec (λk=>F k\/∃j,j∈q/\N j k) _ w (λk hk=>by
   rcases hk with hk|⟨j,hj,hk⟩
   · exact hi.flt k hk
   · exact(hi.nlt j k (i1 j (by simp[PU j hj])) hk).1)
  (ec _ w (λψ gL=>ψ.good gK (fB.refl _ _) (hi.facts ψ gL)) (λψ gL=>by
   obtain⟨j,hj,GJ⟩:=List.mem_filterMap.1 gL;exact ψ.opgood (λk hk=>.inr ⟨j,hj,hk⟩) (fB.refl _ _) gK (fB.refl _ _) (hi.owns j ψ GJ)))
  (λi x hx=>x.opgood (λ_ h=>h) (fB.refl _ _) gK (fB.refl _ _) (hp.owns i x hx))
  (λi k ib hk=>⟨(hp.nlt i k ib hk).1,λU=>by
   rcases U with U|⟨j,hj,U⟩
   · exact(hp.nlt i k ib hk).2.2 U
   · have yY:i<l.length:=by rw[(VX H l λi hi=>i1 i (by simp[hi])).1]at ib;exact ib
     have e:l.getD i 0=l[i]:=by simp[yY]
     rw[e]at hk;exact hi.apart l[i] j k (i1 _ (by simp[List.getElem_mem yY])) (i1 j (by simp[PU j hj])) (λe=>(List.nodup_append.1 i2).2.2 _ (List.getElem_mem yY) _ (PU j hj) e) hk U⟩) hp.apart
 refine wpList_step λK hK=>?_;rw[Hn U hg,if_pos rfl];unfold Oper.wp
 have fx:xs.map a.eval=args.toArray:=by
  have:=U.evalL hx;have h0:xs=xs.toList.toArray:=ax
  rw[<-this,h0,List.map_toArray]
 have eR:(execOp a.eval o).run P w=.ok (.enter f args.toArray) w:=by
  have HJ:a.eval (.func f)=.func (.func f) #[] #[]:=rfl
  have h2:(resolve a.eval {callee:=.value (.func f),args:=xs,argTypes:=ts} o.type).run P w=.ok {target:=.fn (.func f) #[],args:=args.toArray} w:=by
   simp[resolve,HJ,Deferred.ofValue,fx]
  unfold execOp;simp only[ho,Sem.run_bind,h2,Result.andThen_ok];simp[invoke,W5 jq]
 rw[eR,Oper.upon_enter];refine ej.mono ?_;rintro e w' ⟨v,bo,Hr,rfl,hR,hh⟩;obtain⟨rfl,eP⟩:=fJ v bo Hr hR;exact hK _ _ (next v [] Hr hR a w' U (hi.afterLend hl hq eP hh))
theorem OM {f:FuncId} {xs:Array Operand} {ts:Array TypeId} {args:List Value} {Φf Hf:List Fact} {R:Value->List Fact->List Fact->Prop} (l m q:List Nat)(hg:QI ops S o=some true)(hd:o.dst=some d)(hn:Nat.blt d n=true)(hS:eL d S=S')
  (ho:o.op=.call {callee:=.value (.func f),args:=xs,argTypes:=ts}) (hx:vq S xs.toList=some args) (jq:cz P f=true)
  (hH:QO H l=Hf) (spec:QB P f args Φf Hf R) (ec:∀F w,(∀ψ∈Φ,ψ.p F w)->(∀ψ∈QO H q,ψ.p F w)->∀φ∈Φf,φ.p F w) (fJ:∀v U Hr,R v U Hr->U=[]/\∀x∈Hr,Ec x) (hl:fE (l++m) H.length=true) (hq:OB q m=true) (hm:QO H m=H')
  (next:∀v U Hr,R v U Hr->WL P C n Q (U++Φ) (Hr++H') ((d,v)::S') ops rest):WL P C n Q Φ H S ops (o::rest):=
 GN l m q hg ho hx jq hH spec ec fJ hl hq hm λv U Hr hR a w hf hw=>by rw[hd];exact next v U Hr hR _ w (hf.put (Nat.le_of_ble_eq_true hn) hS) hw
end
theorem pt {φ:Fact} {Φ':List Fact} {F:eh} {w:World} (h:φ.p F w)(h':∀U∈Φ',U.p F w):∀U∈φ::Φ',U.p F w:=λU gL=>by
 rcases List.mem_cons.1 gL with rfl|gL;· exact h
 · exact h' U gL
theorem QL {F:eh} {w:World}:∀U∈([]:List Fact),U.p F w:=ax
theorem Jp {x:Fact} (h:x∈([]:List Fact)):Ec x:=by cases h
end
section
open Go.RowKit
theorem Pd {α:Type} {sz:Nat} {R:eO α} {F:eh} {w:World}:(Fact.sli sz R none 0 ([]:List α)).p F w:=⟨none,0,0,[],rfl,rfl,Nat.le_refl _,an,rfl,λh=>absurd h an⟩
theorem Fj {α:Type} {sz c:Nat} {R U:eO α} {p:Option Addr} {l:List α} {F:eh} {w:World} (h:(Fact.sli sz R p c l).p F w)(hR:∀cs x,R.p F w cs x->U.p F w cs x):(Fact.sli sz U p c l).p F w:=by
 obtain⟨p',n',c',xs,e1,e2,h1,h2,h3,h4⟩:=h;exact⟨p',n',c',xs,e1,e2,h1,h2,h3.mono λcs x _=>hR cs x,h4⟩
end
section
open Go.RowKit
def Hy (a:eN)(v:V)(has:List Bool)(vals:List V):Option (List Bool×List V):=
 if a.k=1 then some (has,vals)
 else if a.k=4 then if a.v=v then some (has,vals)else none
 else if a.k=3 then if 0<=a.var/\a.var<has.length/\has[a.var.toNat]? =some true/\vals[a.var.toNat]? =some v then some (has,vals)else none
 else if a.k=2 then if 0<=a.var/\a.var<has.length then some (has.set a.var.toNat true,vals.set a.var.toNat v)else none
 else none
theorem sF {a:eN} {v:V} {h:List Bool} {vs:List V} {h':List Bool} {vs':List V} (e:Hy a v h vs=some (h',vs')):h'.length=h.length/\vs'.length=vs.length:=by
 unfold Hy at e;repeat' split at e
 all_goals first|(cases e;done)|(simp at e;obtain⟨rfl,rfl⟩:=e;simp)
end
section
open Go.RowKit
section
variable {P:Program} {C:Ctx} {n:FD} {Q:Exit->Act->World->Prop} {Φ Φ':List Fact} {H H':List Fact} {S S':List (Nat×Value)} {ops:Array Oper} {rest:List Oper} {o:Oper} {d:Nat}
theorem sb {f:FuncId} {args:List Value} {Φf Hf:List Fact} {R:Value->List Fact->List Fact->Prop} (l m:List Nat)(hg:QI ops S o=some true)
  (eR:∀a w,fq n S a->(execOp a.eval o).run P w=.ok (.enter f args.toArray) w)
  (hH:QO H l=Hf) (spec:QB P f args Φf Hf R) (ec:∀F w,(∀ψ∈Φ,ψ.p F w)->∀φ∈Φf,φ.p F w) (hl:fE (l++m) H.length=true) (hm:QO H m=H')
  (next:∀v U Hr,R v U Hr->∀a w,fq n S a->Qj C (U++Φ) (Hr++H') w->wpList P ops Q rest (a.put o.dst v) w):WL P C n Q Φ H S ops (o::rest):=by
 subst hH;subst hm;intro a w hf ⟨F,N,hi⟩
 have iX:fE l H.length=true:=by
  clear spec next
  have:∀(l:List Nat),fE (l++m) H.length=true->fE l H.length=true:=by
   intro l;induction l with
   |nil=>intro _;rfl
   | cons i l ih=>
     intro h;simp only[List.cons_append,fE,Bool.and_eq_true,Bool.not_eq_true',List.any_append,Bool.or_eq_false_iff]at h⊢;exact⟨⟨h.1.1,h.1.2.1⟩,ih h.2⟩
  exact this l hl
 have hp:=hi.pick l iX;have ej:=spec F _ w hi.flt (λφ bj=>ec F w hi.facts φ bj) hp.owns (λi k ib hk=>⟨(hp.nlt i k ib hk).1,(hp.nlt i k ib hk).2.2⟩) hp.apart;refine wpList_step λK hK=>?_;rw[Hn hf hg,if_pos rfl];unfold Oper.wp;rw[eR a w hf,Oper.upon_enter];refine ej.mono ?_;rintro e w' ⟨v,U,Hr,rfl,hR,hh⟩;exact hK _ _ (next v U Hr hR a w' hf (hi.after hl hh))
theorem Nh {f:FuncId} {y:Operand} {xs:Array Operand} {ts:Array TypeId} {U args:List Value} {fu:Array Value} (ho:o.op=.call {callee:=.value y,args:=xs,argTypes:=ts})(hy:de S y=some (.func (.func f) #[] fu))(hx:vq S xs.toList=some U)
  (jq:cz P f=true) (ha:U++fu.toList=args):∀a w,fq n S a->(execOp a.eval o).run P w=.ok (.enter f args.toArray) w:=by
 intro a w hf
 have fx:xs.map a.eval=U.toArray:=by
  have:=hf.evalL hx;have h0:xs=xs.toList.toArray:=ax
  rw[<-this,h0,List.map_toArray]
 have h2:(resolve a.eval {callee:=.value y,args:=xs,argTypes:=ts} o.type).run P w=.ok {target:=.fn (.func f) fu,args:=U.toArray} w:=by
  simp[resolve,hf.eval hy,Deferred.ofValue,fx]
 have h3:U.toArray++fu=args.toArray:=by rw[<-ha];simp
 unfold execOp;simp only[ho,Sem.run_bind,h2,Result.andThen_ok];simp[invoke,W5 jq,h3]
theorem px {f:FuncId} {y:Operand} {xs:Array Operand} {ts:Array TypeId} {ft args:List Value} {fu:Array Value} {Φf Hf:List Fact} {R:Value->List Fact->List Fact->Prop} (l m:List Nat)(hg:QI ops S o=some true)(hd:o.dst=some d)(hn:Nat.blt d n=true)(hS:eL d S=S')
  (ho:o.op=.call {callee:=.value y,args:=xs,argTypes:=ts}) (hy:de S y=some (.func (.func f) #[] fu)) (hx:vq S xs.toList=some ft) (jq:cz P f=true) (ha:ft++fu.toList=args)
  (hH:QO H l=Hf) (spec:QB P f args Φf Hf R) (ec:∀F w,(∀ψ∈Φ,ψ.p F w)->∀φ∈Φf,φ.p F w) (hl:fE (l++m) H.length=true) (hm:QO H m=H')
  (next:∀v U Hr,R v U Hr->WL P C n Q (U++Φ) (Hr++H') ((d,v)::S') ops rest):WL P C n Q Φ H S ops (o::rest):=
 sb l m hg (Nh ho hy hx jq ha) hH spec ec hl hm λv U Hr hR a w hf hw=>by rw[hd];exact next v U Hr hR _ w (hf.put (Nat.le_of_ble_eq_true hn) hS) hw
theorem wU {f:FuncId} {xs:Array Operand} {U:List Value} (hg:QI ops S o=some true)(hd:o.dst=some d)(hn:Nat.blt d n=true)(hS:eL d S=S')(ho:o.op=.makeFunc (.func f) #[] xs)(hx:vq S xs.toList=some U)
  (next:WL P C n Q Φ H ((d,.func (.func f) #[] U.toArray)::S') ops rest):WL P C n Q Φ H S ops (o::rest):=
 HF hg hd hn hS (λa w hf _=>by
  have fx:xs.map a.eval=U.toArray:=by
   have:=hf.evalL hx;have h0:xs=xs.toList.toArray:=ax
   rw[<-this,h0,List.map_toArray]
  simp[execOp,ho,Instr.makeFunc,fx]) next
end
end
section
open Go Go.RowKit
section
variable {P:Program} {C:Ctx} {n:FD} {Q:Exit->Act->World->Prop} {Φ Φ':List Fact} {H H':List Fact} {S S':List (Nat×Value)} {ops:Array Oper} {rest:List Oper} {o:Oper} {d:Nat}
theorem E3 {α:Type} {t e e2 sz jk m2:Nat} {s x:Operand} {R:eO α} {v z:Value} {l l2:List α} {p:Option Addr} {cp:Nat} (k j:Nat)(hg:QI ops S o=some true)(hd:o.dst=some d)(hn:Nat.blt d n=true)(hS:eL d S=S')
  (ho:o.op=.call {callee:=.builtin .append,args:=#[s,x],argTypes:=#[t,t]}) (bj:H[k]? =some (.own e sz R v l)) (hs:de S s=some v) (gL:H[j]? =some (.own e2 sz R (.slice p m2 cp) l2)) (hx:de S x=some (.slice p l2.length cp))
  (he:fR P t=some e) (hr:gO P e=some (z,sz,jk)) (uk:Nat.beq z.cells.size sz=true) (jd:Nat.blt 0 sz=true) (JA:l.length+l2.length<=9223372036854775807) (Me:(l.length+l2.length)*jk<=140737488355328)
  {H2:Option Addr->Nat->List Fact} (hH:∀p' U,H.set k (.own e sz R (.slice p' (l++l2).length U) (l++l2))=H2 p' U) (next:∀p' U,WL P C n Q Φ (H2 p' U) ((d,.slice p' (l++l2).length U)::S') ops rest):WL P C n Q Φ H S ops (o::rest):=
 Qbi k hg hd hn hS ho bj hs hx (λF N w hi=>by
  obtain⟨_,xs,ho,lX⟩:=hi.owns j _ gL;rcases ho.2 with⟨h0,h00⟩|⟨g,cap,cur,hv,_⟩
  · exact⟨xs,lX,λh=>absurd h an⟩
  ·cases hv;refine⟨xs,lX,λ_=>⟨g,0,rfl,λq u hq=>?_⟩⟩;have:=ho.cells (g:=g) rfl q u hq;rwa [Ed]at this) he hr uk jd JA Me hH next
theorem Vp (hg:QI ops S o=some true)(hd:o.dst=none)(run:∀a w,fq n S a->Qj C Φ H w->∃v w',(execOp a.eval o).run P w=.ok (.value v) w'/\Qj C Φ' H' w')(next:WL P C n Q Φ' H' S ops rest):WL P C n Q Φ H S ops (o::rest):=by
 intro a w U hw;obtain⟨v,w',hr,h1⟩:=run a w U hw;refine wpList_step λK hK=>?_
 rw[Hn U hg,if_pos rfl];unfold Oper.wp;rw[hr];unfold Oper.upon;rw[hd];exact hK _ _ (next _ _ U h1)
end
theorem Pk {α:Type} {l:List α} {k:Nat} {x:α} (h:l[k]? =some x):l.set k x=l:=by
 obtain⟨h1,rfl⟩:=List.getElem?_eq_some_iff.1 h;exact List.set_getElem_self h1
end
section
open Go.RowKit
def tS (P:Program)(t:Nat):Option Nat:=match P.underlying t with
 |some (.pointer e)=>some e
 |_=>none
theorem L9 {P:Program} {t e:Nat} (h:tS P t=some e):P.underlying t=some (.pointer e):=by
 unfold tS at h;split at h;· rename_i hu;cases h;exact hu
 · cases h
theorem Py {P:Program} {t e:Nat} (U:tS P t=some e)(n:Nat)(a:Option Addr)(w:World):(Op.equalIn (n+1) t (.pointer a) (.pointer none)).run P w=.ok a.isNone w:=by
 cases a<;>simp[Op.equalIn,run_underlying (L9 U)]
theorem ZZ {P:Program} {t e:Nat} (U:tS P t=some e)(x y:Operand)(a:Option Addr)(w:World):(do eqGuard .neq t x y (.pointer a) (.pointer none);binOp .neq t (.pointer a) (.pointer none):Sem Value).run P w=.ok (.bool (!a.isNone)) w:=by
 rw[Sem.run_bind,show(eqGuard .neq t x y (.pointer a) (.pointer none)).run P w=.ok () w from rfl,Result.andThen_ok];have h:=Py U 9999 a w;simp only[binOp];simp[Op.equal,Op.maxDepth,h]
theorem IU {P:Program} {t e:Nat} (U:tS P t=some e)(x y:Operand)(a:Option Addr)(w:World):(do eqGuard .eql t x y (.pointer a) (.pointer none);binOp .eql t (.pointer a) (.pointer none):Sem Value).run P w=.ok (.bool a.isNone) w:=by
 rw[Sem.run_bind,show(eqGuard .eql t x y (.pointer a) (.pointer none)).run P w=.ok () w from rfl,Result.andThen_ok];have h:=Py U 9999 a w;simp only[binOp];simp[Op.equal,Op.maxDepth,h]
end
section
open Go Go.RowKit
def r5 (k:IntKind)(x:Int):Prop:=IntKind.min k<=x/\x<=IntKind.max k
def gd {α:Type} (c:Prop) [Decidable c] (m:Option α):Option α:=if c then m else none
def Qg {α β:Type} (m:Option α)(k:α->Option β):Option β:=match m with
 |some a=>k a
 |none=>none
def ji {σ O:Type} (X:Option (σ⊕O))(Y:σ->Option O):Option O:=match X with
 |some (.inl s)=>Y s
 |some (.inr o)=>some o
 |none=>none
def vH {σ O:Type} (Y:σ->Option O)(x:σ⊕O)(b:O):Prop:=match x with
 | .inl s=>Y s=some b
 | .inr o=>o=b
def fk {σ O:Type} (f:σ->Option (σ⊕O)):Nat->σ->Option O
 |0,_=>none
 |n+1,s=>ji (f s) (fk f n)
section
variable {α β σ O:Type}
theorem mD {c:Prop} [Decidable c] {m:Option α} {b:α} (h:gd c m=some b):c/\m=some b:=by
 unfold gd at h;split at h;· rename_i U;exact⟨U,h⟩
 · cases h
theorem QM {c:Prop} [Decidable c] {m:Option α} (h:c):gd c m=m:=if_pos h
theorem Qv {m:Option α} {k:α->Option β} {b:β} (h:Qg m k=some b):∃a,m=some a/\k a=some b:=by
 unfold Qg at h;split at h;· rename_i a;exact⟨a,rfl,h⟩
 · cases h
theorem Q1 {a:α} {k:α->Option β}:Qg (some a) k=k a:=rfl
theorem kU {X:Option (σ⊕O)} {Y:σ->Option O} {b:O} (h:ji X Y=some b):∃x,X=some x/\vH Y x b:=by
 unfold ji at h;split at h;· rename_i s;exact⟨_,rfl,h⟩
 · rename_i o;cases h;exact⟨_,rfl,rfl⟩
 · cases h
theorem ud {s:σ} {Y:σ->Option O}:ji (some (.inl s)) Y=Y s:=rfl
theorem MC {o:O} {Y:σ->Option O}:ji (some (.inr o)) Y=some o:=rfl
theorem j5 {Y:σ->Option O} {x:σ⊕O} {b:O} {s:σ} (h:vH Y x b)(e:x=.inl s):Y s=some b:=by subst e;exact h
theorem QH {Y:σ->Option O} {x:σ⊕O} {b o:O} (h:vH Y x b)(e:x=.inr o):b=o:=by subst e;exact Eq.symm h
theorem GL {f:σ->Option (σ⊕O)} {n:Nat} {s:σ} {b:O} (h:fk f n s=some b):∃m x,n=m+1/\f s=some x/\vH (fk f m) x b:=by
 cases n with
 |zero=>cases h
 |succ n=>obtain⟨x,h1,U⟩:=kU h;exact⟨n,x,rfl,h1,U⟩
theorem I4 {f:σ->Option (σ⊕O)} {n:Nat} {s s':σ} (h:f s=some (.inl s')):fk f (n+1) s=fk f n s':=by
 show ji (f s) (fk f n)=_;rw[h];rfl
theorem uf {f:σ->Option (σ⊕O)} {n:Nat} {s:σ} {o:O} (h:f s=some (.inr o)):fk f (n+1) s=some o:=by
 show ji (f s) (fk f n)=_;rw[h];rfl
theorem XJ {f:σ->Option (σ⊕O)}:∀{n m:Nat} {s:σ} {b:O},fk f n s=some b->n<=m->fk f m s=some b
 |0,_,_,_,h,_=>by cases h
 |n+1,0,_,_,_,h=>an
 | n+1,m+1,s,b,h,hm=>by
   obtain⟨x,h1,U⟩:=kU (show ji (f s) (fk f n)=some b from h);show ji (f s) (fk f m)=some b;rw[h1];cases x with
   |inl s'=>exact XJ (show fk f n s'=some b from U) an
   |inr o=>exact congrArg some (show o=b from U)
theorem mQ {f:σ->Option (σ⊕O)} (I:σ->Prop)(μ:σ->Nat)(R:O->Prop)(step:∀s,I s->(∃s',f s=some (.inl s')/\I s'/\μ s'<μ s)\/(∃o,f s=some (.inr o)/\R o)):
   ∀(n:Nat) (s:σ),I s->μ s<n->∃o,fk f n s=some o/\R o
 |0,_,_,h=>an
 | n+1,s,hI,h=>by
   rcases step s hI with⟨s',h1,U,h3⟩|⟨o,h1,U⟩
   ·obtain⟨o,h4,h5⟩:=mQ I μ R step n s' U an;exact⟨o,by rw[I4 h1];exact h4,h5⟩
   · exact⟨o,uf h1,U⟩
theorem iP {c:Bool} {x y:Option α} {b:α} (h:(if c=true then x else y)=some b):(c=true/\x=some b)\/(c=false/\y=some b):=by
 cases c;· exact .inr ⟨rfl,h⟩
 · exact .inl ⟨rfl,h⟩
theorem ZM {c:Bool} {x y:α} {b:α} (hm:(if c=true then x else y)=b)(h:c=true):x=b:=by rwa [if_pos h]at hm
theorem ZL {c:Bool} {x y:α} {b:α} (hm:(if c=true then x else y)=b)(h:c=false):y=b:=by rwa [if_neg (by simp[h])]at hm
theorem kr {l:List α} {j:Nat} {x:α} (h:l[j]? =some x):j<l.length:=(List.getElem?_eq_some_iff.1 h).1
theorem gU {b c:Bool} (h:b=c):Value.bool b=.bool c:=by rw[h]
theorem ZX {a b:Nat}:Value.bool (decide ((a:Int)<(b:Int)))=.bool (decide (a<b)):=ax
theorem ZW {a b:Nat}:Value.bool (decide ((a:Int)<=(b:Int)))=.bool (decide (a<=b)):=ax
theorem ZV {a b:Nat}:Value.bool (decide ((a:Int)>(b:Int)))=.bool (decide (b<a)):=ax
theorem ZU {a b:Nat}:Value.bool (decide ((a:Int)>=(b:Int)))=.bool (decide (b<=a)):=ax
theorem ZT {a b:Nat}:Value.bool ((a:Int)==(b:Int))=.bool (a==b):=by
 congr 1;by_cases h:a=b;· subst h;simp
 ·have U:¬(a:Int)=b:=an
  rw[beq_false_of_ne h,beq_false_of_ne U]
theorem ZY {a b:Nat}:Value.bool ((a:Int) !=(b:Int))=.bool (a !=b):=by
 congr 1;by_cases h:a=b;· subst h;simp
 ·have U:¬(a:Int)=b:=an
  simp[bne,beq_false_of_ne h,beq_false_of_ne U]
theorem i64_in {x:Int} (h:inI x):Value.int .i64 (IntKind.wrap .i64 x)=.int .i64 x:=by rw[IntWalk.i64_in _ h]
theorem wW {x:Int} (h:0<=x):x=(x.toNat:Int):=an
end
def Em {α Λ:Type} (cells:α->Λ->List Value)(facts:α->Λ->List Fact)(one:∀x r,∀u∈cells x r,u.oneCell'=true):eO α:=
 ⟨λF w cs x=>∃r,cs=cells x r/\∀φ∈facts x r,φ.p F w,λhF ha ⟨r,h1,h2⟩=>⟨r,h1,λφ U=>φ.good hF ha (h2 φ U)⟩,λ⟨r,h1,_⟩ u hu=>one _ r u (h1▸hu)⟩
theorem Hp {α Λ:Type} {cells:α->Λ->List Value} {facts:α->Λ->List Fact} {one:∀x r,∀u∈cells x r,u.oneCell'=true}:qg (Em cells facts one) cells (λ_ _=>True) facts:=λ_ _ _ _ ⟨r,h1,U⟩=>⟨r,h1,trivial,U⟩
section
variable {P:Program} {C:Ctx} {n:FD} {Q:Exit->Act->World->Prop} {Φ Φ':List Fact} {H H':List Fact} {S S':List (Nat×Value)} {ops:Array Oper} {rest:List Oper} {o:Oper} {d:Nat} {aq L:List Nat} {D:List (Nat×Fact)} {c:Code} {e:Exit}
theorem tG {α:Type 1} {l:List α} {k:Nat} {x:α} (h:l[k]? =some x):l.set k x=l:=by
 obtain⟨h1,U⟩:=List.getElem?_eq_some_iff.1 h;rw[<-U];simp
theorem uZ (k:Nat) {φ φ':Fact} (hk:H[k]? =some φ)(he:φ=φ')(hH:H.set k φ'=H')(h:WL P C n Q Φ H' S ops rest):WL P C n Q Φ H S ops rest:=by
 subst he;subst hH;rwa [tG hk]at h
theorem M7 (k:Nat) {φ φ':Fact} (hk:H[k]? =some φ)(he:φ=φ')(hH:H.set k φ'=H')(h:WC P C n Q Φ H' S c):WC P C n Q Φ H S c:=by
 subst he;subst hH;rwa [tG hk]at h
theorem pg (k:Nat) {φ φ':Fact} (hk:H[k]? =some φ)(he:φ=φ')(hH:H.set k φ'=H')(h:WE C n Q Φ H' S e):WE C n Q Φ H S e:=by
 subst he;subst hH;rwa [tG hk]at h
theorem nU (k:Nat) {x:Nat} {v v':Value} (hk:S[k]? =some (x,v))(he:v=v')(h:WL P C n Q Φ H (S.set k (x,v')) ops rest):WL P C n Q Φ H S ops rest:=by
 subst he;rwa [Pk hk]at h
theorem a0r (k:Nat) {x:Nat} {v v':Value} (hk:S[k]? =some (x,v))(he:v=v')(h:WC P C n Q Φ H (S.set k (x,v')) c):WC P C n Q Φ H S c:=by
 subst he;rwa [Pk hk]at h
theorem a0t (k:Nat) {x:Nat} {v v':Value} (hk:S[k]? =some (x,v))(he:v=v')(h:WE C n Q Φ H (S.set k (x,v')) e):WE C n Q Φ H S e:=by
 subst he;rwa [Pk hk]at h
theorem MG {σ:Type} {ok:σ->Prop} {qj:σ->List (Nat×Value)} {gy qa:σ->List Fact} {μ:σ->Nat} {k:Nat} (s':σ)(U:μ s'<k)(h0:ok s')(l:List Nat)(hS:gD l S=qj s')(ec:∀F w,(∀ψ∈Φ,ψ.p F w)->∀φ∈gy s',φ.p F w)(hH:H=qa s'):
 WE C n (Exit.then (λa' w'=>∃s',μ s'<k/\og ok qj gy qa C n s' a' w') Q) Φ H S .normal:=λa w hf hw=>⟨s',U,Bc s' h0 l hS ec hH hf hw⟩
theorem Ot {P:Program} {k:IntKind} {a b:Int} {t:TypeId} {x y:Operand} (h:b≠0)(w:World):(do eqGuard .rem t x y (.int k a) (.int k b);binOp .rem t (.int k a) (.int k b):Sem Value).run P w=.ok (.int k (a.tmod b)) w:=by
 simp[eqGuard,binOp,Op.intDiv,h]
theorem N2 {a b:Nat} (h:a=b):Value.int .i64 (a:Int)=.int .i64 (b:Int):=by rw[h]
theorem Hv (l:List Nat)(hl:fE l H.length=true)(hH:QO H l=H')(h:WC P C n Q Φ H' S c):WC P C n Q Φ H S c:=λa w U hw=>h a w U (by rw[<-hH];exact hw.pick l hl)
theorem I6 {α:Type} (U sz:Nat)(R:eO α)(next:WE C n Q Φ (.own U sz R (.slice none 0 0) []::H) S e):WE C n Q Φ H S e:=λa w hf hw=>next a w hf (hw.rowNil U sz R)
theorem OL (φ:Fact)(U:∀F w,(∀ψ∈Φ,ψ.p F w)->φ.p F w)(h:WE C n Q (φ::Φ) H S e):WE C n Q Φ H S e:=
 λa w hf hw=>h a w hf (hw.fact λF=>U F w)
theorem pk {α:Type} {t e sz:Nat} {x i:Operand} {R:eO α} {p:Option Addr} {cp:Nat} {l:List α} {ik:IntKind} {z:Int} {y:α} (k j:Nat)(hg:QI ops S o=some true)(hd:o.dst=some d)(hn:Nat.blt d n=true)(hS:eL d S=S')(ho:o.op=.indexAddr t x i)
  (bj:Φ[k]? =some (.sli sz R p cp l)) (hx:de S x=some (.slice p l.length cp)) (hi:de S i=some (.int ik z)) (hz:z=(j:Int)) (hy:l[j]? =some y) (he:fR P t=some e) (hs:QP P e=some sz)
  (next:∀b q cs,cs.length=sz->WL P C n Q (.cells b q cs::.rep R cs y::Φ) H ((d,.pointer (some ⟨b,q,none⟩))::S') ops rest):WL P C n Q Φ H S ops (o::rest):=
 Lw k j hg hd hn hS ho bj hx hi hz (kr hy) he hs λb q cs y' U hl=>by
  obtain rfl:y=y':=Option.some.inj (hy.symm.trans U);exact next b q cs hl
theorem pn {α:Type} (cn:gT ops aq=true)(i:Nat) {o:Oper} {d t e sz:Nat} {x y:Operand} {R:eO α} {p:Option Addr} {cp:Nat} {l:List α} {ik:IntKind} {z:Int} {u:α} (k j:Nat)(hi:ops[i]? =some o)(hd:o.dst=some d)(U:lT ops aq L i n d o=true)(hS:eL d S=S')(hg:QI ops S o=some true)
  (ho:o.op=.indexAddr t x y) (bj:Φ[k]? =some (.sli sz R p cp l)) (hx:de S x=some (.slice p l.length cp)) (hy:de S y=some (.int ik z)) (hz:z=(j:Int)) (hu:l[j]? =some u) (he:fR P t=some e) (hs:QP P e=some sz)
  (next:∀b q cs,cs.length=sz->WX P C n Q ops aq (i::L) D (.cells b q cs::.rep R cs u::Φ) H ((d,.pointer (some ⟨b,q,none⟩))::S')):WX P C n Q ops aq L D Φ H S:=
 LA cn i k j hi hd U hS hg ho bj hx hy hz (kr hu) he hs λb q cs y' ZF U=>by
  obtain rfl:u=y':=Option.some.inj (hu.symm.trans ZF);exact next b q cs U
end
end
section
open Go Go.RowKit
theorem bh {Φ Φ':List Fact} (l:List Nat)(h:QO Φ l=Φ')(F:eh)(w:World)(U:∀ψ∈Φ,ψ.p F w):∀φ∈Φ',φ.p F w:=ask l h U
def kf (d:Nat)(S:List (Nat×Value)):Bool:=S.all λx=>!(Nat.beq x.1 d)
section
variable {P:Program} {C:Ctx} {n:FD} {Q:Exit->Act->World->Prop} {Φ Φ':List Fact} {H H':List Fact} {S S':List (Nat×Value)} {ops:Array Oper} {rest:List Oper} {o:Oper} {d:Nat}
private theorem p2.{u,v} {α:Type u} {β:Type v} {a U:α} {b b':β} (h:(a,b)=(U,b')):a=U/\b=b':=by cases h;exact⟨rfl,rfl⟩
theorem wP {v:Value} (h:(QI ops S o,o.dst,Nat.blt d n,kf d S,zj S o.op)=(some true,some d,true,true,some v))(next:WL P C n Q Φ H ((d,v)::S) ops rest):WL P C n Q Φ H S ops (o::rest):=by
 obtain⟨h1,h⟩:=p2 h;obtain⟨U,h⟩:=p2 h;obtain⟨h3,h⟩:=p2 h;obtain⟨h4,h5⟩:=p2 h;exact Qt h1 U h3 (Q0 h4) h5 next
theorem wO (h:(QI ops S o,o.dst,Nat.blt d n,kf d S)=(some false,some d,true,true))(next:WL P C n Q Φ H ((d,undef)::S) ops rest):WL P C n Q Φ H S ops (o::rest):=by
 obtain⟨h1,h⟩:=p2 h;obtain⟨U,h⟩:=p2 h;obtain⟨h3,h4⟩:=p2 h;exact Lx h1 U h3 (Q0 h4) next
theorem wF {t k off b q:Nat} {x:Operand} (h:(QI ops S o,o.dst,Nat.blt d n,kf d S,o.op,de S x)=(some true,some d,true,true,.fieldAddr t x k,some (.pointer (some ⟨b,q,none⟩))))
  (hk:QR P t k=some off) (next:WL P C n Q Φ H ((d,.pointer (some ⟨b,q+off,none⟩))::S) ops rest):WL P C n Q Φ H S ops (o::rest):=by
 obtain⟨h1,h⟩:=p2 h;obtain⟨U,h⟩:=p2 h;obtain⟨h3,h⟩:=p2 h;obtain⟨h4,h⟩:=p2 h;obtain⟨h5,h6⟩:=p2 h;exact Qb4 h1 U h3 (Q0 h4) h5 h6 hk next
theorem wN {t:TypeId} {x:Operand} {p:Option Addr} {k c e:Nat} (h:(QI ops S o,o.dst,Nat.blt d n,kf d S,o.op,de S x)=(some true,some d,true,true,.call {callee:=.builtin .len,args:=#[x],argTypes:=#[t]},some (.slice p k c)))
  (ht:fR P t=some e) (next:WL P C n Q Φ H ((d,.int .i64 (k:Int))::S) ops rest):WL P C n Q Φ H S ops (o::rest):=by
 obtain⟨h1,h⟩:=p2 h;obtain⟨U,h⟩:=p2 h;obtain⟨h3,h⟩:=p2 h;obtain⟨h4,h⟩:=p2 h;obtain⟨h5,h6⟩:=p2 h;exact E4 h1 U h3 (Q0 h4) h5 h6 ht next
theorem wD {t b tb:Nat} {x:Operand} {g:Bool} {all:List Value} {c v:Value} (k j:Nat)(h:(QI ops S o,o.dst,Nat.blt d n,kf d S,o.op,H[k]?,de S x,all[j]?)=(some true,some d,true,true,.load t x,some (.blk b all tb),some (.pointer (some ⟨b,j,none⟩)),some c))
  (hs:QP P t=some 1) (ha:eY P t=some g) (hv:ku g [c]=some v) (next:WL P C n Q Φ H ((d,v)::S) ops rest):WL P C n Q Φ H S ops (o::rest):=by
 obtain⟨h1,h⟩:=p2 h;obtain⟨U,h⟩:=p2 h;obtain⟨h3,h⟩:=p2 h;obtain⟨h4,h⟩:=p2 h;obtain⟨h5,h⟩:=p2 h;obtain⟨h6,h⟩:=p2 h;obtain⟨h7,h8⟩:=p2 h;refine LY k j h1 U h3 (Q0 h4) h5 h6 h7 (cs:=[c]) ?_ hs ha rfl hv next
 obtain⟨hj,hc⟩:=List.getElem?_eq_some_iff.1 h8;rw[List.drop_eq_getElem_cons hj,hc];rfl
theorem wS {t sz b U:Nat} {x y:Operand} {all cs all':List Value} {v:Value} (k j:Nat)(h:(QI ops S o,o.dst,o.op,H[k]?,de S x,de S y,v.cells.toList)=(some true,none,.store t x y,some (.blk b all U),some (.pointer (some ⟨b,j,none⟩)),some v,cs))
  (hs:QP P t=some sz) (h':(Nat.beq cs.length sz,cs.all (·.oneCell'),Nat.ble (j+sz) all.length,uP all j cs)=(true,true,true,all')) (hH:H.set k (.blk b all' U)=H') (next:WL P C n Q Φ H' S ops rest):WL P C n Q Φ H S ops (o::rest):=by
 obtain⟨h1,h⟩:=p2 h;obtain⟨h2,h⟩:=p2 h;obtain⟨h3,h⟩:=p2 h;obtain⟨h4,h⟩:=p2 h;obtain⟨h5,h⟩:=p2 h;obtain⟨h6,h7⟩:=p2 h;obtain⟨g1,h'⟩:=p2 h';obtain⟨g2,h'⟩:=p2 h';obtain⟨g3,g4⟩:=p2 h';exact BH k j h1 h2 h3 h4 h5 h6 h7 hs g1 g2 g3 g4 hH next
theorem wB {t:Nat} {x:Operand} {v:Value} {zs:List Value} (h:(QI ops S o,o.dst,Nat.blt d n,kf d S,o.op,de S x,v.cells.toList)=(some true,some d,true,true,.box t x,some v,zs))
  (next:∀g,WL P C n Q Φ (.blk g zs t::H) ((d,.pointer (some ⟨g,0,none⟩))::S) ops rest):WL P C n Q Φ H S ops (o::rest):=by
 obtain⟨h1,h⟩:=p2 h;obtain⟨U,h⟩:=p2 h;obtain⟨h3,h⟩:=p2 h;obtain⟨h4,h⟩:=p2 h;obtain⟨h5,h⟩:=p2 h;obtain⟨h6,h7⟩:=p2 h;exact u9 h1 U h3 (Q0 h4) h5 h6 h7 next
theorem wC {f:FuncId} {xs:Array Operand} {ts:Array TypeId} {args:List Value} {Φf U:List Fact} {R:Value->List Fact->List Fact->Prop} (l m:List Nat)
  (h:(QI ops S o,o.dst,Nat.blt d n,kf d S,o.op,vq S xs.toList)=(some true,some d,true,true,.call {callee:=.value (.func f),args:=xs,argTypes:=ts},some args)) (jq:cz P f=true)
  (hH:QO H l=U) (spec:QB P f args Φf U R) (ec:∀F w,(∀ψ∈Φ,ψ.p F w)->∀φ∈Φf,φ.p F w) (hl:fE (l++m) H.length=true) (hm:QO H m=H')
  (next:∀v bo Hr,R v bo Hr->WL P C n Q (bo++Φ) (Hr++H') ((d,v)::S) ops rest):WL P C n Q Φ H S ops (o::rest):=by
 obtain⟨h1,h⟩:=p2 h;obtain⟨h2,h⟩:=p2 h;obtain⟨h3,h⟩:=p2 h;obtain⟨h4,h⟩:=p2 h;obtain⟨h5,h6⟩:=p2 h;exact yI l m h1 h2 h3 (Q0 h4) h5 h6 jq hH spec ec hl hm next
end
section
variable {P:Program} {C:Ctx} {n:FD} {Q:Exit->Act->World->Prop} {ops:Array Oper} {aq L:List Nat} {D:List (Nat×Fact)} {Φ H:List Fact} {S S':List (Nat×Value)}
private theorem p3 {α β:Type} {a U:α} {b b':β} (h:(a,b)=(U,b')):a=U/\b=b':=by cases h;exact⟨rfl,rfl⟩
theorem xP (U:gT ops aq=true)(i:Nat) {o:Oper} {d:Nat} {v:Value} (h:(ops[i]?,o.dst,lT ops aq L i n d o,kf d S,QI ops S o,zj S o.op)=(some o,some d,true,true,some true,some v))
  (next:WX P C n Q ops aq (i::L) D Φ H ((d,v)::S)):WX P C n Q ops aq L D Φ H S:=by
 obtain⟨h1,h⟩:=p3 h;obtain⟨h2,h⟩:=p3 h;obtain⟨h3,h⟩:=p3 h;obtain⟨h4,h⟩:=p3 h;obtain⟨h5,h6⟩:=p3 h;exact FP U i h1 h2 h3 (Q0 h4) h5 h6 next
theorem xO (U:gT ops aq=true)(i:Nat) {o:Oper} {d:Nat} (h:(ops[i]?,o.dst,lT ops aq L i n d o,kf d S,QI ops S o)=(some o,some d,true,true,some false))
  (next:WX P C n Q ops aq (i::L) D Φ H ((d,undef)::S)):WX P C n Q ops aq L D Φ H S:=by
 obtain⟨h1,h⟩:=p3 h;obtain⟨h2,h⟩:=p3 h;obtain⟨h3,h⟩:=p3 h;obtain⟨h4,h5⟩:=p3 h;exact LB U i h1 h2 h3 (Q0 h4) h5 next
theorem xS (U:gT ops aq=true)(k:Nat) {o:Oper} (h:(lC ops aq L,ia aq k,(List.range ops.size).all (ia L),ops[k]?)=([k],false,false,some o))
  (h':WL P C n (QX P C n Q ops aq L D Φ k) Φ H S ops [o]):WX P C n Q ops aq L D Φ H S:=by
 obtain⟨h1,h⟩:=p3 h;obtain⟨h2,h⟩:=p3 h;obtain⟨h3,h4⟩:=p3 h;exact LC U k h1 h2 h3 h4 h'
end
end
section
open Go.RowKit
noncomputable section
inductive SV where
 |v (x:Value)
 |opq (i:Nat)
 |ptr (g off:Nat)
 |sl (g off len cap:Nat) (own:Bool)
 |mp (g:Nat)
 |fn (f:Nat) (fi fu:List SV)
 |agg (l:List SV)
 |tup (l:List SV)
abbrev Env:=Nat->Option (Nat×Nat×Nat)
mutual
def SV.den (ρ:Env)(E:List Value):SV->Option Value
 | .v x=>some x
 | .opq i=>E[i]?
 | .ptr g off=>(ρ g).map λe=>.pointer (some ⟨e.1,e.2.2+off,none⟩)
 | .sl g off len cap own=>(ρ g).map λe=>.slice (some ⟨e.1,e.2.2+off,none⟩) len (if own then e.2.1-cap else cap)
 | .mp g=>(ρ g).map λe=>.map (some e.1)
 | .fn f fi fu=>match SV.dens ρ E fi,SV.dens ρ E fu with
   |some us,some vs=>some (.func (.func f) us.toArray vs.toArray)
   |_,_=>none
 | .agg l=>(SV.dens ρ E l).map λvs=>.agg vs.toArray
 | .tup l=>(SV.dens ρ E l).map λvs=>.tuple vs.toArray
def SV.dens (ρ:Env)(E:List Value):List SV->Option (List Value)
 |[]=>some []
 | x::l=>match SV.den ρ E x,SV.dens ρ E l with
   |some y,some U=>some (y::U)
   |_,_=>none
end
def Env.le (ρ ca:Env):Prop:=∀g e,ρ g=some e->ca g=some e
section den
variable {ρ ca:Env} {E:List Value}
theorem QF {x:SV} {l:List SV} {vs:List Value} (h:SV.dens ρ E (x::l)=some vs):∃v ws,vs=v::ws/\x.den ρ E=some v/\SV.dens ρ E l=some ws:=by
 unfold SV.dens at h;split at h;· rename_i v ws h1 U;cases h;exact⟨v,ws,rfl,h1,U⟩
 · cases h
theorem sK {f:Nat} {U fu:List SV} {x:Value} (h:(SV.fn f U fu).den ρ E=some x):∃us vs,SV.dens ρ E U=some us/\SV.dens ρ E fu=some vs/\x=.func (.func f) us.toArray vs.toArray:=by
 unfold SV.den at h;split at h;· rename_i us vs h1 h2;cases h;exact⟨us,vs,h1,h2,rfl⟩
 · cases h
theorem Jn {f:Nat} {U fu:List SV} {us vs:List Value} (h1:SV.dens ρ E U=some us)(h2:SV.dens ρ E fu=some vs):(SV.fn f U fu).den ρ E=some (.func (.func f) us.toArray vs.toArray):=by
 unfold SV.den;rw[h1,h2]
theorem Cv {x:SV} {l:List SV} {v:Value} {ws:List Value} (h1:x.den ρ E=some v)(U:SV.dens ρ E l=some ws):SV.dens ρ E (x::l)=some (v::ws):=by
 unfold SV.dens;rw[h1,U]
mutual
theorem SV.den_mono (h:ρ.le ca):∀(v:SV)(x:Value),v.den ρ E=some x->v.den ca E=some x
 | .v _,_,e=>e
 | .opq _,_,e=>e
 | .ptr g off,x,e=>by
   simp only[SV.den,Option.map_eq_some_iff]at e⊢;obtain⟨a,h1,U⟩:=e;exact⟨a,h _ _ h1,U⟩
 | .sl g off len cap own,x,e=>by
   simp only[SV.den,Option.map_eq_some_iff]at e⊢;obtain⟨a,h1,U⟩:=e;exact⟨a,h _ _ h1,U⟩
 | .mp g,x,e=>by
   simp only[SV.den,Option.map_eq_some_iff]at e⊢;obtain⟨a,h1,U⟩:=e;exact⟨a,h _ _ h1,U⟩
 | .fn f fi fu,x,e=>by
   obtain⟨us,vs,h1,U,rfl⟩:=sK e;exact Jn (SV.dens_mono h fi us h1) (SV.dens_mono h fu vs U)
 | .agg l,x,e=>by
   simp only[SV.den,Option.map_eq_some_iff]at e⊢;obtain⟨a,h1,U⟩:=e;exact⟨a,SV.dens_mono h l a h1,U⟩
 | .tup l,x,e=>by
   simp only[SV.den,Option.map_eq_some_iff]at e⊢;obtain⟨a,h1,U⟩:=e;exact⟨a,SV.dens_mono h l a h1,U⟩
theorem SV.dens_mono (h:ρ.le ca):∀(l:List SV)(xs:List Value),SV.dens ρ E l=some xs->SV.dens ca E l=some xs
 |[],_,e=>e
 | x::l,xs,e=>by
   obtain⟨v,ws,rfl,h1,U⟩:=QF e;exact Cv (SV.den_mono h x v h1) (SV.dens_mono h l ws U)
end
theorem zd:∀{l:List SV} {vs:List Value},SV.dens ρ E l=some vs->vs.length=l.length
 |[],vs,h=>by cases h;rfl
 | x::l,vs,h=>by
   obtain⟨v,ws,rfl,h1,U⟩:=QF h;simp[zd U]
theorem zD:∀{l:List SV} {vs:List Value} {i:Nat} {x:SV},SV.dens ρ E l=some vs->l[i]? =some x->∃y,vs[i]? =some y/\x.den ρ E=some y
 |[],_,_,_,_,U=>by simp at U
 | a::l,vs,i,x,h,U=>by
   obtain⟨v,ws,rfl,h1,h2⟩:=QF h;cases i with
   |zero=>simp at U;subst U;exact⟨v,rfl,h1⟩
   |succ i=>simpa using zD h2 (cv U)
theorem P5:∀{l m:List SV} {vs ws:List Value},SV.dens ρ E l=some vs->SV.dens ρ E m=some ws->SV.dens ρ E (l++m)=some (vs++ws)
 |[],m,vs,ws,h,k=>by cases h;exact k
 | x::l,m,vs,ws,h,k=>by
   obtain⟨v,us,rfl,h1,U⟩:=QF h;exact Cv h1 (P5 U k)
theorem QbN:∀{l:List SV} {vs:List Value} (k:Nat),SV.dens ρ E l=some vs->SV.dens ρ E (l.take k)=some (vs.take k)
 |[],vs,k,h=>by cases h;simp[SV.dens]
 |x::l,vs,0,h=>by simp[SV.dens]
 | x::l,vs,k+1,h=>by
   obtain⟨v,us,rfl,h1,U⟩:=QF h;simpa using Cv h1 (QbN k U)
theorem QbM:∀{l:List SV} {vs:List Value} (k:Nat),SV.dens ρ E l=some vs->SV.dens ρ E (l.drop k)=some (vs.drop k)
 |[],vs,k,h=>by cases h;simp[SV.dens]
 |x::l,vs,0,h=>by simpa using h
 | x::l,vs,k+1,h=>by
   obtain⟨v,us,rfl,h1,U⟩:=QF h;simpa using QbM k U
theorem xy:∀(l:List Value),SV.dens ρ E (l.map .v)=some l
 |[]=>rfl
 |x::l=>Cv (x:=.v x) rfl (xy l)
theorem zF:∀{l:List SV} {vs:List Value},SV.dens ρ E l=some vs->∀u∈vs,∃x∈l,x.den ρ E=some u
 |[],vs,h,u,hu=>by cases h;cases hu
 | x::l,vs,h,u,hu=>by
   obtain⟨v,ws,rfl,h1,U⟩:=QF h;rcases List.mem_cons.1 hu with rfl|hu;· exact⟨x,ax,h1⟩
   ·obtain⟨y,hy,h3⟩:=zF U u hu;exact⟨y,by simp[hy],h3⟩
def SV.of:Value->SV
 | .agg cs=>.agg (cs.toList.map .v)
 |x=>.v x
theorem SV.of_den (x:Value):(SV.of x).den ρ E=some x:=by
 unfold SV.of;split;· simp[SV.den,xy]
 · rfl
def SV.cells:SV->List SV
 | .agg l=>l
 | .v (.agg cs)=>cs.toList.map .v
 |x=>[x]
theorem SV.cells_den {v:SV} {x:Value} (h:v.den ρ E=some x)(ho:∀i,v≠.opq i):SV.dens ρ E v.cells=some x.cells.toList:=by
 cases v with
 | v y=>
   cases h;unfold SV.cells;split;· rename_i e;cases e
   · rename_i e;cases e;simp[Value.cells,xy]
   ·rename_i h1 U
    have:x.cells=#[x]:=by
     unfold Value.cells;split;· rename_i cs;exact absurd rfl (U cs)
     · rfl
    rw[this];exact Cv rfl rfl
 |opq i=>exact absurd rfl (ho i)
 | agg l=>
   simp only[SV.den,Option.map_eq_some_iff]at h;obtain⟨vs,h1,rfl⟩:=h;simpa[SV.cells,Value.cells]using h1
 | ptr g off=>
   have h':=h;simp only[SV.den,Option.map_eq_some_iff]at h;obtain⟨a,h1,rfl⟩:=h;exact Cv h' rfl
 | sl g off len cap own=>
   have h':=h;simp only[SV.den,Option.map_eq_some_iff]at h;obtain⟨a,h1,rfl⟩:=h;exact Cv h' rfl
 | mp g=>
   have h':=h;simp only[SV.den,Option.map_eq_some_iff]at h;obtain⟨a,h1,rfl⟩:=h;exact Cv h' rfl
 | fn f fi l=>
   have h':=h;obtain⟨us,vs,h1,U,rfl⟩:=sK h;exact Cv h' rfl
 | tup l=>
   have h':=h;simp only[SV.den,Option.map_eq_some_iff]at h;obtain⟨a,h1,rfl⟩:=h;exact Cv h' rfl
def SV.isOpq:SV->Bool
 | .opq _=>true
 |_=>false
def SV.one:SV->Bool
 | .v x=>x.oneCell'
 | .ptr _ _=>true
 | .sl _ _ _ _ _=>true
 | .mp _=>true
 | .fn _ _ _=>true
 |_=>false
theorem SV.one_den {v:SV} {x:Value} (h:v.den ρ E=some x)(h1:v.one=true):x.oneCell'=true:=by
 cases v with
 |v y=>cases h;exact h1
 |ptr g off=>simp only[SV.den,Option.map_eq_some_iff]at h;obtain⟨a,_,rfl⟩:=h;rfl
 |sl g off len cap own=>simp only[SV.den,Option.map_eq_some_iff]at h;obtain⟨a,_,rfl⟩:=h;rfl
 |mp g=>simp only[SV.den,Option.map_eq_some_iff]at h;obtain⟨a,_,rfl⟩:=h;rfl
 |fn f U l=>obtain⟨us,vs,_,_,rfl⟩:=sK h;rfl
 |_=>cases h1
theorem na {l:List SV} {vs:List Value} (h:SV.dens ρ E l=some vs)(h1:l.all SV.one=true):∀u∈vs,u.oneCell'=true:=λu hu=>by
 obtain⟨x,hx,U⟩:=zF h u hu;exact SV.one_den U (List.all_eq_true.1 h1 x hx)
end den
inductive Tr where
 |nil
 |node (l:Tr) (x:Option SV) (r:Tr)
noncomputable def Tr.get (t:Tr):Nat->Option SV:=Tr.rec (motive:=λ_=>Nat->Option SV) (λ_=>none) (λ_ x _ U gr k=>Bool.rec (Bool.rec (gr (Nat.sub (Nat.div k 2) 1)) (U (Nat.div k 2)) (Nat.beq (Nat.mod k 2) 1)) x (Nat.beq k 0)) t
noncomputable def Tr.set (v:SV)(f:Nat):Tr->Nat->Tr:=Nat.rec (motive:=λ_=>Tr->Nat->Tr) (λt _=>t) (λ_ U t k=>Tr.rec (motive:=λ_=>Tr)
 (Bool.rec (Bool.rec (.node .nil none (U .nil (Nat.sub (Nat.div k 2) 1))) (.node (U .nil (Nat.div k 2)) none .nil) (Nat.beq (Nat.mod k 2) 1)) (.node .nil (some v) .nil) (Nat.beq k 0))
 (λl x r _ _=>Bool.rec (Bool.rec (.node l x (U r (Nat.sub (Nat.div k 2) 1))) (.node (U l (Nat.div k 2)) x r) (Nat.beq (Nat.mod k 2) 1)) (.node l (some v) r) (Nat.beq k 0)) t) f
theorem LO {a b:Nat} (h:Nat.beq a b=false):a≠b:=λe=>by rw[e,Nat.beq_refl]at h;cases h
theorem Qo {a b:Nat} (h:Nat.beq a b=true):a=b:=Nat.eq_of_beq_eq_true h
theorem Tr.get_node {l r:Tr} {x:Option SV} {k:Nat}:(Tr.node l x r).get k=if k=0 then x else if k%2=1 then l.get (k/2)else r.get (k/2-1):=by
 show(Bool.rec (motive:=λ_=>Option SV) (Bool.rec (motive:=λ_=>Option SV) (r.get (k/2-1)) (l.get (k/2)) (Nat.beq (k%2) 1)) x (Nat.beq k 0))=_;cases U:Nat.beq k 0 with
 |true=>have:=Qo U;subst this;rfl
 | false=>
   rw[if_neg (LO U)];cases h1:Nat.beq (k%2) 1 with
   |true=>rw[if_pos (Qo h1)]
   |false=>rw[if_neg (LO h1)]
theorem Tr.set_node {v:SV} {f:Nat} {l r:Tr} {x:Option SV} {k:Nat}:Tr.set v (f+1) (.node l x r) k=if k=0 then .node l (some v) r else if k%2=1 then .node (Tr.set v f l (k/2)) x r else .node l x (Tr.set v f r (k/2-1)):=by
 show(Bool.rec (motive:=λ_=>Tr) (Bool.rec (motive:=λ_=>Tr) (.node l x (Tr.set v f r (k/2-1))) (.node (Tr.set v f l (k/2)) x r) (Nat.beq (k%2) 1)) (.node l (some v) r) (Nat.beq k 0))=_;cases U:Nat.beq k 0 with
 |true=>have:=Qo U;subst this;rfl
 | false=>
   rw[if_neg (LO U)];cases h1:Nat.beq (k%2) 1 with
   |true=>rw[if_pos (Qo h1)]
   |false=>rw[if_neg (LO h1)]
theorem Tr.set_nil {v:SV} {f:Nat} {k:Nat}:Tr.set v (f+1) .nil k=Tr.set v (f+1) (.node .nil none .nil) k:=rfl
theorem Tr.nil_get {k:Nat}:Tr.nil.get k=(Tr.node .nil none .nil).get k:=by
 rw[Tr.get_node];have:∀j,Tr.nil.get j=none:=λ_=>rfl
 simp[this]
theorem Tr.get_set {v:SV}:∀(f:Nat) (t:Tr) (k j:Nat),k+1<2^f->(Tr.set v f t k).get j=if j=k then some v else t.get j
 |0,_,k,_,h=>by simp at h
 | f + 1,t,k,j,h=>by
   have key:∀l x r,(Tr.set v (f+1) (.node l x r) k).get j=if j=k then some v else(Tr.node l x r).get j:=by
    intro l x r;rw[Nat.pow_succ]at h;rw[Tr.set_node];by_cases h0:k=0
    ·subst h0;rw[if_pos rfl,Tr.get_node,Tr.get_node];by_cases U:j=0<;>simp[U]
    ·rw [if_neg h0];by_cases h1:k%2=1
     ·rw [if_pos h1,Tr.get_node,Tr.get_node,Tr.get_set f _ _ _ an];by_cases U:j=0;· rw[if_pos U,if_pos U,if_neg an]
      ·rw [if_neg U,if_neg U];by_cases NL:j%2=1
       ·rw[if_pos NL,if_pos NL];by_cases e:j=k;· subst e;simp
        · rw[if_neg an,if_neg e]
       · rw[if_neg NL,if_neg NL,if_neg an]
     ·rw [if_neg h1,Tr.get_node,Tr.get_node,Tr.get_set f _ _ _ an];by_cases U:j=0;· rw[if_pos U,if_pos U,if_neg an]
      ·rw [if_neg U,if_neg U];by_cases NL:j%2=1;· rw[if_pos NL,if_pos NL,if_neg an]
       ·rw[if_neg NL,if_neg NL];by_cases e:j=k;· subst e;simp
        · rw[if_neg an,if_neg e]
   cases t with
   |nil=>rw[Tr.set_nil,Tr.nil_get];exact key _ _ _
   |node l x r=>exact key l x r
noncomputable def Tr.put (t:Tr)(k:Nat)(v:SV):Tr:=Tr.set v 14 t k
inductive HO where
 |blk (cs:List SV) (ty:Nat)
 |row (cs:List SV) (n sz ty:Nat)
 |mp (es:List (SV×SV×Nat)) (clock:Nat)
 |it (m:Option Nat) (since:Nat) (seen:List Nat) (jT:Nat)
 |ro (cs:List SV)
abbrev di:=List (Nat×HO)
theorem yf {w U:World} {e sz b n cap:Nat} {xs:List Value} (h:w.ownsRow 0 e sz (.slice (some ⟨b,0,none⟩) n cap) n xs)(hb:U.heap[b]? =w.heap[b]?):U.ownsRow 0 e sz (.slice (some ⟨b,0,none⟩) n cap) n xs:=by
 refine⟨h.1,?_⟩;rcases h.2 with⟨h0,_⟩|⟨g,c,cur,hv,h1,h2,h3⟩
 · cases h0
 · cases hv;exact .inr ⟨_,_,cur,rfl,h1,hb.trans h2,h3⟩
def yk (e sz b n cap:Nat)(xs:List Value):Fact:=
 .raw (λN w=>N b/\w.ownsRow 0 e sz (.slice (some ⟨b,0,none⟩) n cap) n xs) (λU ha h=>⟨U _ h.1,yf h.2 (ha _ h.1)⟩)
def a03 (b:Nat)(o:Obj):Fact:=.raw (λN w=>N b/\w.heap[b]? =some o) (λU ha h=>⟨U _ h.1,(ha _ h.1).trans h.2⟩)
def Ss (b:Nat)(vs:List Value):Fact:=.raw (λN w=>N b/\py w b 0 vs) (λU ha h=>⟨U _ h.1,h.2.agree ha h.1⟩)
def jf (ρ:Env)(E:List Value):List (SV×SV×Nat)->List MapEntry->Prop
 |[],[]=>True
 |(k,v,b)::r,e::s=>k.den ρ E=some e.key/\v.den ρ E=some e.val/\b=e.born/\jf ρ E r s
 |_,_=>False
def IterM (ρ:Env):Option Nat->Option Nat->Prop
 |none,none=>True
 |some g,some b=>∃c,ρ g=some (b,c,0)
 |_,_=>False
def HO.isFact (ρ:Env)(E:List Value)(g:Nat):HO->Fact->Prop
 | .blk cs ty,φ=>∃b c vs,ρ g=some (b,c,0)/\SV.dens ρ E cs=some vs/\φ=.blk b vs ty
 | .row cs n sz ty,φ=>∃b c vs,ρ g=some (b,c,0)/\SV.dens ρ E cs=some vs/\φ=yk ty sz b n c vs
 | .mp es clock,φ=>∃b c U,ρ g=some (b,c,0)/\jf ρ E es U/\φ=a03 b (.map U.toArray clock)
 | .it m since seen jT,φ=>∃b c bm,ρ g=some (b,c,0)/\IterM ρ m bm/\φ=a03 b (.mapIter bm since seen.toArray jT)
 | .ro cs,φ=>∃b c vs,ρ g=some (b,c,0)/\SV.dens ρ E cs=some vs/\φ=Ss b vs
def iH (ρ:Env)(E:List Value):di->List Fact->Prop
 |[],[]=>True
 |(g,o)::r,φ::H=>o.isFact ρ E g φ/\iH ρ E r H
 |_,_=>False
noncomputable def kB (hp:di)(k:Nat):Option HO:=List.rec (motive:=λ_=>Option HO) none (λp _ U=>Bool.rec U (some p.2) (Nat.beq p.1 k)) hp
theorem Gv {g k:Nat} {o:HO} {r:di}:kB ((g,o)::r) k=match Nat.beq g k with
  |true=>some o
  |false=>kB r k:=by
 show(Bool.rec (motive:=λ_=>Option HO) (kB r k) (some o) (Nat.beq g k))=_;cases Nat.beq g k<;>rfl
def xU:di->Nat->HO->di
 |[],_,_=>[]
 | (g,o)::r,k,U=>match Nat.beq g k with
   |true=>(g,U)::r
   |false=>(g,o)::xU r k U
def GF:di->Nat->Nat->HO->di
 |[],_,_,_=>[]
 | (g,o)::r,k,U,o'=>match Nat.beq g k with
   |true=>(U,o')::r
   |false=>(g,o)::GF r k U o'
section heap
variable {ρ ca:Env} {E:List Value}
theorem IterM.mono (h:ρ.le ca) {m U:Option Nat} (hm:IterM ρ m U):IterM ca m U:=by
 cases m<;>cases U<;>first|exact hm|(obtain⟨c,hc⟩:=hm;exact⟨c,h _ _ hc⟩)
theorem jf.mono (h:ρ.le ca):∀{l:List (SV×SV×Nat)} {m:List MapEntry},jf ρ E l m->jf ca E l m
 |[],[],_=>trivial
 |(_,_,_)::_,_::_,U=>⟨SV.den_mono h _ _ U.1,SV.den_mono h _ _ U.2.1,U.2.2.1,jf.mono h U.2.2.2⟩
 |[],_::_,U=>U.elim
 |_::_,[],U=>U.elim
theorem HO.isFact_mono (h:ρ.le ca) {g:Nat} {o:HO} {φ:Fact} (hf:o.isFact ρ E g φ):o.isFact ca E g φ:=by
 cases o with
 |blk cs ty=>obtain⟨b,c,vs,h1,U,h3⟩:=hf;exact⟨b,c,vs,h _ _ h1,SV.dens_mono h _ _ U,h3⟩
 |row cs n sz ty=>obtain⟨b,c,vs,h1,U,h3⟩:=hf;exact⟨b,c,vs,h _ _ h1,SV.dens_mono h _ _ U,h3⟩
 |mp es c=>obtain⟨b,c',Ni,h1,U,h3⟩:=hf;exact⟨b,c',Ni,h _ _ h1,U.mono h,h3⟩
 |it m since seen jT=>obtain⟨b,c,bm,h1,U,h3⟩:=hf;exact⟨b,c,bm,h _ _ h1,IterM.mono h U,h3⟩
 |ro cs=>obtain⟨b,c,vs,h1,U,h3⟩:=hf;exact⟨b,c,vs,h _ _ h1,SV.dens_mono h _ _ U,h3⟩
theorem iH.mono (h:ρ.le ca):∀{hp:di} {H:List Fact},iH ρ E hp H->iH ca E hp H
 |[],[],_=>trivial
 |(_,_)::_,_::_,U=>⟨HO.isFact_mono h U.1,iH.mono h U.2⟩
 |[],_::_,U=>U.elim
 |_::_,[],U=>U.elim
theorem MF:∀{hp:di} {H:List Fact} {g:Nat} {o:HO},iH ρ E hp H->kB hp g=some o->
   ∃k φ,H[k]? =some φ/\o.isFact ρ E g φ/\(∀ca o' φ',ρ.le ca->o'.isFact ca E g φ'->iH ca E (xU hp g o') (H.set k φ'))/\(∀ca g' o' φ',ρ.le ca->o'.isFact ca E g' φ'->iH ca E (GF hp g g' o') (H.set k φ'))
 |[],_,_,_,_,h=>by cases h
 |(g',o')::r,[],_,_,U,_=>U.elim
 | (g',o')::r,φ::H,g,o,U,h=>by
   rw[Gv]at h;cases hb:Nat.beq g' g with
   | true=>
     simp only[hb,Option.some.injEq]at h;subst h;have:=Qo hb;subst this;refine⟨0,φ,rfl,U.1,λca o2 φ2 hle h2=>?_,λca g2 o2 φ2 hle h2=>?_⟩;· simp only[xU,hb];exact⟨h2,iH.mono hle U.2⟩
     · simp only[GF,hb];exact⟨h2,iH.mono hle U.2⟩
   | false=>
     simp only[hb]at h;obtain⟨k,ψ,h1,h2,h3,h4⟩:=MF U.2 h;refine⟨k+1,ψ,by simpa using h1,h2,λca o2 φ2 hle h5=>?_,λca g2 o2 φ2 hle h5=>?_⟩;· simp only[xU,hb];exact⟨HO.isFact_mono hle U.1,h3 ca o2 φ2 hle h5⟩
     · simp only[GF,hb];exact⟨HO.isFact_mono hle U.1,h4 ca g2 o2 φ2 hle h5⟩
def HO.cs:HO->Option (List SV)
 | .blk cs _=>some cs
 | .row cs _ _ _=>some cs
 | .ro cs=>some cs
 |_=>none
theorem uO {w:World} {e sz b n cap:Nat} {xs:List Value} (h:w.ownsRow 0 e sz (.slice (some ⟨b,0,none⟩) n cap) n xs):py w b 0 xs:=λj u hu=>by
 have:=h.cells (g:=b) rfl j u hu;rw[Ed]at this;exact this
theorem HO.cells_at {o:HO} {g:Nat} {φ:Fact} {cs:List SV} (hf:o.isFact ρ E g φ)(hc:o.cs=some cs):∃b c vs,ρ g=some (b,c,0)/\SV.dens ρ E cs=some vs/\∀N F w,φ.op N F w->py w b 0 vs:=by
 cases o with
 | blk yU ty=>
   cases hc;obtain⟨b,c,vs,h1,U,rfl⟩:=hf;exact⟨b,c,vs,h1,U,λN F w h=>XG h.2⟩
 | row yU n sz ty=>
   cases hc;obtain⟨b,c,vs,h1,U,rfl⟩:=hf;exact⟨b,c,vs,h1,U,λN F w h=>uO h.2⟩
 | ro yU=>
   cases hc;obtain⟨b,c,vs,h1,U,rfl⟩:=hf;exact⟨b,c,vs,h1,U,λN F w h=>h.2⟩
 |mp es c=>cases hc
 |it m since seen jT=>cases hc
def mg (ρ:Env)(lo hi:Nat):Prop:=∀g,lo<=g->g<hi->ρ g=none
structure Ext (ρ ca:Env) (lo hi:Nat):Prop where
 le:ρ.le ca
 out:∀g,ρ g=none->g<lo\/hi<=g->ca g=none
theorem Ext.refl (ρ:Env)(lo hi:Nat):Ext ρ ρ lo hi:=⟨λ_ _ h=>h,λ_ h _=>h⟩
theorem Ext.trans {ρ ca U:Env} {lo dv hi eo:Nat} (h:Ext ρ ca lo hi)(k:Ext ca U dv eo)(hl:lo<=dv)(hh:eo<=hi):Ext ρ U lo hi:=
 ⟨λg e he=>k.le g e (h.le g e he),λg hg ho=>k.out g (h.out g hg ho) an⟩
def Env.put (ρ:Env)(g:Nat)(e:Nat×Nat×Nat):Env:=λk=>if k=g then some e else ρ k
theorem Env.put_ext {ρ:Env} {g hi:Nat} {e:Nat×Nat×Nat} (hg:ρ g=none)(U:g<hi):Ext ρ (ρ.put g e) g hi:=
 ⟨λk x hk=>by unfold Env.put;split<;>simp_all,λk hk ho=>by unfold Env.put;rw[if_neg an];exact hk⟩
theorem Env.put_same {ρ:Env} {g:Nat} {e:Nat×Nat×Nat}:(ρ.put g e) g=some e:=by simp[Env.put]
theorem Env.put_free {ρ:Env} {g hi:Nat} {e:Nat×Nat×Nat} (h:mg ρ g hi):mg (ρ.put g e) (g+1) hi:=λk h1 U=>by unfold Env.put;rw[if_neg an];exact h k an U
end heap
structure Rel (ρ:Env) (E:List Value) (fr:Tr) (hp:di) (S:List (Nat×Value)) (H:List Fact):Prop where
 fr:∀k v,fr.get k=some v->∃x,v.den ρ E=some x/\look S k=some x
 hp:iH ρ E hp H
theorem Y0 {d k:Nat} (U:k≠d):∀{S:List (Nat×Value)},look (eL d S) k=look S k
 |[]=>rfl
 | (j,v)::r=>by
   unfold eL;split
   ·rename_i hb;have:=Qo hb;subst this;have:Nat.beq j k=false:=by cases h:Nat.beq j k with|false=>rfl|true=>exact absurd (Qo h).symm U
    simp only[look,this];exact Y0 U
   ·simp only[look];cases Nat.beq j k with
    |true=>rfl
    |false=>exact Y0 U
theorem Rel.put {ρ ca:Env} {E:List Value} {fr:Tr} {hp dc:di} {S:List (Nat×Value)} {H H':List Fact} (h:Rel ρ E fr hp S H)(hle:ρ.le ca) {d:Nat} {v:SV} {x:Value} (hd:d+1<2^14)(hv:v.den ca E=some x)(hH:iH ca E dc H'):
  Rel ca E (fr.put d v) dc ((d,x)::eL d S) H':=by
 refine⟨λk u hk=>?_,hH⟩;unfold Tr.put at hk;rw[Tr.get_set 14 _ _ _ hd]at hk;split at hk
 ·rename_i e;subst e;cases hk;exact⟨x,hv,by simp[look]⟩
 ·rename_i U;obtain⟨y,h1,h2⟩:=h.fr k u hk;refine⟨y,SV.den_mono hle _ _ h1,?_⟩;have:Nat.beq d k=false:=by cases hb:Nat.beq d k with|false=>rfl|true=>exact absurd (Qo hb).symm U
  simp only[look,this];rw[Y0 U];exact h2
theorem Rel.mono {ρ ca:Env} {E:List Value} {fr:Tr} {hp U:di} {S:List (Nat×Value)} {H H':List Fact} (h:Rel ρ E fr hp S H)(hle:ρ.le ca)(hH:iH ca E U H'):Rel ca E fr U S H':=
 ⟨λk u hk=>by obtain⟨y,h1,h2⟩:=h.fr k u hk;exact⟨y,SV.den_mono hle _ _ h1,h2⟩,hH⟩
end
end
end Go.Proofs.YtocfkfhdcnjklaaGreatDoor
