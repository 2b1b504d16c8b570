import Derived.Test.YtocfkfhdcnjklaaGreatDoorCeH
import Derived.LaidEql
import Derived.RangeFuncRecord
import Derived.RangeFuncLeaves
import Derived.Test.YtocfkfhdcnjklaaGreatDoorChecked
import Derived.Shelf.SlSortCmp.Whole1
import Derived.Shelf.SlSortCmp.WholeK
import Derived.Shelf.SlSortCmp.NoneTotal
import Derived.Ground.SlsfProg
import Derived.Test.YtocfkfhdcnjklaaGreatDoorProg
import Derived.ProofKit
import Derived.OpenShut
import Derived.Deep.Slices
import Derived.Deep.Fields
import Derived.Deep.Strs
import Derived.Lib.SmallJoins
open List renaming getElem?_eq_some_iff->d',getElem?_map->g',getElem?_append_right->j',mem_append->q',mem_map->r',mem_iff_getElem?->u',reverse_cons->v',append_assoc->x',getElem?_append_left->y',getElem?_eq_getElem->C',mem_or_eq_of_mem_set->F',nodup_append->G',map_cons->I',mem_of_mem_eraseIdx->J',getElem_mem->K',getElem?_set_self->L',map_set->M',nodup_cons->O',eraseIdx_sublist->P',set_append_right->Q',mem_of_getElem?->R',filter_eq_self->T',length_reverse->U',mem_singleton->V',map_toArray->Z',length_set->b!,map_append->d!
open Nat renaming le_trans->f',le_refl->h',le_of_ble_eq_true->p',lt_irrefl->z',blt->D',beq->X',beq_refl->Y',le_succ->e!
open Array renaming getElem?_setIfInBounds->l',getElem?_eq_some_iff->n'
open Bool renaming and_eq_true->a!
open Option renaming map_some->c!
namespace Go.Proofs.YtocfkfhdcnjklaaGreatDoor
section
open Go Go.RowKit
structure HV (α Λ:Type) where
 C:α->Λ->List Value
 G:α->Λ->List Fact
 one:∀x r,∀u∈C x r,u.oneCell'=true
def HV.pair {α Λ:Type} (T:HV α Λ):fq (α×Λ):=⟨λ_ _ cs z=>cs=T.C z.1 z.2,λ_ _ h=>h,λh u hu=>T.one _ _ u (h▸hu)⟩
def nR:List Fact->ep->ep->World->Prop
 |[],_,_,_=>True
 |φ::l,N,F,w=>∃A B:ep,(∀q,A q->N q)/\(∀q,B q->N q/\¬A q)/\φ.op A F w/\nR l B F w
theorem nR.good:∀{l:List Fact} {N N' F G:ep} {w w':World},(∀k,N k->N' k)->ia N w w'->(∀k,F k->G k)->ia F w w'->nR l N F w->nR l N' G w'
 |[],_,_,_,_,_,_,_,_,_,_,_=>trivial
 | φ::l,N,N',F,G,w,w',hN,ha,hF,hb,⟨A,B,h1,h2,h3,h4⟩=>
   ⟨A,B,λq U=>hN q (h1 q U),λq U=>⟨hN q (h2 q U).1,(h2 q U).2⟩,φ.opgood (λ_ h=>h) (λq U=>ha q (h1 q U)) hF hb h3,nR.good (λ_ h=>h) (λq U=>ha q (h2 q U).1) hF hb h4⟩
def jJ (l:List Fact):Fact:=.duo (λN F w=>nR l N F w) nR.good
def YT {α Λ:Type} (T:HV α Λ)(zs:List (α×Λ))(o:Option Nat)(N F:ep)(w:World):Prop:=
 ∃U:Nat->ep,(∀i q,U i q->N q)/\(∀i j q,i≠j->U i q->¬U j q)/\∀i z,zs[i]? =some z->o≠some i->nR (T.G z.1 z.2) (U i) F w
section
variable {α Λ:Type} {T:HV α Λ} {zs:List (α×Λ)} {o:Option Nat}
theorem YT.good {N N' F G:ep} {w w':World} (hN:∀k,N k->N' k)(ha:ia N w w')(hF:∀k,F k->G k)(hb:ia F w w')(h:YT T zs o N F w):YT T zs o N' G w':=by
 obtain⟨Ns,h1,h2,h3⟩:=h;exact⟨Ns,λi q U=>hN q (h1 i q U),h2,λi z hz ho=>(h3 i z hz ho).good (λ_ h=>h) (λq U=>ha q (h1 i q U)) hF hb⟩
def wm (T:HV α Λ)(zs:List (α×Λ))(o:Option Nat):Fact:=.duo (λN F w=>YT T zs o N F w) YT.good
def xc (T:HV α Λ)(e sz:Nat)(v:Value)(xs:List α)(N F:ep)(w:World):Prop:=
 ∃(zs:List (α×Λ)) (A B:ep),zs.map (·.1)=xs/\(∀q,A q->N q)/\(∀q,B q->N q/\¬A q)/\(Fact.own e sz T.pair v zs).op A F w/\(wm T zs none).op B F w
theorem xc.good {e sz:Nat} {v:Value} {xs:List α} {N N' F G:ep} {w w':World} (hN:∀k,N k->N' k)(ha:ia N w w')(hF:∀k,F k->G k)(hb:ia F w w')(h:xc T e sz v xs N F w):xc T e sz v xs N' G w':=by
 obtain⟨zs,A,B,h0,h1,h2,h3,h4⟩:=h;exact⟨zs,A,B,h0,λq U=>hN q (h1 q U),λq U=>⟨hN q (h2 q U).1,(h2 q U).2⟩,Fact.opgood _ (λ_ h=>h) (λq U=>ha q (h1 q U)) hF hb h3,Fact.opgood _ (λ_ h=>h) (λq U=>ha q (h2 q U).1) hF hb h4⟩
def zd (T:HV α Λ)(e sz:Nat)(v:Value)(xs:List α):Fact:=.duo (λN F w=>xc T e sz v xs N F w) xc.good
end
section
variable {C:Ctx} {Φ:List Fact} {w:World}
theorem Ql.stars:∀{l H:List Fact},Ql C Φ (jJ l::H) w->Ql C Φ (l.reverse++H) w
 |[],H,h=>h.drop 0 ax rfl
 | φ::l,H,h=>by
   have h1:∃_:Unit,Ql C Φ (jJ l::(jJ (φ::l)::H).set 0 φ) w:=h.split (φ1:=λ_=>φ) (φ2:=λ_=>jJ l) 0 rfl (λN F ⟨A,B,h1,h2,h3,h4⟩=>⟨(),B,A,λq U=>(h2 q U).1,λq U=>⟨h1 q U,λhb=>(h2 q hb).2 U⟩,h3,h4⟩);obtain⟨_,h1⟩:=h1;have h3:=Ql.stars (H:=φ::H) h1;rw[v',x'];exact h3
theorem Ql.starsUp:∀{l H:List Fact},Ql C Φ (l.reverse++H) w->Ql C Φ (jJ l::H) w
 |[],H,⟨F,N,hi⟩=>⟨F,_,hi.push (jJ []) (λ_=>False) trivial (λk hk=>hk.elim) (λ_ k _ hk=>hk.elim)⟩
 | φ::l,H,h=>by
   rw[v',x']at h;have h1:=Ql.starsUp (H:=φ::H) h;exact h1.join (φ:=jJ (φ::l)) 0 1 bf rfl rfl (λA B F ha hb hd=>⟨B,A,λq U=>.inr U,λq U=>⟨.inl U,hd q U⟩,hb,ha⟩)
variable {H:List Fact} {α Λ:Type} {T:HV α Λ} {zs:List (α×Λ)} {x:α} {r:Λ}
theorem Ql.bagPush (h:Ql C Φ ((T.G x r).reverse++H) w)(j:Nat)(hj:H[j]? =some (wm T zs none)):Ql C Φ (H.set j (wm T (zs++[(x,r)]) none)) w:=by
 have h1:=h.starsUp;refine h1.join (φ:=wm T (zs++[(x,r)]) none) (φ1:=wm T zs none) (φ2:=jJ (T.G x r)) (j+1) 0 an (cx hj) rfl ?_
 ·intro A B F ha hb hd;obtain⟨Ns,a1,a2,a3⟩:=ha
  exact ⟨λk q=>(k=zs.length/\B q)\/(k<zs.length/\Ns k q),λk q U=>U.elim (λU=>.inr U.2) (λU=>.inl (a1 k q U.2)),
   fun k k' q de U ef=>by
    rcases U with U|U<;>rcases ef with ef|ef;· exact de (U.1.trans ef.1.symm)
    · exact hd q (a1 k' q ef.2) U.2
    · exact hd q (a1 k q U.2) ef.2
    · exact a2 k k' q de U.2 ef.2,
   fun k z hk _=>by
    by_cases e:k<zs.length
    ·rw[y' e]at hk;exact(a3 k z hk ax).good (λq U=>.inr ⟨e,U⟩) (ia.refl _ _) (λ_ h=>h) (ia.refl _ _)
    ·have ly:k=zs.length:=by
      have:=(d'.1 hk).1;simp at this;omega
     subst ly;rw[j' (h' _)]at hk;simp at hk;subst hk;exact nR.good (λq U=>.inl ⟨rfl,U⟩) (ia.refl _ _) (λ_ h=>h) (ia.refl _ _) hb⟩
theorem Ql.as_ {φ φ':Fact} (h:Ql C Φ H w)(k:Nat)(hk:H[k]? =some φ)(hs:∀N F,φ.op N F w->φ'.op N F w):Ql C Φ (H.set k φ') w:=by
 obtain⟨F,N,hi⟩:=h;have U:=(d'.1 hk).1;exact⟨F,N,hi.set k U (Mod.refl _ _) φ' (hs _ _ (hi.owns k φ hk))⟩
theorem Ql.treeOut {e sz:Nat} {v:Value} {xs:List α} (h:Ql C Φ H w)(j:Nat)(hj:H[j]? =some (zd T e sz v xs)):∃zs:List (α×Λ),zs.map (·.1)=xs/\Ql C Φ (wm T zs none::H.set j (.own e sz T.pair v zs)) w:=by
 obtain ⟨r,h1⟩:=h.split (Λ:={zs:List (α×Λ)//zs.map (·.1)=xs}) (φ1:=λr=>.own e sz T.pair v r.1) (φ2:=λr=>wm T r.1 none) j hj (λN F ⟨zs,A,B,h0,h1,h2,h3,h4⟩=>
  ⟨⟨zs,h0⟩,B,A,λq U=>(h2 q U).1,λq U=>⟨h1 q U,λhn=>(h2 q hn).2 U⟩,h3,h4⟩)
 exact⟨r.1,r.2,h1⟩
theorem Ql.treeIn {e sz:Nat} {v:Value} {xs:List α} (h:Ql C Φ H w)(j k:Nat)(de:X' j k=false)(hj:H[j]? =some (.own e sz T.pair v zs))(hk:H[k]? =some (wm T zs none))(hx:zs.map (·.1)=xs):Ql C Φ ((H.set j (zd T e sz v xs)).eraseIdx k) w:=
 h.join (φ:=zd T e sz v xs) j k (λe=>by rw[e,Y']at de;cases de) hj hk (λA B F ha hb hd=>⟨zs,A,B,hx,λq U=>.inl U,λq U=>⟨.inr U,λhn=>hd q hn U⟩,ha,hb⟩)
theorem Ql.letgo {e sz:Nat} {v:Value} {xs:List α} {R:fq α} (hR:∀x r N F w,nR (T.G x r) N F w->R.p (λq=>N q\/F q) w (T.C x r) x)(h:Ql C Φ H w)(j:Nat)(hj:H[j]? =some (zd T e sz v xs)):Ql C Φ (H.set j (.own e sz R v xs)) w:=by
 obtain⟨F,N,hi⟩:=h;have bp:=(d'.1 hj).1;obtain⟨zs,A,B,h0,h1,h2,h3,h4⟩:xc T e sz v xs (N j) F w:=hi.owns j _ hj
 have gw:(Fact.own e sz R v xs).op A (λq=>B q\/F q) w:=by
  subst h0;obtain⟨h5,ys,ho,hc⟩:=h3;obtain⟨Ns,h6,h7,h8⟩:=h4;refine⟨h5,ys,by simpa using ho,?_⟩
  have go:∀(zs:List (α×Λ)) (ys:List Value),(∀z∈zs,∃M:ep,(∀q,M q->B q)/\nR (T.G z.1 z.2) M F w)->hY sz (T.pair.p F w) ys zs->hY sz (R.p (λq=>B q\/F q) w) ys (zs.map (·.1)):=by
   intro zs;induction zs with
   |nil=>intro ys _ h;exact h
   | cons z zs ih=>
     intro ys hM hc;obtain⟨cs,rest,e1,e2,e3,e4⟩:=hc;obtain⟨M,m1,m2⟩:=hM z ax;refine⟨cs,rest,e1,e2,?_,ih rest (λy hy=>hM y (by simp[hy])) e4⟩;have e3:cs=T.C z.1 z.2:=e3;rw[e3];exact R.good (λq U=>U.elim (λU=>.inl (m1 q U)) .inr) (ia.refl _ _) (hR _ _ _ _ _ m2)
  refine go zs ys (λz hz=>?_) hc;obtain⟨i,hi⟩:=List.getElem?_of_mem hz;exact⟨Ns i,h6 i,h8 i z hi ax⟩
 have hF:∀q,F q->(B q\/F q):=λ_ h=>.inr h;refine⟨λq=>B q\/F q,λi=>if i=j then A else N i,λk hk=>?_,λk hk=>.inr (hi.fold k hk),λk hk=>?_,λφ bj=>φ.good hF (ia.refl _ _) (hi.facts φ bj),λi φ bj=>?_,λi k jq hk=>?_,λi i' k jq W8 de hk ec=>?_,hi.mod⟩
 ·rcases hk with hk|hk;· exact(hi.nlt j k bp (h2 k hk).1).1
  · exact hi.flt k hk
 ·rcases hk with hk|hk;· exact .inr (hi.nlt j k bp (h2 k hk).1).2.1
  · exact hi.fnew k hk
 ·by_cases e:i=j
  ·subst e;rw[L' bp]at bj;cases bj;simpa using gw
  ·rw[List.getElem?_set_ne (Ne.symm e)]at bj;simp only[if_neg e];exact φ.opgood (λ_ h=>h) (ia.refl _ _) hF (ia.refl _ _) (hi.owns i φ bj)
 ·rw[b!]at jq;by_cases e:i=j
  ·simp only[if_pos e]at hk;have hn:=hi.nlt j k bp (h1 k hk);exact⟨hn.1,hn.2.1,λU=>U.elim (λU=>(h2 k U).2 hk) hn.2.2⟩
  ·simp only[if_neg e]at hk;have hn:=hi.nlt i k jq hk;exact⟨hn.1,hn.2.1,λU=>U.elim (λU=>hi.apart i j k jq bp e hk (h2 k U).1) hn.2.2⟩
 ·rw[b!]at jq W8;by_cases e:i=j<;>by_cases e':i'=j;· exact de (e.trans e'.symm)
  ·simp only[if_pos e]at hk;simp only[if_neg e']at ec;exact hi.apart j i' k bp W8 (Ne.symm e') (h1 k hk) ec
  ·simp only[if_neg e]at hk;simp only[if_pos e']at ec;exact hi.apart i j k jq bp e hk (h1 k ec)
  ·simp only[if_neg e]at hk;simp only[if_neg e']at ec;exact hi.apart i i' k jq W8 de hk ec
theorem Ql.treeLen {e sz m c:Nat} {p:Option Addr} {xs:List α} (h:Ql C Φ H w)(j:Nat)(U:H[j]? =some (zd T e sz (.slice p m c) xs)):m=xs.length/\(0<xs.length->∃g,p=some ⟨g,0,none⟩):=by
 obtain⟨zs,h0,h1⟩:=h.treeOut j U;have bp:=(d'.1 U).1;have h2:=Un h1 (k:=j+1) (e:=e) (sz:=sz) (R:=T.pair) (p:=p) (m:=m) (cp:=c) (l:=zs) (by simp[L' bp]);have h3:zs.length=xs.length:=by rw[<-h0];simp
 rw[<-h3];exact h2
end
section
variable {α Λ:Type} {T:HV α Λ} {R:fq α} {e sz m c:Nat} {p:Option Addr} {xs:List α} {A F G:ep} {w:World}
theorem WS (h:(Fact.own e sz R (.slice p m c) xs).op A F w)(U:∀q,A q->G q)(hF:∀q,F q->G q):(Fact.sli sz R p c xs).p G w:=vN (Fact.opgood _ U (ia.refl _ _) hF (ia.refl _ _) h)
theorem Ro:(Fact.own e sz R (.slice none 0 0) []).op (λ_=>False) F w:=⟨λk hk=>(by cases hk),nI.nil⟩
theorem Mf:(zd T e sz (.slice none 0 0) []).op (λ_=>False) F w:=⟨[],λ_=>False,λ_=>False,rfl,λ_ h=>h,λ_ h=>h.elim,Ro,λ_ _=>False,λ_ _ h=>h,λ_ _ _ _ h=>h.elim,λi z U=>by simp at U⟩
theorem Mq {zs U:List (α×Λ)} {us:List α} (hz:zs.map (·.1)=xs)(hy:U.map (·.1)=us):(zs++U).map (·.1)=xs++us:=by subst hz;subst hy;simp
theorem uO {zs:List (α×Λ)} (U:zs.map (·.1)=xs):zs.length=xs.length:=by subst U;simp
end
section
variable {C:Ctx} {Φ H:List Fact} {w:World} {α Λ:Type} {T:HV α Λ} {zs:List (α×Λ)} {e sz:Nat} {v:Value}
theorem Ql.treeNil (T:HV α Λ)(e sz:Nat)(h:Ql C Φ H w):Ql C Φ (zd T e sz (.slice none 0 0) []::H) w:=by
 obtain⟨F,N,hi⟩:=h;exact⟨F,_,hi.push (zd T e sz (.slice none 0 0) []) (λ_=>False) Mf (λk hk=>hk.elim) (λ_ k _ hk=>hk.elim)⟩
end
section rules
variable {P:Program} {C:Ctx} {n:FD} {Q:Exit->Act->World->Prop} {Φ Φ':List Fact} {H H':List Fact} {S S':List (Nat×Value)} {ops:Array Oper} {rest:List Oper} {o:Oper} {d:Nat} {c:Code} {e:Exit}
theorem wh (H':List Fact)(hs:∀w,Ql C Φ H w->Ql C Φ H' w)(next:WL P C n Q Φ H' S ops rest):WL P C n Q Φ H S ops rest:=λa w U hw=>next a w U (hs w hw)
theorem a1V (H':List Fact)(hs:∀w,Ql C Φ H w->Ql C Φ H' w)(next:WC P C n Q Φ H' S c):WC P C n Q Φ H S c:=λa w U hw=>next a w U (hs w hw)
variable {α Λ:Type} {T:HV α Λ} {et sz:Nat} {v:Value} {xs:List α}
theorem G6 (j:Nat)(hj:H[j]? =some (zd T et sz v xs))(next:∀zs,zs.map (·.1)=xs->WL P C n Q Φ (wm T zs none::H.set j (.own et sz T.pair v zs)) S ops rest):WL P C n Q Φ H S ops rest:=λa w hf hw=>by
 obtain⟨zs,U,h1⟩:=hw.treeOut j hj;exact next zs U a w hf h1
theorem G5 {p:Option Addr} {m cp:Nat} (j:Nat)(U:H[j]? =some (zd T et sz (.slice p m cp) xs))(next:m=xs.length->(0<xs.length->∃g,p=some ⟨g,0,none⟩)->WL P C n Q Φ H S ops rest):WL P C n Q Φ H S ops rest:=λa w hf hw=>next (hw.treeLen j U).1 (hw.treeLen j U).2 a w hf hw
end rules
end
section
open Go Go.RowKit
section rules
variable {P:Program} {C:Ctx} {n:FD} {Q:Exit->Act->World->Prop} {Φ Φ':List Fact} {H H':List Fact} {S S':List (Nat×Value)} {ops:Array Oper} {rest:List Oper} {o:Oper} {d:Nat}
variable {κ α:Type} [DecidableEq κ] {k:TypeId} {K:tv P k κ} {ag:Bool} {R:fq α} {b g:Nat} {es:List (κ×α)}
theorem ML {w:World} {b:Nat} {o:Obj} (h:w.heap[b]? =some o):{w with heap:=w.heap.setIfInBounds b o}=w:=by
 have:w.heap.setIfInBounds b o=w.heap:=by
  apply Array.ext_getElem?;intro q;rw[l'];split
  ·rename_i e;subst e;split;· exact h.symm
   ·rename_i U;exact absurd (n'.1 h).1 U
  · rfl
 rw[this]
theorem Mg {β:Type} {l:List β} (h:l.Nodup) {i j:Nat} {a:β} (hi:l[i]? =some a)(hj:l[j]? =some a):i=j:=by
 obtain⟨h1,U⟩:=d'.1 hi;obtain⟨h3,h4⟩:=d'.1 hj;exact(List.getElem_inj h).1 (U.trans h4.symm)
end rules
end
section
open Go Go.RowKit
abbrev WM (R:Type):=(R->Prop)->Prop
section
variable {A B R S:Type}
variable {Q:R->Prop}{k:A->WM R}{x y:WM R}{c:Prop}{o:Option A}{b:Bool}{f:(S->WM R)->S->WM R}
def fp (r:R):WM R:=λQ=>Q r
def Kw:WM R:=λ_=>False
def fu (m:WM A)(k:A->WM R):WM R:=λQ=>m (λa=>k a Q)
def Qu (o:Option A)(k:A->WM R):WM R:=λQ=>∃a,o=some a/\k a Q
def gv (c:Prop)(k:WM R):WM R:=λQ=>c/\k Q
def ma (k:A->WM R):WM R:=λQ=>∀a,k a Q
def jc (x:A)(k:A->WM R):WM R:=λQ=>∀y,y=x->k y Q
def Uw (c:Prop)(k:WM R):WM R:=λQ=>c->k Q
theorem Ux {k:WM R} (h:Uw c k Q)(U:c):k Q:=h U
def gP (b:Bool)(x y:WM R):WM R:=λQ=>(b=true->x Q)/\(b=false->y Q)
def zY (o:Option A)(x:WM R)(k:A->WM R):WM R:=λQ=>(o=none->x Q)/\(∀a,o=some a->k a Q)
def lO (f:A->WM R)(g:(A->WM R)->WM R):WM R:=g f
def kC (f:(S->WM R)->S->WM R):Nat->S->WM R
 |0,_,_=>False
 |n+1,s,Q=>f (kC f n) s Q
theorem QU {m:WM A} (h:fu m k Q):m (λa=>k a Q):=h
theorem Jk (h:Qu o k Q):∃a,o=some a/\k a Q:=h
theorem xx {k:WM R} (h:gv c k Q):c/\k Q:=h
theorem w7 (h:ma k Q)(a:A):k a Q:=h a
theorem iN (h:gP b x y Q)(e:b=true):x Q:=h.1 e
theorem iM (h:gP b x y Q)(e:b=false):y Q:=h.2 e
theorem qs (h:zY o x k Q):(o=none/\x Q)\/∃a,o=some a/\k a Q:=by
 cases o with
 |none=>exact .inl ⟨rfl,h.1 rfl⟩
 |some a=>exact .inr ⟨a,rfl,h.2 a rfl⟩
theorem sU {n:Nat} {s:S} (h:kC f n s Q):∃m U,n=m+1/\U=kC f m/\f U s Q:=by
 cases n with
 |zero=>exact h.elim
 |succ m=>exact⟨m,_,rfl,rfl,h⟩
theorem yX (I:S->Prop)(μ:S->Nat)
   (h:∀s ag,I s->(∀s',I s'->μ s'<μ s->ag s' Q)->f ag s Q):∀N s,I s->μ s<N->kC f N s Q:=by
 intro N;induction N with
 |zero=>intro s _ U;exact absurd U (Nat.not_lt_zero _)
 | succ n ih=>
   intro s hs U;exact h s _ hs λs' GM hl=>ih s' GM (Nat.lt_of_lt_of_le hl (Nat.le_of_lt_succ U))
end
end
section
open Go Go.RowKit
structure MS (κ α:Type) where
 es:List (κ×α×Nat)
 clock:Nat
section
variable {κ α:Type} [DecidableEq κ]
def MS.keys (m:MS κ α):List κ:=m.es.map (·.1)
def MS.nil:MS κ α:=⟨[],0⟩
def MS.look (m:MS κ α)(x:κ):Option α:=(iK x m.es).map (·.1)
def MS.put (m:MS κ α)(x:κ)(a:α):MS κ α:=match iK x m.es with
 |some y=>⟨kX x (a,y.2) m.es,m.clock⟩
 |none=>⟨m.es++[(x,a,m.clock)],m.clock+1⟩
def MS.del (m:MS κ α)(x:κ):MS κ α:=⟨m.es.filter (λy=>!decide (y.1=x)),m.clock⟩
def kZ {R:Type} (m:MS κ α)(done:List κ)(x:WM R)(k:κ->WM R):WM R:=λQ=>((∀y∈m.keys,y∈done)->x Q)/\(∀y,y∈m.keys->y∉done->k y Q)
theorem xr {x:κ} {b:α}:∀{l:List (κ×α)} {i:Nat},(l.map (·.1)).Nodup->l[i]? =some (x,b)->l.filter (λy=> !decide (y.1=x))=l.eraseIdx i
 |[],i,_,h=>by simp at h
 | y::l,0,U,h=>by
   simp only[List.getElem?_cons_zero,Option.some.injEq]at h;subst h;simp only[I',O']at U;rw[List.filter_cons_of_neg ax,List.eraseIdx_cons_zero];refine T'.2 λz hz=>?_
   have:z.1≠x:=λe=>U.1 (r'.2 ⟨z,hz,e⟩);simp[this]
 | y::l,i+1,U,h=>by
   simp only[List.getElem?_cons_succ]at h;simp only[I',O']at U;have de:¬y.1=x:=λe=>U.1 (r'.2 ⟨_,R' h,e.symm⟩)
   rw[List.filter_cons_of_pos (by simp[de]),List.eraseIdx_cons_succ,xr U.2 h]
theorem filter_none {x:κ} {l:List (κ×α)} (h:x∉l.map (·.1)):l.filter (λy=>!decide (y.1=x))=l:=
 T'.2 λz U=>by
  have:z.1≠x:=λe=>h (r'.2 ⟨z,U,e⟩);simp[this]
end
structure vX (P:Program) (k:TypeId) (κ:Type) where
 enc:κ->Value
 ok:κ->Prop
 dom:κ->World->Prop
 check:∀{x},ok x->∀b w,(Instr.checkKey b 10000 k (enc x)).run P w=.ok () w
 find:∀{x},ok x->∀(es:List MapEntry) (ks:List κ),es.map (·.key)=ks.map enc->(∀y∈ks,ok y)->∀w,dom x w->(∀y∈ks,dom y w)->∃r,(Instr.findKey k (enc x) es).run P w=.ok r w/\((r=none/\x∉ks)\/∃(i:Nat) (e:MapEntry),r=some (i,e.val)/\es[i]? =some e/\ks[i]? =some x)
 stays:∀{x},ok x->∀w,(Instr.keyThatStays (enc x) (enc x)).run P w=.ok (enc x) w
def tv.X {P:Program} {k:TypeId} {κ:Type} (K:tv P k κ):vX P k κ:=
 ⟨K.enc,K.ok,λ_ _=>True,K.check,λU es ks h hk w _ _=>K.find U es ks h hk w,K.stays⟩
def mg (w:World)(a:Nat):Prop:=∃c t,w.heap[a]? =some (.cells c t)
theorem UP {P:Program} {k e i:Nat} (hk:P.underlying k=some (.pointer e))(hs:QT P e=some (i+1)) {w:World} {x y:Nat} (U:mg w x)(hy:mg w y):
  (Op.equal k (.pointer (some ⟨x,0,none⟩)) (.pointer (some ⟨y,0,none⟩))).run P w=.ok (decide (x=y)) w:=by
 obtain⟨c,t,U⟩:=U;obtain⟨c',t',hy⟩:=hy;unfold Op.equal;rw[show Op.maxDepth=9999+1 from rfl,Op.equalIn];simp only[Sem.run_bind,run_underlying hk,Result.andThen_ok,AD hs w];simp only[Nat.succ_ne_zero,ne_eq,not_false_eq_true,if_true];by_cases h:x=y;· subst h;simp[run_sameAddr_same]
 · rw[run_sameAddr_other w (a:=⟨x,0,none⟩) (b:=⟨y,0,none⟩) (λe=>h (congrArg Addr.block e)) U hy];simp[h]
theorem Gr {P:Program} {k e i:Nat} (hk:P.underlying k=some (.pointer e))(hs:QT P e=some (i+1)) {w:World} {x:Nat} (hx:mg w x):∀(es:List MapEntry)(ks:List Nat)(j:Nat),es.map (·.key)=ks.map (λy=>Value.pointer (some ⟨y,0,none⟩))->(∀y∈ks,mg w y)->
   ∃r,(Instr.findAsking k (.pointer (some ⟨x,0,none⟩)) es j).run P w=.ok r w/\((r=none/\x∉ks)\/∃(q:Nat) (e:MapEntry),r=some (j+q,e.val)/\es[q]? =some e/\ks[q]? =some x)
 |[],[],j,_,_=>⟨none,by simp[Instr.findAsking],.inl ⟨rfl,ax⟩⟩
 |[],_::_,_,h,_=>by cases h
 |_::_,[],_,h,_=>by cases h
 | e::es,y::ks,j,h,hd=>by
   simp only[I',List.cons.injEq]at h;obtain⟨h1,h2⟩:=h;have h3:=UP hk hs hx (hd y ax);by_cases U:x=y
   ·subst U;exact⟨some (j,e.val),by simp[Instr.findAsking,h1,h3],.inr ⟨0,e,rfl,rfl,rfl⟩⟩
   ·obtain⟨r,q1,q2⟩:=Gr hk hs hx es ks (j+1) h2 (λz hz=>hd z (by simp[hz]));refine⟨r,by simp[Instr.findAsking,h1,h3,U,q1],?_⟩;rcases q2 with⟨rfl,q2⟩|⟨q,e',rfl,q3,q4⟩
    · exact .inl ⟨rfl,by simp[U,q2]⟩
    · exact .inr ⟨q+1,e',by rw[Nat.add_assoc,Nat.add_comm 1 q],q3,q4⟩
def Wx {P:Program} {k e i:Nat} (hk:P.underlying k=some (.pointer e))(hs:QT P e=some (i+1)):vX P k Nat where
 enc x:=.pointer (some ⟨x,0,none⟩)
 ok _:=True
 dom x w:=mg w x
 check:=λ_ b w=>pV hk trivial b 9999 w
 find:=λ{x} _ es ks h _ w hx hd=>by
  obtain⟨r,U,q2⟩:=Gr hk hs hx es ks 0 h hd;refine⟨r,?_,?_⟩
  ·unfold Instr.findKey;simp only[Sem.run_bind,run_underlying hk,Result.andThen_ok];cases es with
   | nil=>cases ks with
     |nil=>simp only[Instr.findNow];simpa[Instr.findAsking]using U
     |cons y ks=>cases h
   | cons e1 es=>
     cases ks with
     |nil=>cases h
     | cons y ks=>
       simp only[I',List.cons.injEq]at h;have:Instr.findNow (.pointer e) (.pointer (some ⟨x,0,none⟩)) (e1::es) 0=none:=by simp[Instr.findNow,h.1,Instr.sameNow]
       rw[this];exact U
  · simp only[Nat.zero_add]at q2;exact q2
 stays:=λ_ w=>vg (by unfold Instr.sameBits;simp) w
def iX {κ α:Type} {P:Program} {k:TypeId} (K:vX P k κ)(ag:Bool)(R:fq α)(N F:ep)(b:Nat)(m:MS κ α)(w:World):Prop:=
 N b/\∃E:Array MapEntry,w.heap[b]? =some (.map E m.clock)/\E.toList.map (·.key)=m.es.map (λx=>K.enc x.1)/\
   (∀(i:Nat) (e:MapEntry) (x:κ×α×Nat),E.toList[i]? =some e->m.es[i]? =some x->∃cs,lY ag cs=some e.val/\R.p F w cs x.2.1)/\
   (m.es.map (·.1)).Nodup/\(∀x∈m.es,K.ok x.1)/\E.toList.map (·.born)=m.es.map (·.2.2)/\(m.es.map (·.2.2)).Nodup/\∀x∈m.es,x.2.2<m.clock
theorem iX.good {κ α:Type} {P:Program} {k:TypeId} {K:vX P k κ} {ag:Bool} {R:fq α} {b:Nat} {m:MS κ α} {N N' F G:ep} {w U:World} (hN:∀k,N k->N' k)(ha:ia N w U)(hF:∀k,F k->G k)(hb:ia F w U)(h:iX K ag R N F b m w):iX K ag R N' G b m U:=by
 obtain⟨h1,E,h2,h3,h4,h5⟩:=h;refine⟨hN _ h1,E,(ha b h1).trans h2,h3,λi e x hi hx=>?_,h5⟩;obtain⟨cs,q1,q2⟩:=h4 i e x hi hx;exact⟨cs,q1,R.good hF hb q2⟩
def QH {κ α:Type} {P:Program} {k:TypeId} (K:vX P k κ)(ag:Bool)(R:fq α)(b:Nat)(m:MS κ α):Fact:=.duo (λN F w=>iX K ag R N F b m w) iX.good
def TF {κ α:Type} (m:MS κ α)(g b:Nat)(done:List κ)(last:Option κ)(N:ep)(w:World):Prop:=
 N g/\∃seen:Array Nat,w.heap[g]? =some (.mapIter (some b) m.clock seen m.clock)/\(∀x∈m.es,x.1∈done↔seen.contains x.2.2=true)/\∀k,last=some k->∃(a:α) (t:Nat) (U:Array Nat),(k,a,t)∈m.es/\seen=U.push t
theorem TF.good {κ α:Type} {m:MS κ α} {g b:Nat} {done:List κ} {last:Option κ} {N U:ep} {w w':World} (hN:∀k,N k->U k)(ha:ia N w w')(h:TF m g b done last N w):TF m g b done last U w':=by
 obtain⟨h1,seen,h2,h3⟩:=h;exact⟨hN _ h1,seen,(ha g h1).trans h2,h3⟩
def dy {κ α:Type} (m:MS κ α)(g b:Nat)(done:List κ)(last:Option κ):Fact:=.duo (λN _ w=>TF m g b done last N w) (λU ha _ _ h=>h.good U ha)
section rules
variable {P:Program} {C:Ctx} {n:FD} {Q:Exit->Act->World->Prop} {Φ Φ':List Fact} {H H':List Fact} {S S':List (Nat×Value)} {ops:Array Oper} {rest:List Oper} {o:Oper} {d:Nat}
variable {κ α:Type} [DecidableEq κ] {k:TypeId} {K:vX P k κ} {ag:Bool} {R:fq α} {b g:Nat} {m:MS κ α}
variable {t e:Nat}{x y:Operand}{i:κ}{v:Value}{c:Bool}
omit [DecidableEq κ] in
theorem Sl (K:vX P k κ)(ag:Bool)(R:fq α)(hg:QM ops S o=some true)(hd:o.dst=some d)(U:D' d n=true)(hS:ft d S=S')(ho:o.op=.makeMap t none)
  (next:∀g,WL P C n Q Φ (QH K ag R g ⟨[],0⟩::H) ((d,.map (some g))::S') ops rest):WL P C n Q Φ H S ops (o::rest):=
 B8 hg hd U hS λa w hf hw=>⟨.map (some w.heap.size),w.alloc (.map #[] 0),(by simp[execOp,ho,run_makeMap]),Φ,QH K ag R w.heap.size ⟨[],0⟩::H,by
  obtain⟨F,N,hi⟩:=hw;have hb:Below w.heap.size w (w.alloc (.map #[] 0)):=(Below.refl _ _).alloc (h' _) _;refine⟨F,r6 (λk=>k=w.heap.size) N,(hi.grow hb).push _ _ ⟨rfl,#[],heap_alloc_new w _,rfl,λi e x hi=>by simp at hi,ax,ax,ax,ax,ax⟩ ?_ ?_⟩
  ·rintro k rfl;exact⟨ax,.inl hi.mod.size,λhf=>z' _ (hi.flt _ hf)⟩
  ·rintro i k hl rfl U;exact z' _ (hi.nlt i _ hl U).1,next _⟩
theorem iX.find {N F:ep} {w:World} (h:iX K ag R N F b m w) {x:κ} (hx:K.ok x)(hd:∀y,y=x\/y∈m.keys->K.dom y w):∃E:Array MapEntry,w.heap[b]? =some (.map E m.clock)/\(Instr.checkKey E.isEmpty 10000 k (K.enc x)).run P w=.ok () w/\
  (((Instr.findKey k (K.enc x) E.toList).run P w=.ok none w/\iK x m.es=none/\x∉m.es.map (·.1))\/
    ∃(i:Nat) (e:MapEntry) (a:α×Nat) (cs:List Value),(Instr.findKey k (K.enc x) E.toList).run P w=.ok (some (i,e.val)) w/\E.toList[i]? =some e/\m.es[i]? =some (x,a)/\iK x m.es=some a/\lY ag cs=some e.val/\R.p F w cs a.1):=by
 obtain⟨_,E,h2,h3,h4,h5,h6,_⟩:=h;refine⟨E,h2,K.check hx _ _,?_⟩;have Ii:E.toList.map (·.key)=(m.es.map (·.1)).map K.enc:=by rw[h3,List.map_map];rfl
 obtain⟨r,q1,U⟩:=K.find hx E.toList m.keys Ii (λy hy=>by obtain⟨z,hz,rfl⟩:=r'.1 hy;exact h6 z hz) w (hd x (.inl rfl)) (λy hy=>hd y (.inr hy));rcases U with⟨rfl,U⟩|⟨i,e,rfl,U,q3⟩
 · exact .inl ⟨q1,mZ U,U⟩
 ·right;rw[show m.keys=m.es.map (·.1)from rfl,g']at q3;cases Ly:m.es[i]? with
  |none=>rw[Ly]at q3;cases q3
  | some y=>
    rw[Ly]at q3;simp only[c!,Option.some.injEq]at q3;obtain⟨y1,y2⟩:=y;simp only at q3;subst q3;obtain⟨cs,p1,p2⟩:=h4 i e _ U Ly;exact⟨i,e,y2,cs,q1,U,Ly,oE h5 Ly,p1,p2⟩
theorem MS.look_none {x:κ} (h:m.look x=none):iK x m.es=none:=by
 unfold MS.look at h;cases hx:iK x m.es with
 |none=>rfl
 |some y=>rw[hx]at h;cases h
theorem MS.look_some {x:κ} {a:α} (h:m.look x=some a):∃t,iK x m.es=some (a,t):=by
 unfold MS.look at h;cases hx:iK x m.es with
 |none=>rw[hx]at h;cases h
 |some y=>rw[hx]at h;cases h;exact⟨y.2,rfl⟩
theorem U4 {z:Value} (j:Nat)(hg:QM ops S o=some true)(hd:o.dst=some d)(hn:D' d n=true)(hS:ft d S=S')(ho:o.op=.lookup t x y c)
  (bj:H[j]? =some (QH K ag R b m)) (hx:da S x=some (.map (some b))) (hy:da S y=some (K.enc i)) (hz:j1 P e=some z) (ht:P.underlying t=some (.map k e)) (hi:K.ok i) (BL:∀w,Ql C Φ H w->∀y,y=i\/y∈m.keys->K.dom y w) (hm:m.look i=none)
  (hv:(if c then .tuple #[z,.bool false]else z)=v) (next:WL P C n Q Φ H ((d,v)::S') ops rest):WL P C n Q Φ H S ops (o::rest):=by
 refine HT hg hd hn hS (λa w hf hw=>?_) next
 obtain⟨F,N,fb⟩:=hw;have h0:iX K ag R (N j) F b m w:=fb.owns j _ bj;obtain⟨E,h1,h2,U⟩:=h0.find hi (BL w ⟨F,N,fb⟩)
 have:(Instr.lookup t (.map (some b)) (K.enc i) c).run P w=.ok (if c then .tuple #[z,.bool false]else z) w:=by
  rcases U with⟨U,_,_⟩|⟨i,e',a,cs,_,_,_,U,_⟩
  · simp only[Instr.lookup,Sem.run_bind,run_underlying ht,Result.andThen,OK h1,Sem.run_pure,h2,U,U6 hz w]
  · rw[MS.look_none hm]at U;cases U
 rw[hv]at this;simp[execOp,ho,hf.eval hx,hf.eval hy,this]
theorem U1 {a:α} {Λ:Type} {cells:α->Λ->List Value} {pure:α->Λ->Prop} {facts:α->Λ->List Fact} {v u:Λ->Value} (op:qW R cells pure facts)(j:Nat)(hg:QM ops S o=some true)(hd:o.dst=some d)(hn:D' d n=true)(hS:ft d S=S')(ho:o.op=.lookup t x y c)
  (bj:H[j]? =some (QH K ag R b m)) (hx:da S x=some (.map (some b))) (hy:da S y=some (K.enc i)) (ht:P.underlying t=some (.map k e)) (hi:K.ok i) (BL:∀w,Ql C Φ H w->∀y,y=i\/y∈m.keys->K.dom y w) (hm:m.look i=some a)
  (hu:∀r,lY ag (cells a r)=some (u r)) (hv:∀r,(if c then .tuple #[u r,.bool true]else u r)=v r) (next:∀r,pure a r->WL P C n Q (facts a r++Φ) H ((d,v r)::S') ops rest):WL P C n Q Φ H S ops (o::rest):=by
 refine B8 hg hd hn hS λac w hf hw=>?_;obtain⟨F,N,fb⟩:=hw;have h0:iX K ag R (N j) F b m w:=fb.owns j _ bj;obtain⟨t0,hm⟩:=MS.look_some hm
 obtain ⟨v0,cs,h1,h2,h3⟩:∃v cs,(Instr.lookup t (.map (some b)) (K.enc i) c).run P w=.ok (if c then .tuple #[v,.bool true]else v) w/\lY ag cs=some v/\R.p F w cs a:=by
  obtain⟨E,g1,g2,g3⟩:=h0.find hi (BL w ⟨F,N,fb⟩);rcases g3 with⟨_,g3,_⟩|⟨i',e',a',cs,g3,_,_,g4,g5,g6⟩
  · rw[hm]at g3;cases g3
  ·rw[hm]at g4;cases g4;exact⟨e'.val,cs,by simp only[Instr.lookup,Sem.run_bind,run_underlying ht,Result.andThen,OK g1,Sem.run_pure,g2,g3],g5,g6⟩
 obtain⟨r,q1,q2,q3⟩:=op F w cs a h3;subst q1;rw[hu r]at h2;cases h2;rw[hv r]at h1;refine⟨v r,w,?_,facts a r++Φ,H,⟨F,N,{fb with facts:=λφ U=>?_}⟩,next r q2⟩;· simp[execOp,ho,hf.eval hx,hf.eval hy,h1]
 ·rcases q'.1 U with U|U;· exact q3 φ U
  · exact fb.facts φ U
theorem iX.put {N F:ep} {w:World} {t e:TypeId} {x:κ} {u:α} {cs:List Value} {v:Value} (h:iX K ag R N F b m w)(hx:K.ok x)(hd:∀y,y=x\/y∈m.keys->K.dom y w)(ht:P.underlying t=some (.map k e))(hv:lY ag cs=some v):
  ∃w',(Instr.mapUpdate t (.map (some b)) (K.enc x) v).run P w=.ok () w'/\Mod N w w'/\(R.p F w' cs u->(∀cs y,R.p F w cs y->R.p F w' cs y)->iX K ag R N F b (m.put x u) w'):=by
 obtain⟨hN,E,h2,h3,h4,h5,h6,h7,h8,h9⟩:=id h;obtain⟨E',g1,g2,g3⟩:=h.find hx hd;rw[h2]at g1;cases g1
 have fk:∀r,(Instr.findKey k (K.enc x) E.toList).run P w=.ok r w->(Instr.mapUpdate t (.map (some b)) (K.enc x) v).run P w=((match r with
   | some (i,_)=>do
     let key <-Instr.keyThatStays (((E[i]?).map (·.key)).getD (K.enc x)) (K.enc x)
     setObj b (.map (E.modify i λe=>{e with key,val:=v}) m.clock)
   |none=>setObj b (.map (E.push {key:=K.enc x,val:=v,born:=m.clock}) (m.clock+1)):Sem Unit)).run P w:=λr hr=>by
  unfold Instr.mapUpdate;simp only[Sem.run_bind,run_underlying ht,Result.andThen,OK h2,K.check hx,hr];rcases r with _|⟨_,_⟩<;>rfl
 have bp:=(n'.1 h2).1;rcases g3 with⟨q1,q2,U⟩|⟨i,e',a,vS,q1,q2,U,q4,q5,q6⟩
 ·refine ⟨_,(fk _ q1).trans (Yj _ h2),World.set_mod h2 hN,λhu hold=>?_⟩;have It:m.put x u=⟨m.es++[(x,u,m.clock)],m.clock+1⟩:=by unfold MS.put;rw[q2]
  rw[It];refine⟨hN,E.push {key:=K.enc x,val:=v,born:=m.clock},by simp[l',bp],?_⟩;have hl:E.toList.length=m.es.length:=by simpa using congrArg List.length h3
  refine⟨by simp[h3],λq e y he hy=>?_,?_,λy hy=>?_,by simp[h7],?_,λy hy=>?_⟩
  ·simp only[Array.toList_push]at he;simp only at hy;rcases Nat.lt_or_ge q m.es.length with hq|hq
   · rw[y' an]at he;rw[y' hq]at hy;obtain⟨Ku,p1,p2⟩:=h4 q e y he hy;exact⟨Ku,p1,hold _ _ p2⟩
   · rw[j' an,hl]at he;rw[j' hq]at hy
     have:q-m.es.length=0:=by
      have:=(d'.1 hy).1;simp at this;omega
     rw[this]at he hy;simp at he hy;subst he;subst hy;exact⟨cs,hv,hu⟩
  ·simp only[d!];refine G'.2 ⟨h5,ax,λa ha b' mj e=>?_⟩;simp at mj;subst mj;subst e;exact U ha
  ·simp only at hy;rcases q'.1 hy with hy|hy;· exact h6 y hy
   · simp at hy;subst hy;exact hx
  ·simp only[d!];refine G'.2 ⟨h8,ax,λa ha b' mj e=>?_⟩;obtain⟨e0,he0,rfl⟩:=r'.1 ha;simp at mj;have:=h9 e0 he0;omega
  ·simp only at hy⊢;rcases q'.1 hy with hy|hy;· have:=h9 y hy;omega
   · simp at hy;subst hy;simp
 ·have hk:(((E[i]?).map (·.key)).getD (K.enc x))=K.enc x:=by
   have e1:(E.toList.map (·.key))[i]? =some e'.key:=by rw[g',q2];rfl
   rw[h3,g',U]at e1;simp only[c!,Option.some.injEq]at e1;have e2:E[i]? =some e':=by simpa using q2
   rw[e2];exact e1.symm
  refine ⟨_,(fk _ q1).trans (by
   simp only[hk,Sem.run_bind,K.stays hx,Result.andThen];exact Yj _ h2),World.set_mod h2 hN,λhu hold=>?_⟩
  have It:m.put x u=⟨m.es.set i (x,u,a.2),m.clock⟩:=by unfold MS.put;rw[q4];simp only;rw[zT h5 U]
  rw[It];refine⟨hN,E.modify i λe=>{e with key:=K.enc x,val:=v},by simp[l',bp],?_⟩;rw[ru q2];have JC:(m.es.set i (x,u,a.2)).map (·.1)=m.es.map (·.1):=by rw[M'];exact SA (by simp[U])
  have YI:(m.es.set i (x,u,a.2)).map (·.2.2)=m.es.map (·.2.2):=by rw[M'];exact SA (by simp[U])
  refine⟨?_,λq e y he hy=>?_,by simp only[JC];exact h5,λy hy=>?_,?_,by simp only[YI];exact h8,λy hy=>?_⟩;· simp only[M',h3]
  ·simp only at hy;rw[List.getElem?_set]at he hy;by_cases hq:i=q
   · subst hq;rw[if_pos rfl]at he hy;rw[if_pos (d'.1 q2).1]at he;rw[if_pos (d'.1 U).1]at hy;cases he;cases hy;exact⟨cs,hv,hu⟩
   · rw[if_neg hq]at he hy;obtain⟨Ku,p1,p2⟩:=h4 q e y he hy;exact⟨Ku,p1,hold _ _ p2⟩
  ·simp only at hy;rcases F' hy with hy|rfl;· exact h6 y hy
   · exact hx
  ·simp only[YI];rw[<-h7,M'];exact SA (by rw[g',q2];rfl)
  ·simp only at hy⊢;rcases F' hy with hy|rfl;· exact h9 y hy
   · exact h9 (x,a) (R' U)
theorem OJ {z:Operand} {u:α} {cs:List Value} (j:Nat)(hg:QM ops S o=some true)(hd:o.dst=none)(ho:o.op=.mapUpdate t x y z\/o.op=.insert t x y z)
  (bj:H[j]? =some (QH K ag R b m)) (hx:da S x=some (.map (some b))) (hy:da S y=some (K.enc i)) (hz:da S z=some v) (ht:P.underlying t=some (.map k e)) (hi:K.ok i) (BL:∀w,Ql C Φ H w->∀y,y=i\/y∈m.keys->K.dom y w) (hv:lY ag cs=some v)
  (hr:∀F w,(∀ψ∈Φ,ψ.p F w)->R.p F w cs u) (hH:H.set j (QH K ag R b (m.put i u))=H') (next:WL P C n Q Φ H' S ops rest):WL P C n Q Φ H S ops (o::rest):=by
 refine Dn (Φ':=Φ) hg hd (λa w hf hw=>?_) next
 obtain⟨F,N,U⟩:=hw;have bp:=(d'.1 bj).1;have h0:iX K ag R (N j) F b m w:=U.owns j _ bj;obtain⟨w',r1,r2,r3⟩:=h0.put (u:=u) hi (BL w ⟨F,N,U⟩) ht hv;refine⟨w',by rcases ho with ho|ho<;>simp[execOp,ho,hf.eval hx,hf.eval hy,hf.eval hz,r1],?_⟩;subst hH;have gH:ia F w w':=λq hq=>r2.block q (U.flt q hq) (λhn=>(U.nlt j q bp hn).2.2 hq);refine⟨F,N,U.set j bp r2 _ (r3 (R.good (λ_ h=>h) gH (hr F w U.facts)) (λ_ _ h=>R.good (λ_ h=>h) gH h))⟩
theorem iX.del {N F:ep} {w:World} {t e:TypeId} {x:κ} (h:iX K ag R N F b m w)(hx:K.ok x)(hd:∀y,y=x\/y∈m.keys->K.dom y w)(ht:P.underlying t=some (.map k e))(ty:TypeId):
  ∃w',(Builtin.delete_ #[t,k] ty #[.map (some b),K.enc x]).run P w=.ok (.tuple #[]) w'/\Mod N w w'/\((∀cs y,R.p F w cs y->R.p F w' cs y)->iX K ag R N F b (m.del x) w'):=by
 obtain⟨hN,E,U,h3,h4,h5,h6,h7,h8,h9⟩:=id h;obtain⟨E',g1,g2,g3⟩:=h.find hx hd;rw[U]at g1;cases g1;have bp:=(n'.1 U).1;rcases g3 with⟨q1,q2,q3⟩|⟨i,e',a',vS,q1,q2,q3,q4,q5,q6⟩
 ·refine⟨w,?_,Mod.refl _ _,λ_=>?_⟩
  ·unfold Builtin.delete_;simp[run_underlying ht,OK U,g2,q1,Yj _ U,Result.andThen,ML U]
  have:m.del x=m:=by unfold MS.del;rw[filter_none q3]
  rw[this];exact h
 ·have hi:=(d'.1 q2).1;have hiE:i<E.size:=by simpa using hi
  have YH:(E.eraseIdxIfInBounds i).toList=E.toList.eraseIdx i:=by
   unfold Array.eraseIdxIfInBounds;rw[dif_pos hiE];simp
  have fk:(Builtin.delete_ #[t,k] ty #[.map (some b),K.enc x]).run P w=.ok (.tuple #[]) {w with heap:=w.heap.setIfInBounds b (.map (E.eraseIdxIfInBounds i) m.clock)}:=by
   unfold Builtin.delete_;simp[run_underlying ht,OK U,g2,q1,Yj _ U]
  refine⟨_,fk,World.set_mod U hN,λhold=>?_⟩;have oi:m.del x=⟨m.es.eraseIdx i,m.clock⟩:=by unfold MS.del;rw[xr h5 q3]
  rw[oi];refine⟨hN,E.eraseIdxIfInBounds i,by simp[l',bp],?_⟩;rw[YH];have PW:∀{β γ:Type} (f:β->γ) (l:List β) (j:Nat),(l.eraseIdx j).map f=(l.map f).eraseIdx j:=λf l j=>xW f l j
  refine⟨by simp only[PW,h3],λq e y he hy=>?_,?_,λy hy=>h6 y (J' hy),by simp only[PW,h7],?_,λy hy=>h9 y (J' hy)⟩
  ·simp only at hy;rw[List.getElem?_eraseIdx]at he hy;split at he<;>rename_i hq
   ·rw[if_pos hq]at hy;obtain⟨Ku,p1,p2⟩:=h4 q e y he hy;exact⟨Ku,p1,hold _ _ p2⟩
   ·rw[if_neg hq]at hy;obtain⟨Ku,p1,p2⟩:=h4 (q+1) e y he hy;exact⟨Ku,p1,hold _ _ p2⟩
  · simp only[PW];exact h5.sublist (P' _ _)
  · simp only[PW];exact h8.sublist (P' _ _)
theorem St (j:Nat)(hg:QM ops S o=some true)(hd:o.dst=none)(ho:o.op=.call {callee:=.builtin .delete,args:=#[x,y],argTypes:=#[t,k]})
  (bj:H[j]? =some (QH K ag R b m)) (hx:da S x=some (.map (some b))) (hy:da S y=some (K.enc i)) (ht:P.underlying t=some (.map k e)) (hi:K.ok i) (BL:∀w,Ql C Φ H w->∀y,y=i\/y∈m.keys->K.dom y w)
  (hH:H.set j (QH K ag R b (m.del i))=H') (next:WL P C n Q Φ H' S ops rest):WL P C n Q Φ H S ops (o::rest):=by
 refine XD (Φ':=Φ) hg hd (λa w hf hw=>?_) next
 obtain⟨F,N,U⟩:=hw;have bp:=(d'.1 bj).1;have h0:iX K ag R (N j) F b m w:=U.owns j _ bj;obtain⟨w',r1,r2,r3⟩:=h0.del hi (BL w ⟨F,N,U⟩) ht o.type;refine⟨.tuple #[],w',by simp[execOp,ho,resolve,invoke,builtin,hf.eval hx,hf.eval hy,r1],?_⟩;subst hH;have gH:ia F w w':=λq hq=>r2.block q (U.flt q hq) (λhn=>(U.nlt j q bp hn).2.2 hq);exact⟨F,N,U.set j bp r2 _ (r3 (λ_ _ h=>R.good (λ_ h=>h) gH h))⟩
omit [DecidableEq κ] in
theorem Hy {t e:TypeId} {x:Operand} (j:Nat)(hg:QM ops S o=some true)(hd:o.dst=some d)(hn:D' d n=true)(hS:ft d S=S')(ho:o.op=.call {callee:=.builtin .len,args:=#[x],argTypes:=#[t]})
  (bj:H[j]? =some (QH K ag R b m)) (hx:da S x=some (.map (some b))) (ht:P.underlying t=some (.map k e)) (next:WL P C n Q Φ H ((d,.int .i64 (m.es.length:Int))::S') ops rest):WL P C n Q Φ H S ops (o::rest):=by
 refine HT hg hd hn hS (λa w hf hw=>?_) next
 obtain⟨F,N,fb⟩:=hw;obtain⟨_,E,h1,U,_⟩:iX K ag R (N j) F b m w:=fb.owns j _ bj;have U:E.size=m.es.length:=by simpa using congrArg List.length U
 simp[execOp,ho,resolve,invoke,builtin,Builtin.len_,hf.eval hx,run_underlying ht,goInt,OK h1,U]
omit [DecidableEq κ] in
theorem OS {t e:Nat} {x:Operand} (j:Nat)(hg:QM ops S o=some true)(hd:o.dst=some d)(hn:D' d n=true)(hS:ft d S=S')(ho:o.op=.range t x)
  (bj:H[j]? =some (QH K ag R b m)) (hx:da S x=some (.map (some b))) (ht:P.underlying t=some (.map k e))
  (next:∀g,WL P C n Q Φ (dy m g b [] none::H) ((d,.pointer (some ⟨g,0,none⟩))::S') ops rest):WL P C n Q Φ H S ops (o::rest):=by
 refine B8 hg hd hn hS λac w U hw=>?_;obtain⟨F,N,hi⟩:=hw;obtain⟨_,E,h2,_⟩:iX K ag R (N j) F b m w:=hi.owns j _ bj;have hb:Below w.heap.size w (w.alloc (.mapIter (some b) m.clock #[] m.clock)):=(Below.refl _ _).alloc (h' _) _;refine⟨.pointer (some ⟨w.heap.size,0,none⟩),w.alloc (.mapIter (some b) m.clock #[] m.clock),(by simp[execOp,ho,U.eval hx,run_range_map w t k e b E m.clock ht h2]),Φ,dy m w.heap.size b [] none::H,⟨F,r6 (λk=>k=w.heap.size) N,(hi.grow hb).push _ _ ⟨rfl,#[],heap_alloc_new w _,λx _=>ax,λk hk=>by cases hk⟩ ?_ ?_⟩,next _⟩
 ·rintro k rfl;exact⟨ax,.inl hi.mod.size,λU=>z' _ (hi.flt _ U)⟩
 ·rintro i k hl rfl hn;exact z' _ (hi.nlt i _ hl hn).1
variable {x:Operand}{done:List κ}
omit [DecidableEq κ] in
theorem OY {last:Option κ} (i j:Nat) (hg:QM ops S o=some true) (hd:o.dst=some d) (hn:D' d n=true) (hS:ft d S=S') (ho:o.op=.next x false)
    (R6:H[i]? =some (dy m g b done last)) (bj:H[j]? =some (QH K ag R b m)) (hx:da S x=some (.pointer (some ⟨g,0,none⟩)))
    (no:(∀y∈m.keys,y∈done)->WL P C n Q Φ H ((d,.tuple #[.bool false])::S') ops rest)
    (yes:∀y v,y∈m.keys->y∉done->WL P C n Q Φ (H.set i (dy m g b (done++[y]) (some y))) ((d,.tuple #[.bool true,K.enc y,v])::S') ops rest):WL P C n Q Φ H S ops (o::rest):=by
  refine B8 hg hd hn hS λac w hf hw=>?_;obtain⟨F,N,fb⟩:=hw;have bp:=(d'.1 R6).1;obtain⟨hg0,seen,s1,s2,s3⟩:TF m g b done last (N i) w:=fb.owns i _ R6;obtain⟨hb0,E,h2,h3,h4,h5,h6,h7,h8,h9⟩:iX K ag R (N j) F b m w:=fb.owns j _ bj;have hlen:E.toList.length=m.es.length:=by simpa using congrArg List.length h3
  have a0J:∀e∈E.toList,e.born<m.clock:=λe he=>by
    have:e.born∈m.es.map (·.2.2):=h7▸r'.2 ⟨e,he,rfl⟩;obtain⟨x,hx,hxe⟩:=r'.1 this;rw[<-hxe];exact h9 x hx
  have zD:∀(q:Nat) (e:MapEntry) (z:κ×α×Nat),E.toList[q]? =some e->m.es[q]? =some z->e.key=K.enc z.1/\e.born=z.2.2:=λq e z he hz=>by
    have e1:(E.toList.map (·.key))[q]? =some e.key:=by rw[g',he];rfl
    have e2:(E.toList.map (·.born))[q]? =some e.born:=by rw[g',he];rfl
    rw[h3,g',hz]at e1;rw[h7,g',hz]at e2;exact⟨(Option.some.inj e1).symm,(Option.some.inj e2).symm⟩
  rcases run_next_at (P:=P) w o.type g b m.clock m.clock seen E m.clock s1 h2 a0J (h' _)with⟨q1,q2⟩|⟨e,he,w1,hw1,q2⟩
  · refine⟨.tuple #[.bool false],w,by simp[execOp,ho,hf.eval hx,q2],Φ,H,⟨F,N,fb⟩,no λy hy=>?_⟩;obtain⟨z,hz,rfl⟩:=r'.1 hy;obtain⟨q,hq⟩:=u'.1 hz;have hqE:q<E.toList.length:=by rw[hlen];exact(d'.1 hq).1
    have hs:=all_seen E seen q1 _ (K' hqE);rw[(zD q _ z (C' hqE) hq).2]at hs;exact(s2 z hz).2 hs
  · obtain ⟨AN,jx⟩:=mem_left he;obtain⟨q,hq⟩:=u'.1 AN;have T6:q<m.es.length:=by rw[<-hlen];exact(d'.1 hq).1
    have Ws:m.es[q]? =some m.es[q]:=C' T6;obtain⟨kT,PJ⟩:=zD q e _ hq Ws;have wx:m.es[q]∈m.es:=K' T6
    have Iq:m.es[q].1∉done:=λSU=>by
      have:=(s2 _ wx).1 SU;rw[<-PJ,jx]at this;cases this
    have LC:w1.heap=w.heap:=by rcases hw1 with rfl|rfl<;>rfl
    have PX:Mod (N i) w (Go.ChangeMaps.setBlock w1 g (.mapIter (some b) m.clock (seen.push e.born) m.clock)):=by
      have h0:Mod (N i) w w1:=by
        rcases hw1 with rfl|rfl;· exact Mod.refl _ _
        · exact(Mod.refl _ _).drew
      refine⟨h0.os,h0.tape,h0.output,by rw[LC.symm];simp[Go.ChangeMaps.setBlock],λp hp hnp=>?_⟩;have de:g≠p:=λe=>hnp (e▸hg0);simp[Go.ChangeMaps.setBlock,l',de,LC]
    have hgl:g<w.heap.size:=(n'.1 s1).1
    have hit:TF m g b (done++[m.es[q].1]) (some m.es[q].1) (N i) (Go.ChangeMaps.setBlock w1 g (.mapIter (some b) m.clock (seen.push e.born) m.clock)):=by
      refine⟨hg0,seen.push e.born,by simp[Go.ChangeMaps.setBlock,l',LC,hgl],λU nJ=>?_,λk hk=>?_⟩
      · rw [q',V',s2 U nJ]
        have a2B:U.1=m.es[q].1↔U.2.2=e.born:=by
          obtain⟨p,hp⟩:=u'.1 nJ;constructor
          · intro hk
            have:p=q:=by
              have a1:(m.es.map (·.1))[p]? =some U.1:=by rw[g',hp];rfl
              have a2:(m.es.map (·.1))[q]? =some U.1:=by rw[g',Ws,hk];rfl
              exact Mg h5 a1 a2
            subst this;rw[Ws]at hp;cases hp;exact PJ.symm
          · intro hb
            have:p=q:=by
              have a1:(m.es.map (·.2.2))[p]? =some U.2.2:=by rw[g',hp];rfl
              have a2:(m.es.map (·.2.2))[q]? =some U.2.2:=by rw[g',Ws,hb,PJ];rfl
              exact Mg h8 a1 a2
            subst this;rw[Ws]at hp;cases hp;rfl
        rw[a2B];simp[Array.contains_push]
      · cases hk;exact⟨m.es[q].2.1,m.es[q].2.2,seen,wx,by rw[PJ]⟩
    exact⟨.tuple #[.bool true,K.enc m.es[q].1,e.val],_,by simp[execOp,ho,hf.eval hx,q2,kT],Φ,_,⟨F,N,fb.set i bp PX (dy m g b (done++[m.es[q].1]) (some m.es[q].1)) hit⟩,yes _ e.val (r'.2 ⟨_,wx,rfl⟩) Iq⟩
theorem OP {y:κ} {a:α} {Λ:Type} {cells:α->Λ->List Value} {pure:α->Λ->Prop} {facts:α->Λ->List Fact} {v u:Λ->Value} (op:qW R cells pure facts)(i j:Nat)(hg:QM ops S o=some true)(hd:o.dst=some d)(hn:D' d n=true)(hS:ft d S=S')(ho:o.op=.entry x)
  (R6:H[i]? =some (dy m g b done (some y))) (bj:H[j]? =some (QH K ag R b m)) (hx:da S x=some (.pointer (some ⟨g,0,none⟩))) (hm:m.look y=some a) (hu:∀r,lY ag (cells a r)=some (u r)) (hv:∀r,.tuple #[K.enc y,u r]=v r)
  (next:∀r,pure a r->WL P C n Q (facts a r++Φ) H ((d,v r)::S') ops rest):WL P C n Q Φ H S ops (o::rest):=by
 refine B8 hg hd hn hS λac w hf hw=>?_;obtain⟨F,N,fb⟩:=hw;obtain⟨hg0,seen,s1,s2,s3⟩:TF m g b done (some y) (N i) w:=fb.owns i _ R6;obtain⟨hb0,E,h2,h3,h4,h5,h6,h7,h8,h9⟩:iX K ag R (N j) F b m w:=fb.owns j _ bj;obtain⟨a',t,sn,ht,rfl⟩:=s3 y rfl;obtain⟨q,hq⟩:=u'.1 ht
 have ha:a'=a:=by
  obtain⟨t',hm⟩:=MS.look_some hm;have:=oE h5 hq;rw[hm]at this;exact(congrArg Prod.fst (Option.some.inj this)).symm
 subst ha;have hlen:E.toList.length=m.es.length:=by simpa using congrArg List.length h3
 have hqE:q<E.toList.length:=by rw[hlen];exact(d'.1 hq).1
 have U:=C' hqE;obtain⟨cs,p1,p2⟩:=h4 q _ _ U hq;obtain⟨r,r1,r2,r3⟩:=op F w cs a' p2;subst r1;rw[hu r]at p1
 have kT:(E.toList[q]).key=K.enc y:=by
  have e1:(E.toList.map (·.key))[q]? =some (E.toList[q]).key:=by rw[g',U];rfl
  rw[h3,g',hq]at e1;exact(Option.some.inj e1).symm
 have PJ:(E.toList[q]).born=t:=by
  have e1:(E.toList.map (·.born))[q]? =some (E.toList[q]).born:=by rw[g',U];rfl
  rw[h7,g',hq]at e1;exact(Option.some.inj e1).symm
 rw[<-PJ]at s1;have fk:=run_entry_at (P:=P) w g b m.clock sn E m.clock (E.toList[q]) s1 h2 (K' hqE) (h7▸h8);rw[kT,<-Option.some.inj p1,hv r]at fk;refine⟨v r,w,by simp[execOp,ho,hf.eval hx,fk],facts a' r++Φ,H,⟨F,N,{fb with facts:=λφ hX=>?_}⟩,next r r2⟩;rcases q'.1 hX with hX|hX;· exact r3 φ hX
 · exact fb.facts φ hX
end rules
end
section
open Go Go.RowKit
section
variable {O:Type}
def cu (s:Nat->Option O)(a:Nat)(o:O):Nat->Option O:=λb=>if b=a then some o else s b
def pA (a:Nat):Addr:=⟨a,0,none⟩
def del (s:Nat->Option O)(a:Nat):Nat->Option O:=λb=>if b=a then none else s b
theorem kf (s:Nat->Option O)(a:Nat)(o:O):cu s a o a=some o:=if_pos rfl
theorem XB (s:Nat->Option O) {a b:Nat} (o:O)(h:b≠a):cu s a o b=s b:=if_neg h
theorem tW (s:Nat->Option O)(a:Nat):del s a a=none:=if_pos rfl
theorem mJ (s:Nat->Option O) {a b:Nat} (h:b≠a):del s a b=s b:=if_neg h
theorem rO (s:Nat->Option O)(a:Nat)(o:O):cu (del s a) a o=cu s a o:=by
 funext b;unfold cu del;split<;>rfl
theorem RU {s:Nat->Option O} {a:Nat} {o:O} (h:s a=some o):cu s a o=s:=by
 funext b;unfold cu;split;· rename_i e;rw[e,h]
 · rfl
theorem TZ {s:Nat->Option O} {a:Nat} {o:O} (h:s a=some o):cu (del s a) a o=s:=by rw[rO,RU h]
def rW {R:Type} (s:Nat->Option O)(o:Nat->O)(k:Nat->(Nat->Option O)->WM R):WM R:=λQ=>∀a,s a=none->∀s',s'=cu s a (o a)->k a s' Q
def kl {R:Type} (s:Nat->Option O)(a:Nat)(k:WM R):WM R:=λQ=>s a=none->k Q
def nM (gg:Nat->O->List Fact)(s:Nat->Option O)(N F:ep)(w:World):Prop:=
 ∃U:Nat->ep,(∀a q,U a q->N q)/\(∀a b q,a≠b->U a q->¬U b q)/\∀a o,s a=some o->U a a/\nR (gg a o) (U a) F w
theorem nM.good {gg:Nat->O->List Fact} {s:Nat->Option O} {N N' F G:ep} {w w':World} (hN:∀k,N k->N' k)(ha:ia N w w')(hF:∀k,F k->G k)(hb:ia F w w')(h:nM gg s N F w):nM gg s N' G w':=by
 obtain⟨Ns,h1,h2,h3⟩:=h;exact⟨Ns,λa q U=>hN q (h1 a q U),h2,λa o ho=>⟨(h3 a o ho).1,(h3 a o ho).2.good (λ_ h=>h) (λq U=>ha q (h1 a q U)) hF hb⟩⟩
def Q3 (gg:Nat->O->List Fact)(s:Nat->Option O):Fact:=.duo (λN F w=>nM gg s N F w) nM.good
def tm {α Λ:Type} (a ty:Nat)(K:α->Λ->List Value)(Fs:α->Λ->List Fact)(x:α)(N F:ep)(w:World):Prop:=
 N a/\∃r,w.heap[a]? =some (.cells (K x r).toArray ty)/\∀φ∈Fs x r,φ.p F w
theorem tm.good {α Λ:Type} {a ty:Nat} {K:α->Λ->List Value} {Fs:α->Λ->List Fact} {x:α} {N N' F G:ep} {w U:World} (hN:∀k,N k->N' k)(ha:ia N w U)(hF:∀k,F k->G k)(hb:ia F w U)(h:tm a ty K Fs x N F w):tm a ty K Fs x N' G U:=by
 obtain⟨h1,r,h2,h3⟩:=h;exact⟨hN _ h1,r,(ha a h1).trans h2,λφ bj=>φ.good hF hb (h3 φ bj)⟩
def qX {α Λ:Type} (a ty:Nat)(K:α->Λ->List Value)(Fs:α->Λ->List Fact)(x:α):Fact:=.duo (λN F w=>tm a ty K Fs x N F w) tm.good
end
section
variable {O α Λ:Type} {C:Ctx} {Φ H:List Fact} {w:World} {gg:Nat->O->List Fact} {s s':Nat->Option O} {a ty:Nat} {o:O} {K:α->Λ->List Value} {Fs:α->Λ->List Fact} {x:α} {l:List Fact}
theorem Ql.poolOut (h:Ql C Φ H w)(k:Nat)(hk:H[k]? =some (Q3 gg s))(hs:s a=some o):Ql C Φ ((gg a o).reverse++H.set k (Q3 gg (del s a))) w:=by
 obtain ⟨_,h1⟩:=h.split (Λ:=Unit) (φ1:=λ_=>Q3 gg (del s a)) (φ2:=λ_=>jJ (gg a o)) k hk (λN F ⟨Ns,h1,h2,h3⟩=>
  ⟨(),Ns a,λq=>N q/\¬Ns a q,λq U=>h1 a q U,λq U=>U,⟨λb q=>Ns b q/\b≠a,λb q U=>⟨h1 b q U.1,λhn=>h2 b a q U.2 U.1 hn⟩,λb c q de U ef=>h2 b c q de U.1 ef.1,λb o' hb=>by
    have de:b≠a:=λe=>by subst e;rw[tW]at hb;cases hb
    rw[mJ s de]at hb;exact⟨⟨(h3 b o' hb).1,de⟩,(h3 b o' hb).2.good (λq U=>⟨U,de⟩) (ia.refl _ _) (λ_ h=>h) (ia.refl _ _)⟩⟩,(h3 a o hs).2⟩)
 exact h1.stars
theorem Ql.poolNo (h:Ql C Φ H w)(k j:Nat)(U:X' k j=false)(hk:H[k]? =some (Q3 gg s))(hj:H[j]? =some (qX a ty K Fs x)):s a=none:=by
 obtain⟨F,N,hi⟩:=h;have Wf:k≠j:=λe=>by subst e;rw[Y']at U;cases U
 obtain⟨Ns,h1,h2,h3⟩:nM gg s (N k) F w:=hi.owns k _ hk;obtain⟨h4,_⟩:tm a ty K Fs x (N j) F w:=hi.owns j _ hj;cases hs:s a with
 |none=>rfl
 |some o=>exact absurd h4 (hi.apart k j a (d'.1 hk).1 (d'.1 hj).1 Wf (h1 a a (h3 a o hs).1))
theorem Ql.poolIn (h:Ql C Φ ((gg a o).reverse++H) w)(k:Nat)(hk:H[k]? =some (Q3 gg s))(hg:gg a o=qX a ty K Fs x::l):s a=none/\Ql C Φ (H.set k (Q3 gg (cu s a o))) w:=by
 have h0:s a=none:=by
  rw[hg,v']at h;refine h.poolNo (gg:=gg) (K:=K) (Fs:=Fs) (x:=x) (ty:=ty) (l.length+1+k) l.length ?_ ?_ ?_
  ·cases hb:X' (l.length+1+k) l.length with
   |false=>rfl
   |true=>have:=Nat.eq_of_beq_eq_true hb;omega
  ·rw[j' (by simp<;>omega)];simp only[List.length_append,U',List.length_cons,List.length_nil];rw[show l.length+1+k-(l.length+(0+1))=k from by omega];exact hk
  ·rw[x',j' ax];simp
 refine⟨h0,?_⟩;have h1:Ql C Φ (jJ (gg a o)::H) w:=h.starsUp
 have h2:=h1.join (φ:=Q3 gg (cu s a o)) (k+1) 0 an (cx hk) rfl (λA B F ha hb hd=>by
  obtain⟨Ns,h1,h2,h3⟩:nM gg s A F w:=ha;have mj:nR (gg a o) B F w:=hb
  have hBa:B a:=by
   rw[hg]at mj;obtain⟨A',B',q1,q2,⟨q3,_⟩,_⟩:=mj;exact q1 a q3
  refine⟨λb q=>if b=a then B q else Ns b q,λb q U=>?_,λb c q de U ef=>?_,λb o' hbo=>?_⟩
  ·dsimp only at U;by_cases e:b=a;· rw[if_pos e]at U;exact .inr U
   · rw[if_neg e]at U;exact .inl (h1 b q U)
  ·dsimp only at U ef;by_cases e:b=a
   ·have e':c≠a:=λe'=>de (e.trans e'.symm);rw[if_pos e]at U;rw[if_neg e']at ef;exact hd q (h1 c q ef) U
   ·rw[if_neg e]at U;by_cases e':c=a;· rw[if_pos e']at ef;exact hd q (h1 b q U) ef
    · rw[if_neg e']at ef;exact h2 b c q de U ef
  ·by_cases e:b=a
   ·subst e;rw[kf]at hbo;cases hbo;simp only[if_true];exact⟨hBa,mj⟩
   ·rw[XB s o e]at hbo;simp only[if_neg e];exact h3 b o' hbo)
 simpa using h2
theorem Ql.cellOut (h:Ql C Φ H w)(k:Nat)(hk:H[k]? =some (qX a ty K Fs x)):∃r,Ql C (Fs x r++Φ) (H.set k (.blk a (K x r) ty)) w:=by
 obtain⟨F,N,hi⟩:=h;have bp:=(d'.1 hk).1;obtain⟨h1,r,h2,h3⟩:tm a ty K Fs x (N k) F w:=hi.owns k _ hk;refine⟨r,F,N,{hi.set k bp (Mod.refl _ _) (.blk a (K x r) ty) ⟨h1,h2⟩with facts:=λφ U=>?_}⟩;rcases q'.1 U with U|U;· exact h3 φ U
 · exact hi.facts φ U
theorem Ql.cellIn {cs:List Value} (h:Ql C Φ H w)(k:Nat)(r:Λ)(hk:H[k]? =some (.blk a cs ty))(hc:cs=K x r)(hf:∀F w,(∀ψ∈Φ,ψ.p F w)->∀φ∈Fs x r,φ.p F w):Ql C Φ (H.set k (qX a ty K Fs x)) w:=by
 subst hc;obtain⟨F,N,hi⟩:=h;have U:=(d'.1 hk).1;obtain⟨h1,h2⟩:(Fact.blk a (K x r) ty).op (N k) F w:=hi.owns k _ hk;exact⟨F,N,hi.set k U (Mod.refl _ _) (qX a ty K Fs x) ⟨h1,r,h2,hf F w hi.facts⟩⟩
end
section rules
variable {O α Λ:Type} {gg:Nat->O->List Fact} {s s':Nat->Option O} {a ty:Nat} {o:O} {K:α->Λ->List Value} {Fs:α->Λ->List Fact} {x:α} {l:List Fact}
variable {P:Program} {C:Ctx} {n:FD} {Q:Exit->Act->World->Prop} {Φ:List Fact} {H H':List Fact} {S:List (Nat×Value)} {ops:Array Oper} {rest:List Oper} {c:Code} {e:Exit} {cs:List Value}
variable {H0:List Fact}{op:Oper}{b d:Nat}{o':O}{S':List (Nat×Value)}{f:FuncId}{name:String}{r:Operand}{xs:Array Operand}{ts:Array TypeId}{t:TypeId}{v recv:Value}{gW args:List Value}
theorem Ql.pOpen {w:World} (h:Ql C Φ H w)(k:Nat)(hk:H[k]? =some (Q3 gg s))(hs:s a=some o)(hg:gg a o=qX a ty K Fs x::l):∃r,Ql C (Fs x r++Φ) (l.reverse++.blk a (K x r) ty::H.set k (Q3 gg (del s a))) w:=by
 have h1:=h.poolOut k hk hs;rw[hg,v',x']at h1;obtain⟨r,U⟩:=h1.cellOut (a:=a) (ty:=ty) (K:=K) (Fs:=Fs) (x:=x) l.length (by rw[j' ax];simp);refine⟨r,?_⟩;rw[Q' _ _ ax]at U;simpa using U
theorem JZ (k:Nat)(hk:H[k]? =some (Q3 gg s))(hs:s a=some o)(hg:gg a o=qX a ty K Fs x::l)(G:Λ->List Fact)(U:∀r,l.reverse++.blk a (K x r) ty::H.set k (Q3 gg (del s a))=G r)(next:∀r,WL P C n Q (Fs x r++Φ) (G r) S ops rest):WL P C n Q Φ H S ops rest:=λac w hf hw=>by
 obtain⟨r,h⟩:=hw.pOpen k hk hs hg;rw[U r]at h;exact next r ac w hf h
theorem Ue (k:Nat)(hk:H[k]? =some (Q3 gg s))(hs:s a=some o)(hg:gg a o=qX a ty K Fs x::l)(G:Λ->List Fact)(U:∀r,l.reverse++.blk a (K x r) ty::H.set k (Q3 gg (del s a))=G r)(next:∀r,WC P C n Q (Fs x r++Φ) (G r) S c):WC P C n Q Φ H S c:=λac w hf hw=>by
 obtain⟨r,h⟩:=hw.pOpen k hk hs hg;rw[U r]at h;exact next r ac w hf h
theorem Ql.pShut {w:World} {H0:List Fact} (h:Ql C Φ H w)(q:List Nat)(k:Nat)(r:Λ)(hg:gg a o=qX a ty K Fs x::l)(hl:ig q H.length=true)(hp:QQ H q=l.reverse++.blk a cs ty::H0)(hk:H0[k]? =some (Q3 gg s))(hc:cs=K x r)(hf:∀F w,(∀ψ∈Φ,ψ.p F w)->∀φ∈Fs x r,φ.p F w):s a=none/\Ql C Φ (H0.set k (Q3 gg (cu s a o))) w:=by
 have h1:=h.pick q hl;rw[hp]at h1;have U:=h1.cellIn (a:=a) (ty:=ty) (cs:=cs) (K:=K) (Fs:=Fs) (x:=x) l.length r (by rw[j' ax];simp) hc hf;rw[Q' _ _ ax]at U;simp only[U',Nat.sub_self,List.set_cons_zero]at U;refine Ql.poolIn (H:=H0) ?_ k hk hg;rw[hg,v',x'];exact U
theorem Yt (q:List Nat)(k:Nat)(r:Λ)(hg:gg a o=qX a ty K Fs x::l)(hl:ig q H.length=true)(hp:QQ H q=l.reverse++.blk a cs ty::H0)(hk:H0[k]? =some (Q3 gg s))(hc:cs=K x r)(hf:∀F w,(∀ψ∈Φ,ψ.p F w)->∀φ∈Fs x r,φ.p F w)(he:cu s a o=s')(hH:H0.set k (Q3 gg s')=H')
  (next:s a=none->WL P C n Q Φ H' S ops rest):WL P C n Q Φ H S ops rest:=λac w U hw=>by
 obtain⟨h0,h1⟩:=hw.pShut (o:=o) q k r hg hl hp hk hc hf;rw[he,hH]at h1;exact next h0 ac w U h1
theorem Dh (q:List Nat)(k:Nat)(r:Λ)(hg:gg a o=qX a ty K Fs x::l)(hl:ig q H.length=true)(hp:QQ H q=l.reverse++.blk a cs ty::H0)(hk:H0[k]? =some (Q3 gg s))(hc:cs=K x r)(hf:∀F w,(∀ψ∈Φ,ψ.p F w)->∀φ∈Fs x r,φ.p F w)(he:cu s a o=s')(hH:H0.set k (Q3 gg s')=H')
  (next:s a=none->WC P C n Q Φ H' S c):WC P C n Q Φ H S c:=λac w U hw=>by
 obtain⟨h0,h1⟩:=hw.pShut (o:=o) q k r hg hl hp hk hc hf;rw[he,hH]at h1;exact next h0 ac w U h1
theorem Dm (q:List Nat)(k:Nat)(r:Λ)(hg:gg a o=qX a ty K Fs x::l)(hl:ig q H.length=true)(hp:QQ H q=l.reverse++.blk a cs ty::H0)(hk:H0[k]? =some (Q3 gg s))(hc:cs=K x r)(hf:∀F w,(∀ψ∈Φ,ψ.p F w)->∀φ∈Fs x r,φ.p F w)(he:cu s a o=s')(hH:H0.set k (Q3 gg s')=H')
  (next:s a=none->WE C n Q Φ H' S e):WE C n Q Φ H S e:=λac w U hw=>by
 obtain⟨h0,h1⟩:=hw.pShut (o:=o) q k r hg hl hp hk hc hf;rw[he,hH]at h1;exact next h0 ac w U h1
theorem Ej (h:s b=some o')(U:b≠a):del s a b=some o':=(mJ s U).trans h
theorem Ee (f:O->Nat) (ha:s a=some o)(U:s b=some o')(h:X' (f o) (f o')=false):b≠a:=λe=>by
 subst e;rw[ha]at U;cases U;rw[Y']at h;cases h
def la {M:Type} (o:Option (Nat×M))(f:Nat->M->Fact):Fact:=match o with
 |none=>jJ []
 |some y=>f y.1 y.2
theorem Ql.itForget {U α:Type} {m:MS U α} {g b:Nat} {done:List U} {last:Option U} {w:World} (h:Ql C Φ H w)(i:Nat)(hi:H[i]? =some (dy m g b done last)):Ql C Φ (H.set i (dy m g b done none)) w:=
 h.as_ i hi λN F ⟨h1,seen,h2,h3,_⟩=>⟨h1,seen,h2,h3,λk hk=>by cases hk⟩
theorem U0 {α Λ:Type} {t e sz st m g:Nat} {x:Operand} {R:fq α} {cp:Nat} {l:List α} {ag:Bool} {y:α} {cells:α->Λ->List Value} {pure:α->Λ->Prop} {facts:α->Λ->List Fact} {v:Λ->Value} {p:Option Addr} (hp:p=some ⟨g,0,none⟩)(U:qW R cells pure facts)(k j i:Nat)
  (hg:QM ops S op=some true) (hd:op.dst=some d) (hn:D' d n=true) (hS:ft d S=S') (ho:op.op=.load t x)
  (bj:H[k]? =some (.own e sz R (.slice p m cp) l)) (hx:da S x=some (.pointer (some ⟨g,j*sz+i,none⟩))) (hj:l[j]? =some y) (hs:QT P t=some st) (ha:gx P t=some ag)
  (hl:∀r,(((cells y r).drop i).take st).length=st) (hv:∀r,lY ag (((cells y r).drop i).take st)=some (v r)) (next:∀r,pure y r->WL P C n Q (facts y r++Φ) H ((d,v r)::S') ops rest):WL P C n Q Φ H S ops (op::rest):=by
 subst hp;exact JU U k j i hg hd hn hS ho bj hx hj hs ha hl hv next
theorem R8 (ho:op.op=.call {callee:=.invoke r name,args:=xs,argTypes:=ts})(hr:da S r=some (.iface t v))(hx:xm S xs.toList=some gW)
  (kS:cy P f=true) (hm:∀w,(method (P.types.size+Made.depth) t v name).run P w=.ok (f,recv) w) (ha:recv::gW=args):∀ac w,gU n S ac->(execOp ac.eval op).run P w=.ok (.enter f args.toArray) w:=by
 intro ac w U
 have gY:xs.map ac.eval=gW.toArray:=by
  have:=U.evalL hx;have h0:xs=xs.toList.toArray:=ax
  rw[<-this,h0,Z']
 subst ha;unfold execOp;simp[ho,resolve,invoke,callMethod,gY,U.eval hr,hm,Yl kS]
theorem AE {Φf Hf:List Fact} {R:Value->List Fact->List Fact->Prop} (p q:List Nat)(hg:QM ops S op=some true)(hd:op.dst=some d)(hn:D' d n=true)(hS:ft d S=S')
  (ho:op.op=.call {callee:=.invoke r name,args:=xs,argTypes:=ts}) (hr:da S r=some (.iface t v)) (hx:xm S xs.toList=some gW) (kS:cy P f=true) (hm:∀w,(method (P.types.size+Made.depth) t v name).run P w=.ok (f,recv) w) (ha:recv::gW=args)
  (hH:QQ H p=Hf) (spec:QD P f args Φf Hf R) (eo:∀F w,(∀ψ∈Φ,ψ.p F w)->∀φ∈Φf,φ.p F w) (hl:ig (p++q) H.length=true) (hq:QQ H q=H')
  (next:∀v U Hr,R v U Hr->WL P C n Q (U++Φ) (Hr++H') ((d,v)::S') ops rest):WL P C n Q Φ H S ops (op::rest):=
 tQ p q hg (R8 ho hr hx kS hm ha) hH spec eo hl hq λv U Hr hR ac w hf hw=>by rw[hd];exact next v U Hr hR _ w (hf.put (p' hn) hS) hw
def Ka (gg:Nat->O->List Fact):Prop:=∀a o,∃(α Λ:Type)(ty:Nat)(K:α->Λ->List Value)(Fs:α->Λ->List Fact)(x:α)(l:List Fact),gg a o=qX a ty K Fs x::l
theorem Ql.domP {w:World} (h:Ql C Φ H w)(k:Nat)(hk:H[k]? =some (Q3 gg s))(hr:Ka gg)(y:Nat)(hy:s y≠none):mg w y:=by
 obtain⟨F,N,hi⟩:=h;obtain⟨Ns,h1,h2,h3⟩:nM gg s (N k) F w:=hi.owns k _ hk;cases ho:s y with
 |none=>exact absurd ho hy
 | some o=>
   obtain⟨_,U⟩:=h3 y o ho;obtain⟨α,Λ,ty,K,Fs,x,l,hg⟩:=hr y o;rw[hg]at U;obtain⟨A,B,_,_,⟨_,r,h5,_⟩,_⟩:=U;exact⟨_,_,h5⟩
theorem Ql.domB {w:World} {t:Nat} (h:Ql C Φ H w)(j:Nat)(hj:H[j]? =some (.blk a cs t)):mg w a:=by
 obtain⟨F,N,hi⟩:=h;obtain⟨_,U⟩:(Fact.blk a cs t).op (N j) F w:=hi.owns j _ hj;exact⟨_,_,U⟩
theorem P4 {w:World} (h:∀y,del s a y≠none->mg w y)(U:mg w a):∀y,s y≠none->mg w y:=λy hy=>by
 by_cases e:y=a;· rw[e];exact U
 · exact h y (by rw[mJ s e];exact hy)
end rules
end
section
open Go Go.RowKit
def rR (l:Nat)(r:Loop):Fact:=.duo (λN _ w=>N l/\w.heap[l]? =some (.loop r)) (λU ha _ _ h=>⟨U _ h.1,(ha l h.1).trans h.2⟩)
def tC (Ds:List Nat):Fact:=.duo (λN _ w=>Ds.Nodup/\∀D∈Ds,N D/\w.heap[D]? =some (.deferred (some []))) (λhN ha _ _ h=>⟨h.1,λD U=>⟨hN _ (h.2 D U).1,(ha D (h.2 D U).1).trans (h.2 D U).2⟩⟩)
abbrev Mb (D:Nat):Deferred:={target:=.collected D,args:=#[]}
def marks (Ds:List Nat):List Deferred:=Ds.map Mb
abbrev fw (r:Option Nat):Fence:={fn:=λ_=>True,depth:=none,alive:=false,round:=r}
def uQ (l:List Oper):Bool:=l.all λo=>match o.op with
 | .defer _=>false
 |_=>true
def QN (K:Act->World->Prop):Exit->Act->World->Prop
 | .normal,a,w=>K a w
 |_,_,_=>False
theorem Cv (K:Act->World->Prop):¬LetsOut (QN K):=λ⟨_,_,h⟩=>h
section
variable {P:Program}
variable {args:Array Value}{w:World}
theorem Ew {r:Option Nat} {n:Nat} {f:FuncId} {R:Ending->World->Prop} (h:Calls P f args w R):CallsIn (fw r) n P f args w R:=by
 have U:CallsIn Fence.wide n P f args w R:=callsIn_wide.2 h;exact⟨trivial,λcs hr=>U.2 cs (λ_ hd=>by cases hd)⟩
theorem IQ {r:Option Nat} {n:Nat} {f:String} {R:Value->World->Prop} (h:Rows P f args w R):RowsIn (fw r) n P f args w R:=by
 intro c cs hr;obtain⟨v,w',U,hs⟩:=h c cs;exact⟨v,w',U,stepsIn_wide.2 hs⟩
theorem xT {r:Option Nat} {ops:Array Oper} {Q:Exit->Act->World->Prop} {l2:List Oper}:∀(l1:List Oper),uQ l1=true->∀a w,wpList P ops (QN λa w=>wpListIn (fw r) 0 P ops Q l2 a w) l1 a w->wpListIn (fw r) 0 P ops Q (l1++l2) a w
 |[],_,a,w,h=>h
 | o ::l1,hp,a,w,h=>by
   simp only[uQ,List.all_cons,a!]at hp;have U:=xT (r:=r) (Q:=Q) (l2:=l2) (ops:=ops) l1 hp.2;unfold wpList at h;show wpListIn (fw r) 0 P ops Q (o::(l1++l2)) a w;unfold wpListIn;by_cases hw:Region.wanted o (yielded ops a.tmps)=true
   ·rw [if_pos hw]at h⊢;rcases h with h|⟨_,h⟩
    ·refine⟨λ_ _=>trivial,?_⟩
     have hs:Oper.semAt (fw r).round a.eval o=execOp a.eval o:=by
       cases r with
       |none=>rfl
       |some l=>exact Oper.semAt_some l _ _ λc hc=>by have:=hp.1;rw[hc]at this;cases this
     rw[hs];unfold Oper.wp at h;generalize (execOp a.eval o).run P w=res at h⊢;cases res with
     | ok x w'=>
       cases x with
       |value v=>exact U _ _ h
       |skip=>exact U _ _ h
       |defer d=>exact U _ _ h
       | enter f args=>
         refine⟨λh=>(by cases h),Ew (Calls.mono h ?_)⟩;intro e w'' he;cases e with
         |returned v=>exact U _ _ he
         |panicked ch=>exact he.elim
         |outgrown=>exact(Cv _ he).elim
       |row f args=>exact⟨λh=>(by cases h),IQ (Rows.mono h λv w'' he=>U _ _ he)⟩
       |_=>exact h.elim
     |halt x w'=>cases x<;>exact h.elim
    · exact(Cv _ h).elim
   ·rw[if_neg hw]at h⊢;exact⟨λ_ _=>trivial,U _ _ h⟩
end
section mT
variable (P:Program) (r:Option Nat) (C:Ctx) (n:FD) (Q:Exit->Act->World->Prop) (Φ:List Fact) (H:List Fact) (S:List (Nat×Value))
def Yw (ops:Array Oper)(rest:List Oper):Prop:=∀a w,gU n S a->Ql C Φ H w->wpListIn (fw r) 0 P ops Q rest a w
def WCI (c:Code):Prop:=∀a w,gU n S a->Ql C Φ H w->c.wpIn (fw r) 0 P Q a w
end mT
section
variable {P:Program} {r:Option Nat} {C:Ctx} {n:FD} {Q:Exit->Act->World->Prop} {Φ Φ':List Fact} {H H':List Fact} {S S':List (Nat×Value)} {ops:Array Oper} {rest:List Oper} {o:Oper} {d:Nat} {c x y:Code}
variable {R:Value->List Fact->List Fact->Prop}{l k id:Nat}{body assign:Code}{v:Value}{fn:Func}{rc:Loop}{l2:List Oper}{Φf Hf rI:List Fact}{D:List Deferred}{a:Act}{t:Tmp}{Ds:List Nat}{e:Exit}{σ:Type}
theorem Sw (U:List Oper) (hl:rest=U++l2)(hp:uQ U=true)(h:WL P C n (QN λa w=>wpListIn (fw r) 0 P ops Q l2 a w) Φ H S ops U):Yw P r C n Q Φ H S ops rest:=by
 subst hl;exactλa w hf hw=>xT U hp a w (h a w hf hw)
theorem Tw (h:Yw P r C n Q Φ H S ops l2):WE C n (QN λa w=>wpListIn (fw r) 0 P ops Q l2 a w) Φ H S .normal:=h
theorem qN (h:WE C n Q Φ H S .normal):WE C n (QN λa w=>wpListIn (fw r) 0 P ops Q [] a w) Φ H S .normal:=h
theorem QbV {l:List Oper} (h:Yw P r C n Q Φ H S l.toArray l):WCI P r C n Q Φ H S (.region id l.toArray false):=λa w U hw=>wpIn_region_lit (h a w U hw)
theorem yE (h:WCI P r C n (Exit.inBlock id Q) Φ H S c):WCI P r C n Q Φ H S (.block id c):=λa w U hw=>wpIn_block (h a w U hw)
theorem vE {l:List Oper} (h:Yw P none C n Q Φ H S l.toArray l):WC P C n Q Φ H S (.region id l.toArray false):=λa w U hw=>wpIn_wide.1 (wpIn_region_lit (n:=0) (F:=fw none) (h a w U hw))
def zg (P:Program)(l:Nat)(fn:FuncId)(tmps:Array Value)(assign body:Code)(Φ rI:List Fact)(R:Value->List Fact->List Fact->Prop):Prop:=
 ∀ (F:ep) (N:Nat->ep) (w:World),(∀k,F k->k<w.heap.size)->(∀φ∈Φ,φ.p F w)->(∀(i:Nat) (h:Fact),rI[i]? =some h->h.op (N i) F w)->
   (∀i k,i<rI.length->N i k->k<w.heap.size/\¬F k)->(∀i j k,i<rI.length->j<rI.length->i≠j->N i k->¬N j k)->
   RoundIn (fw none) 0 P l fn tmps assign body w (tD ⟨w,λk=>∃i,i<rI.length/\N i k,F⟩ R)
theorem na:∀(l:List Nat) {m:List Nat} {k:Nat},ig (l++m) k=true->ig l k=true
 |[],_,_,_=>rfl
 | i::l,m,k,h=>by
   simp only[List.cons_append,ig,a!,Bool.not_eq_true',List.any_append,Bool.or_eq_false_iff]at h⊢;exact⟨⟨h.1.1,h.1.2.1⟩,na l h.2⟩
theorem GZ {N:ep} {w:World} {b:Nat} (o:Obj)(U:N b):Mod N w (w.putObj b o):=
 ⟨rfl,rfl,rfl,by simp[World.putObj],λk hk hn=>World.putObj_heap_other (λe=>hn (by rw[e];exact U) |>.elim)⟩
theorem Ql.loopAt {w:World} (h:Ql C Φ H w)(k l:Nat) {rc:Loop} (hk:H[k]? =some (rR l rc)):w.heap[l]? =some (.loop rc):=by
 obtain⟨F,N,hi⟩:=h;exact(hi.owns k _ hk).2
theorem Ql.loopPut {w:World} (h:Ql C Φ H w)(k l:Nat) {rc:Loop} (U:Loop)(hk:H[k]? =some (rR l rc)):Ql C Φ (H.set k (rR l U)) (w.putObj l (.loop U)):=by
 obtain⟨F,N,hi⟩:=h;obtain⟨h1,h2⟩:=hi.owns k _ hk;exact⟨F,N,hi.set k (d'.1 hk).1 (GZ _ h1) _ ⟨h1,World.putObj_heap_same (n'.1 h2).1⟩⟩
theorem Ql.newObj {w:World} (h:Ql C Φ H w)(o:Obj)(φ:Fact)(U:∀F,φ.op (λk=>k=w.heap.size) F (w.alloc o)):Ql C Φ (φ::H) (w.alloc o):=by
 obtain⟨F,N,hi⟩:=h;have hb:Below w.heap.size w (w.alloc o):=(Below.refl _ _).alloc (h' _) _;refine⟨F,r6 (λk=>k=w.heap.size) N,(hi.grow hb).push _ _ (U F) ?_ ?_⟩
 ·rintro k rfl;exact⟨ax,.inl hi.mod.size,λhf=>z' _ (hi.flt _ hf)⟩
 ·rintro i k hl rfl hn;exact z' _ (hi.nlt i _ hl hn).1
theorem yI {t:Operand} {xs:Array Operand} {ts:Array TypeId} {vs:List Value} (p q:List Nat)(hg:QM ops S o=some true)(hd:o.dst=some d)(hn:D' d n=true)(hS:ft d S=S')
  (ho:o.op=.call {callee:=.value t,args:=xs,argTypes:=ts}) (ht:da S t=some (.func (.yield l) #[] #[])) (hx:xm S xs.toList=some vs) (hH:QQ H p=rR l rc::Hf) (R1:vs.length=rc.params.size)
  (spec:zg P l rc.fn ((rc.params.zip vs.toArray).foldl (λtmps (t,a)=>tmps.setIfInBounds t a) rc.tmps) rc.assign rc.body Φf (rR l rc::Hf) R) (eo:∀F w,(∀ψ∈Φ,ψ.p F w)->∀φ∈Φf,φ.p F w) (hl:ig (p++q) H.length=true) (hm:QQ H q=H')
  (next:∀v U Hr,R v U Hr->Yw P none C n Q (U++Φ) (Hr++H') ((d,v)::S') ops rest):Yw P none C n Q Φ H S ops (o::rest):=by
 subst hm;intro a w hf ⟨F,N,hi⟩;have hp:=hi.pick p (na p hl);rw[hH]at hp;have sR:w.heap[l]? =some (.loop rc):=(hp.owns 0 _ rfl).2;have Wl:=spec F _ w hi.flt (λφ bj=>eo F w hi.facts φ bj) hp.owns (λi k jq hk=>⟨(hp.nlt i k jq hk).1,(hp.nlt i k jq hk).2.2⟩) hp.apart;unfold wpListIn;rw[Jf hf hg,if_pos rfl]
 have gY:xs.map a.eval=vs.toArray:=by
  have:=hf.evalL hx;have h0:xs=xs.toList.toArray:=ax
  rw[<-this,h0,Z']
 have Jx:a.eval t=.func (.yield l) #[] #[]:=hf.eval ht
 have fk:((o.semAt (fw none).round a.eval).run P w)=.ok (.round l rc.fn ((rc.params.zip vs.toArray).foldl (λtmps (t,a)=>tmps.setIfInBounds t a) rc.tmps) rc.assign rc.body) w:=by
  have h2:(resolve a.eval {callee:=.value t,args:=xs,argTypes:=ts} o.type).run P w=.ok {target:=.fn (.yield l) #[],args:=vs.toArray} w:=by
   simp[resolve,Jx,Deferred.ofValue,gY]
  show(execOp a.eval o).run P w=_;unfold execOp;simp only[ho,Sem.run_bind,h2,Result.andThen_ok];have:=run_yield (P:=P) (args:=vs.toArray) sR (cx R1);simp[invoke,go_sem,this]
 refine⟨λ_ _=>trivial,?_⟩;rw[fk,Oper.uponIn_round];refine⟨λh=>(by cases h),Wl.mono ?_⟩;rintro e w' ⟨v,U,Hr,rfl,hR,hh⟩;rw[hd];have hh':Ql ⟨w,λk=>∃i,i<(QQ H p).length/\N (p.getD i 0) k,F⟩ U Hr w':=by rw[hH];exact hh
 exact next v U Hr hR _ _ (hf.put (p' hn) hS) (hi.after hl hh')
theorem CI {fn:FuncId} {tmps:Array Value} {Φ:List Fact} (hf:gU ⟨k,[]⟩ S {tmps:=tmps,defers:=[]})
  (h:∀C,WCI P (some l) C ⟨k,[]⟩ (Exit.then (λwk wV=>∃U,(Instr.beginRound l).run P wV=.ok () U/\body.wpIn (fw (some l)) 0 P (roundPost P l (tD C R)) wk U) (λ_ _ _=>False)) Φ rI S assign):
  zg P l fn tmps assign body Φ rI R:=by
 intro F N w hF eo hH bp uo;exact roundIn_of_wpIn (F:=fw none) trivial (h ⟨w,λk=>∃i,i<rI.length/\N i k,F⟩ _ w hf ⟨F,N,hF,λ_ h=>h,λ_ h=>.inl h,eo,hH,λi k hi hk=>⟨(bp i k hi hk).1,.inr ⟨i,hi,hk⟩,(bp i k hi hk).2⟩,uo,Mod.refl _ _⟩)
theorem Lf (hf:gU ⟨k,D⟩ S a)(ht:D' t k=true)(U:ft t S=S'):
  gU ⟨k,[]⟩ ((t,v)::S') {tmps:=((#[t]:Array Tmp).zip #[v]).foldl (λtmps (t,a)=>tmps.setIfInBounds t a) a.tmps,defers:=[]}:=by
 have h:=hf.put (d:=t) (v:=v) (p' ht) U;have e:((#[t]:Array Tmp).zip #[v]).foldl (λtmps (t,a)=>tmps.setIfInBounds t a) a.tmps=(a.put (some t) v).tmps:=by simp[Act.put]
 rw[e];exact⟨h.size,rfl,h.at_⟩
theorem Lg {u:Tmp} {x:Value} {S2:List (Nat×Value)} (hf:gU ⟨k,D⟩ S a)(ht:D' t k=true)(hu:D' u k=true)(hS:ft t S=S')(U:ft u ((t,v)::S')=S2):
  gU ⟨k,[]⟩ ((u,x)::S2) {tmps:=((#[t,u]:Array Tmp).zip #[v,x]).foldl (λtmps (t,a)=>tmps.setIfInBounds t a) a.tmps,defers:=[]}:=by
 have h:=(hf.put (d:=t) (v:=v) (p' ht) hS).put (d:=u) (v:=x) (p' hu) U;have e:((#[t,u]:Array Tmp).zip #[v,x]).foldl (λtmps (t,a)=>tmps.setIfInBounds t a) a.tmps=((a.put (some t) v).put (some u) x).tmps:=by simp[Act.put]
 rw[e];exact⟨h.size,rfl,h.at_⟩
theorem Dj {R:Ending->World->Prop} (k:Nat)(hk:H[k]? =some (rR l rc))(hr:rc.state=.ready)(hE:H.set k (rR l {rc with state:=.busy})=H')
  (h:WCI P (some l) C n (roundPost P l R) Φ H' S body):WE C n (Exit.then (λwk wV=>∃U,(Instr.beginRound l).run P wV=.ok () U/\body.wpIn (fw (some l)) 0 P (roundPost P l R) wk U) (λ_ _ _=>False)) Φ H S .normal:=by
 subst hE;exactλa w hf hw=>⟨_,run_beginRound (hw.loopAt k l hk) hr,h a _ hf (hw.loopPut k l _ hk)⟩
theorem rG (k:Nat)(hk:H[k]? =some (rR l rc))(U:H.set k (rR l {rc with state:=.ready,pending:=none})=H')
  (hR:R (.bool true) Φ H'):WE C n (roundPost P l (tD C R)) Φ H S .normal:=by
 subst U;exactλa w hf hw=>⟨_,_,run_endRound none (hw.loopAt k l hk),_,_,_,rfl,hR,hw.loopPut k l _ hk⟩
theorem Di {g:Operand} {ps:Array Tmp} {gf:FuncId} {lb:List Value} {R:List Fact->List Fact->Prop} (p q:List Nat)(hg:da S g=some (.func (.func gf) #[] lb.toArray))(kS:cy P gf=true)
  (hH:∀φ1 φ2,QQ (φ1::φ2::H) p=φ1::Hf) (eo:∀F w,(∀ψ∈Φ,ψ.p F w)->∀φ∈Φf,φ.p F w) (hl:ig (p++q) (H.length+2)=true) (hq:∀φ1 φ2,QQ (φ1::φ2::H) q=φ2::H')
  (spec:∀fn l D a,gU n S a->QD P gf (.func (.yield l) #[] #[]::lb) Φf (rR l {state:=.ready,pending:=none,fn:=fn,tmps:=a.tmps,params:=ps,assign:=assign,body:=body,defers:=D}::Hf) (λ_ bo Hr=>∃rr U,rr.state≠.busy/\rr.pending=none/\Hr=rR l rr::U/\R bo U))
  (next:∀D bo U,R bo U->WE C ⟨n.k,Mb D::n.D⟩ Q (bo++Φ) (U++tC [D]::H') S .normal):WC P C n Q Φ H S (.rangeFunc g ps assign body):=by
 intro a w hf hw;refine(wpIn_wide (n:=0)).1 (wpIn_rangeFunc λfn _=>?_)
 have h1:Ql C Φ (tC [w.heap.size]::H) (w.alloc (.deferred (some []))):=hw.newObj _ _ λF=>⟨ax,λD hD=>by
  rw[V'.1 hD];exact⟨rfl,World.alloc_heap_new _ _⟩⟩
 obtain⟨rec,R2⟩:∃rec:Loop,rec={state:=.ready,pending:=none,fn:=fn,tmps:=a.tmps,params:=ps,assign:=assign,body:=body,defers:=w.heap.size}:=⟨_,rfl⟩
 have h2:Ql C Φ (rR (w.heap.size+1) rec::tC [w.heap.size]::H) ((w.alloc (.deferred (some []))).alloc (.loop rec)):=by
  have e:(w.alloc (.deferred (some []))).heap.size=w.heap.size+1:=World.size_alloc _ _;exact h1.newObj _ (rR (w.heap.size+1) rec) λF=>⟨e.symm,by have:=World.alloc_heap_new (w.alloc (.deferred (some []))) (.loop rec);rwa [e]at this⟩
 rw[R2]at h2;generalize hW2:((w.alloc (.deferred (some []))).alloc (.loop {state:=.ready,pending:=none,fn:=fn,tmps:=a.tmps,params:=ps,assign:=assign,body:=body,defers:=w.heap.size}))=W2 at h2;rw[<-R2]at h2;refine⟨w.heap.size+1,[Mb w.heap.size],W2,{target:=.fn (.func gf) lb.toArray,args:=#[.func (.yield (w.heap.size+1)) #[] #[]]},W2,gf,#[.func (.yield (w.heap.size+1)) #[] #[]]++lb.toArray,W2,by rw[<-hW2];exact run_enterLoop_outer _ _ _ _ _,?_,λ_ _=>trivial,?_,λh=>(by cases h),?_⟩
 ·simp only[resolve,hf.eval hg];simp[go_sem]
 · simp[invoke,go_sem,Yl kS]
 ·obtain ⟨F,N,hi⟩:=h2;have hp:=hi.pick p (na p hl);rw[hH]at hp;have hc:=spec fn (w.heap.size+1) w.heap.size a hf F _ _ hi.flt (λφ bj=>eo F _ hi.facts φ bj) (by rw[<-R2];exact hp.owns) (λi k jq hk=>⟨(hp.nlt i k jq hk).1,(hp.nlt i k jq hk).2.2⟩) (by exact hp.apart);rw[<-R2]at hc;have e0:(.func (.yield (w.heap.size+1)) #[] #[]::lb).toArray=#[Value.func (.yield (w.heap.size+1)) #[] #[]]++lb.toArray:=ax
  rw[e0]at hc;refine callsIn_wide.2 (hc.mono ?_);rintro e w' ⟨v,bo,Hr,rfl,⟨rr,U,hr1,hr2,rfl,hR⟩,hh⟩
  have hh':Ql ⟨W2,λk=>∃i,i<(QQ (rR (w.heap.size+1) rec::tC [w.heap.size]::H) p).length/\N (p.getD i 0) k,F⟩ bo (rR (w.heap.size+1) rr::U) w':=by
   rw[hH];exact hh
  have h3:=hi.after (m:=q) hl hh';rw[hq]at h3;have hl3:=h3.loopAt 0 _ rfl;refine⟨none,_,(by have:=run_endLoop (P:=P) hl3 hr1;rwa [hr2]at this),?_⟩;have h4:=h3.loopPut 0 _ {rr with state:=.exhausted} rfl;rw[hr2]at h4;have h5:Ql C (bo++Φ) (U++tC [w.heap.size]::H') _:=h4.drop 0 ax rfl;exact next w.heap.size bo U hR _ _ ⟨hf.size,by simp[hf.defers],hf.at_⟩ h5
theorem Ql.dfrs {w:World} {Ds Es:List Nat} (h:Ql C Φ H w)(k j:Nat)(de:X' k j=false)(hk:H[k]? =some (tC Ds))(hj:H[j]? =some (tC Es)):Ql C Φ ((H.set k (tC (Es++Ds))).eraseIdx j) w:=
 h.join (φ:=tC (Es++Ds)) k j (Nat.ne_of_beq_eq_false de) hk hj λA B F U hb hd=>⟨G'.2 ⟨hb.1,U.1,λx hx y hy e=>by subst e;exact hd x (U.2 x hy).1 (hb.2 x hx).1⟩,λD hD=>by
  rcases q'.1 hD with h|h;· exact⟨.inr (hb.2 D h).1,(hb.2 D h).2⟩
  · exact⟨.inl (U.2 D h).1,(U.2 D h).2⟩⟩
theorem Hv {Es:List Nat} (k j:Nat)(U:X' k j=false)(hk:H[k]? =some (tC Ds))(hj:H[j]? =some (tC Es))(hH:(H.set k (tC (Es++Ds))).eraseIdx j=H')(h:WE C n Q Φ H' S e):WE C n Q Φ H S e:=by
 subst hH;exactλa w hf hw=>h a w hf (hw.dfrs k j U hk hj)
theorem CO {f:FuncId} {n:Nat} {args:List Value} {S:List (Nat×Value)} {Φ:List Fact}
  (hf:P.funcs[f]? =some fn) (hb:fn.body=some body) (hn:fn.ntmps=n) (hle:Nat.ble args.length n=true) (hS:Dw 0 args=S) (h:∀C,WC P C ⟨n,marks []⟩ (bodyPostM Fence.wide 0 P fn (tD C R)) Φ (tC []::rI) S body):QD P f args Φ rI R:=by
 intro F N w hF eo hH bp uo;refine callsIn_wide.1 (callsIn_of_wp_marks (n:=0) hf hb trivial ((wpIn_wide (n:=0)).2 (h ⟨w,λk=>∃i,i<rI.length/\N i k,F⟩ _ w ⟨?_,rfl,?_⟩ ?_)))
 ·have:=p' hle;simp[hn];try omega
 ·intro x hx;rw[<-hS]at hx;obtain⟨_,U⟩:=vJ hx;rw[Nat.sub_zero]at U;have hl:=(d'.1 U).1;rw[Array.getElem?_append_left (cx hl)];simpa using U
 ·have h0:iD ⟨w,λk=>∃i,i<rI.length/\N i k,F⟩ Φ rI F N w:=⟨hF,λ_ h=>h,λ_ h=>.inl h,eo,hH,λi k hi hk=>⟨(bp i k hi hk).1,.inr ⟨i,hi,hk⟩,(bp i k hi hk).2⟩,uo,Mod.refl _ _⟩
  exact⟨F,_,h0.push (tC []) (λ_=>False) ⟨List.nodup_nil,λD h=>by cases h⟩ (λk h=>h.elim) (λi k _ h=>h.elim)⟩
theorem oA {fn:Func} {tmps:Array Value} {R:Ending->World->Prop} {v:Value} (hr:∀w,(results fn tmps).run P w=.ok v w):∀(Ds:List Nat)(w:World),Ql C Φ (tC Ds::H) w->(∀w',Ql C Φ H w'->R (.returned v) w')->LeavesInM Fence.wide 0 P fn tmps R (marks Ds) .returning w
 |[],w,h,hR=>⟨v,hr w,hR w (h.drop 0 ax rfl)⟩
 | D::Ds,w,⟨F,N,hi⟩,hR=>by
   have U:=hi.owns 0 _ rfl;have hD:=U.2 D ax;have Iq:=O'.1 U.1;refine⟨ax,.inl ⟨D,_,rfl,run_takeDeferred hD.2,oA hr Ds _ ⟨F,N,hi.set 0 ax (GZ _ hD.1) (tC Ds) ⟨Iq.2,λE hE=>⟨(U.2 E (by simp[hE])).1,?_⟩⟩⟩ hR⟩⟩;exact(World.putObj_heap_other (λe=>Iq.1 (by rw[<-e];exact hE))).trans (U.2 E (by simp[hE])).2
theorem Dl (he:e=.normal\/e=.ret)(hn:n.D=marks Ds)(hk:H=tC Ds::H')(hr:∀a w,gU n S a->(results fn a.tmps).run P w=.ok v w)(hR:R v Φ H'):
  WE C n (bodyPostM Fence.wide 0 P fn (tD C R)) Φ H S e:=by
 subst hk;intro a w U hw
 have:LeavesInM Fence.wide 0 P fn a.tmps (tD C R) a.defers .returning w:=by
  rw[U.defers,hn];exact oA (λw=>hr a w U) Ds w hw λw' h=>⟨_,_,_,rfl,hR,h⟩
 rcases he with rfl|rfl;· exact this
 · exact this
theorem results_tmp {t:Nat} (h:fn.results=#[.tmp t])(hv:look S t=some v):∀a w,gU n S a->(results fn a.tmps).run P w=.ok v w:=λa w U=>by
 have:=U.at_ _ (NY hv);simp only at this;simp[results,h,this,go_sem]
theorem CG (h:fn.results=#[]):∀a w,gU n S a->(results fn a.tmps).run P w=.ok (.tuple #[]) w:=λa w _=>by simp[results,h,go_sem]
theorem Nz (ok:σ->Prop)(μ:σ->Nat)(WK:σ->FD)(rT:σ->List (Nat×Value))(iV rJ:σ->List Fact)(U:σ)(h0:ok U)(hn:n=WK U)(l:List Nat)(hS:j0 l S=rT U)(eo:∀F w,(∀ψ∈Φ,ψ.p F w)->∀φ∈iV U,φ.p F w)(hH:H=rJ U)
  (round:∀s,ok s->WC P C (WK s) (Exit.then (λa' w'=>∃s',μ s'<μ s/\pQ ok rT iV rJ C (WK s') s' a' w') Q) (iV s) (rJ s) (rT s) c):WC P C n Q Φ H S (.loop c):=by
 subst hn;intro a w hf hw;refine uF (λm a w=>∃s,μ s=m/\pQ ok rT iV rJ C (WK s) s a w) ?_ (μ U) a w ⟨U,rfl,CS U h0 l hS eo hH hf hw⟩;rintro m a w ⟨s,rfl,cr,hf,hw⟩;refine wp_mono (round s cr a w hf hw) λe a' w' hq=>?_
 cases e with
 |normal=>obtain⟨s',h1,h2⟩:=hq;exact⟨_,h1,s',rfl,h2⟩
 |_=>exact hq
theorem J5 {ok:σ->Prop} {WK:σ->FD} {rT:σ->List (Nat×Value)} {iV rJ:σ->List Fact} {μ:σ->Nat} (s':σ)(U:μ s'<k)(h0:ok s')(hn:n=WK s')(l:List Nat)(hS:j0 l S=rT s')(eo:∀F w,(∀ψ∈Φ,ψ.p F w)->∀φ∈iV s',φ.p F w)(hH:H=rJ s'):
  WE C n (Exit.then (λa' w'=>∃s',μ s'<k/\pQ ok rT iV rJ C (WK s') s' a' w') Q) Φ H S .normal:=by
 subst hn;exactλa w hf hw=>⟨s',U,CS s' h0 l hS eo hH hf hw⟩
end
end
section
open Tryz
open Go.RowKit
theorem jk:QT prog 2=some 1:=aq
theorem ji:gx prog 2=some false:=aq
theorem dh:QT prog 3=some 1:=aq
theorem dx:gx prog 3=some false:=aq
theorem a1Q:j1 prog 3=some (.int .i64 0):=aq
theorem a1L:jj prog 3=some (.int .i64 0,1,8):=aq
theorem Xn:prog.underlying 3=some (.int .i64):=aq
theorem rZ:QT prog 4=some 1:=aq
theorem X8:gx prog 4=some false:=aq
theorem RN:j1 prog 4=some (.bool false):=aq
theorem Xk:jj prog 4=some (.bool false,1,1):=aq
theorem lW:prog.underlying 4=some .bool:=aq
theorem lV:QT prog 9=some 1:=aq
theorem lU:gx prog 9=some false:=aq
theorem pj:QT prog 22=some 1:=aq
theorem oV:gx prog 22=some false:=aq
theorem jL:iA prog 22=some 78:=aq
theorem vu:QT prog 23=some 1:=aq
theorem vl:gx prog 23=some false:=aq
theorem mz:iA prog 23=some 73:=aq
theorem vv:QT prog 25=some 2:=aq
theorem yt:gx prog 25=some true:=aq
theorem a1P:j1 prog 25=some (.agg #[.slice none 0 0,.slice none 0 0]):=aq
theorem Up:QW prog 25 0=some 0:=aq
theorem Uq:QW prog 25 1=some 1:=aq
theorem vp:iA prog 26=some 42:=aq
theorem Nc:QT prog 31=some 1:=aq
theorem MY:gx prog 31=some false:=aq
theorem we:QT prog 38=some 1:=aq
theorem xb:gx prog 38=some false:=aq
theorem pL:iA prog 38=some 63:=aq
theorem jr:QT prog 40=some 3:=aq
theorem vR:gx prog 40=some true:=aq
theorem Bc:j1 prog 40=some (.agg #[.int .i64 0,.int .i64 0,.slice none 0 0]):=aq
theorem Na:jj prog 40=some (.agg #[.int .i64 0,.int .i64 0,.slice none 0 0],3,40):=aq
theorem a1I:vP prog 40=some [(0,1),(1,1),(2,1)]:=aq
theorem HK:QW prog 40 0=some 0:=aq
theorem pc:QW prog 40 1=some 1:=aq
theorem O5:QW prog 40 2=some 2:=aq
theorem D6:QT prog 42=some 4:=aq
theorem Ho:j1 prog 42=some (.agg #[.bool false,.int .i64 0,.int .i64 0,.slice none 0 0]):=aq
theorem Tq:vP prog 42=some [(0,1),(1,3)]:=aq
theorem Ag:QW prog 42 1=some 1:=aq
theorem qY:iA prog 50=some 40:=aq
theorem jN:iA prog 51=some 101:=aq
theorem yx:QT prog 58=some 1:=aq
theorem yu:gx prog 58=some false:=aq
theorem jO:QT prog 59=some 1:=aq
theorem lh:gx prog 59=some false:=aq
theorem za:iA prog 59=some 76:=aq
theorem Nf:QT prog 60=some 1:=aq
theorem N1:gx prog 60=some false:=aq
theorem Hn:QT prog 61=some 1:=aq
theorem Hg:gx prog 61=some false:=aq
theorem fc:QT prog 63=some 3:=aq
theorem iU:gx prog 63=some true:=aq
theorem lu:j1 prog 63=some (.agg #[.int .u8 0,.int .i64 0,.string ⟨#[]⟩]):=aq
theorem Hm:jj prog 63=some (.agg #[.int .u8 0,.int .i64 0,.string ⟨#[]⟩],3,32):=aq
theorem El:vP prog 63=some [(0,1),(1,1),(2,1)]:=aq
theorem ta:QW prog 63 0=some 0:=aq
theorem w6:QW prog 63 1=some 1:=aq
theorem tc:QW prog 63 2=some 2:=aq
theorem pk:QT prog 64=some 1:=aq
theorem oW:gx prog 64=some false:=aq
theorem qZ:QT prog 65=some 1:=aq
theorem rS:gx prog 65=some false:=aq
theorem nH:iA prog 65=some 67:=aq
theorem kD:QT prog 67=some 7:=aq
theorem wc:gx prog 67=some true:=aq
theorem Hp:j1 prog 67=some (.agg #[.int .u8 0,.int .u8 0,.int .i64 0,.string ⟨#[]⟩,.int .i64 0,.int .u8 0,.slice none 0 0]):=aq
theorem a1M:jj prog 67=some (.agg #[.int .u8 0,.int .u8 0,.int .i64 0,.string ⟨#[]⟩,.int .i64 0,.int .u8 0,.slice none 0 0],7,80):=aq
theorem Ah:QW prog 67 0=some 0:=aq
theorem Ai:QW prog 67 1=some 1:=aq
theorem SB:QW prog 67 2=some 4:=aq
theorem P1:QW prog 67 3=some 5:=aq
theorem HL:QW prog 67 4=some 6:=aq
theorem AL:QT prog 69=some 10:=aq
theorem lj:gx prog 69=some true:=aq
theorem Nn:j1 prog 69=some (.agg #[.int .u8 0,.int .i64 0,.slice none 0 0,.int .u8 0,.int .u8 0,.int .i64 0,.string ⟨#[]⟩,.int .i64 0,.int .u8 0,.slice none 0 0]):=aq
theorem lH:QW prog 69 0=some 0:=aq
theorem td:QW prog 69 1=some 1:=aq
theorem P2:QW prog 69 2=some 2:=aq
theorem Uh:QW prog 69 3=some 3:=aq
theorem vw:QT prog 70=some 1:=aq
theorem vn:gx prog 70=some false:=aq
theorem oX:iA prog 70=some 69:=aq
theorem D7:QT prog 71=some 1:=aq
theorem CT:gx prog 71=some false:=aq
theorem yw:iA prog 71=some 105:=aq
theorem kA:QT prog 73=some 5:=aq
theorem CU:gx prog 73=some true:=aq
theorem Np:j1 prog 73=some (.agg #[.string ⟨#[]⟩,.int .i64 0,.int .i64 0,.slice none 0 0,.slice none 0 0]):=aq
theorem te:QW prog 73 0=some 0:=aq
theorem Hi:QW prog 73 1=some 1:=aq
theorem tf:QW prog 73 2=some 2:=aq
theorem Ui:QW prog 73 3=some 3:=aq
theorem pd:QW prog 73 4=some 4:=aq
theorem D8:QT prog 74=some 1:=aq
theorem CV:gx prog 74=some false:=aq
theorem wg:QT prog 76=some 5:=aq
theorem rB:gx prog 76=some true:=aq
theorem rF:j1 prog 76=some (.agg #[.int .u8 0,.int .i64 0,.int .u8 0,.int .i64 0,.string ⟨#[]⟩]):=aq
theorem Ts:jj prog 76=some (.agg #[.int .u8 0,.int .i64 0,.int .u8 0,.int .i64 0,.string ⟨#[]⟩],5,48):=aq
theorem a1J:vP prog 76=some [(0,1),(1,1),(2,3)]:=aq
theorem pe:QW prog 76 0=some 0:=aq
theorem DE:QW prog 76 1=some 1:=aq
theorem pf:QW prog 76 2=some 2:=aq
theorem rE:QT prog 78=some 2:=aq
theorem Tp:gx prog 78=some true:=aq
theorem Tt:j1 prog 78=some (.agg #[.string ⟨#[]⟩,.int .i64 0]):=aq
theorem a1N:jj prog 78=some (.agg #[.string ⟨#[]⟩,.int .i64 0],2,24):=aq
theorem lI:QW prog 78 0=some 0:=aq
theorem Uj:QW prog 78 1=some 1:=aq
theorem D9:QT prog 81=some 1:=aq
theorem Hh:gx prog 81=some false:=aq
theorem rD:iA prog 81=some 108:=aq
theorem Da:QT prog 82=some 1:=aq
theorem CW:gx prog 82=some false:=aq
theorem ln:QT prog 83=some 1:=aq
theorem lk:gx prog 83=some false:=aq
theorem a1R:j1 prog 85=some (.agg #[.slice none 0 0,.slice none 0 0,.map none,.map none,.int .i64 0]):=aq
theorem a1K:vP prog 85=some [(0,1),(1,1),(2,1),(3,1),(4,1)]:=aq
theorem Hj:QW prog 85 0=some 0:=aq
theorem pg:QW prog 85 1=some 1:=aq
theorem ph:QW prog 85 2=some 2:=aq
theorem lJ:QW prog 85 3=some 3:=aq
theorem Uk:QW prog 85 4=some 4:=aq
theorem yy:QT prog 88=some 1:=aq
theorem CX:gx prog 88=some false:=aq
theorem N5:prog.underlying 88=some (.map 3 4):=aq
theorem a1O:QT prog 96=some 2:=aq
theorem a1S:j1 prog 96=some (.agg #[.int .i64 0,.int .i64 0]):=aq
theorem yz:QT prog 99=some 1:=aq
theorem yv:gx prog 99=some false:=aq
theorem zb:iA prog 99=some 3:=aq
theorem nz:QT prog 101=some 2:=aq
theorem MV:gx prog 101=some true:=aq
theorem Nh:j1 prog 101=some (.agg #[.int .i64 0,.slice none 0 0]):=aq
theorem N9:jj prog 101=some (.agg #[.int .i64 0,.slice none 0 0],2,32):=aq
theorem X9:vP prog 101=some [(0,1),(1,1)]:=aq
theorem CY:QW prog 101 0=some 0:=aq
theorem Yo:QW prog 101 1=some 1:=aq
theorem Nb:QT prog 103=some 1:=aq
theorem MW:gx prog 103=some false:=aq
theorem Al:QT prog 105=some 4:=aq
theorem MX:gx prog 105=some true:=aq
theorem CZ:QW prog 105 0=some 0:=aq
theorem Ua:QW prog 105 1=some 1:=aq
theorem Yp:QW prog 105 2=some 2:=aq
theorem OU:QW prog 105 3=some 3:=aq
theorem B7:QT prog 108=some 1:=aq
theorem HR:gx prog 108=some false:=aq
theorem Ni:j1 prog 108=some (.pointer none):=aq
theorem Xj:jj prog 108=some (.pointer none,1,8):=aq
theorem DJ:QT prog 109=some 1:=aq
theorem DI:gx prog 109=some false:=aq
theorem Jt:QT prog 110=some 1:=aq
theorem Pa:gx prog 110=some false:=aq
theorem Js:iA prog 110=some 213:=aq
theorem Xo:j1 prog 112=some (.agg #[.pointer none,.slice none 0 0,.map none]):=aq
theorem Xa:vP prog 112=some [(0,1),(1,1),(2,1)]:=aq
theorem vq:QW prog 112 0=some 0:=aq
theorem O0:QW prog 112 1=some 1:=aq
theorem vr:QW prog 112 2=some 2:=aq
theorem Am:QT prog 115=some 13:=aq
theorem FP:gx prog 115=some true:=aq
theorem Nj:j1 prog 115=some (.agg #[.pointer none,.int .i64 0,.int .u8 0,.int .i64 0,.slice none 0 0,.int .u8 0,.int .u8 0,.int .i64 0,.string ⟨#[]⟩,.int .i64 0,.int .u8 0,.slice none 0 0,.map none]):=aq
theorem Xb:vP prog 115=some [(0,1),(1,1),(2,10),(12,1)]:=aq
theorem JY:QW prog 115 0=some 0:=aq
theorem vt:QW prog 115 1=some 1:=aq
theorem oY:QW prog 115 2=some 2:=aq
theorem OV:QW prog 115 3=some 12:=aq
theorem An:QT prog 117=some 1:=aq
theorem Ae:gx prog 117=some false:=aq
theorem Nk:j1 prog 117=some (.pointer none):=aq
theorem Xp:j1 prog 120=some (.agg #[.pointer none,.pointer none,.int .i64 0,.int .u8 0,.int .i64 0,.slice none 0 0,.int .u8 0,.int .u8 0,.int .i64 0,.string ⟨#[]⟩,.int .i64 0,.int .u8 0,.slice none 0 0,.map none]):=aq
theorem Xc:vP prog 120=some [(0,1),(1,13)]:=aq
theorem D2:QW prog 120 0=some 0:=aq
theorem OW:QW prog 120 1=some 1:=aq
theorem Xq:j1 prog 122=some (.agg #[.pointer none,.pointer none,.int .i64 0,.int .u8 0,.int .i64 0,.slice none 0 0,.int .u8 0,.int .u8 0,.int .i64 0,.string ⟨#[]⟩,.int .i64 0,.int .u8 0,.slice none 0 0,.map none]):=aq
theorem Xd:vP prog 122=some [(0,1),(1,13)]:=aq
theorem D3:QW prog 122 0=some 0:=aq
theorem O1:QW prog 122 1=some 1:=aq
theorem Xr:j1 prog 125=some (.agg #[.pointer none,.int .i64 0,.int .u8 0,.int .i64 0,.slice none 0 0,.int .u8 0,.int .u8 0,.int .i64 0,.string ⟨#[]⟩,.int .i64 0,.int .u8 0,.slice none 0 0,.map none]):=aq
theorem Xe:vP prog 125=some [(0,13)]:=aq
theorem Qcs:QW prog 125 0=some 0:=aq
theorem P5:QT prog 127=some 1:=aq
theorem nv:gx prog 127=some false:=aq
theorem ll:QT prog 128=some 1:=aq
theorem lg:gx prog 128=some false:=aq
theorem HS:iA prog 128=some 4:=aq
theorem pP:QT prog 130=some 2:=aq
theorem Eg:gx prog 130=some true:=aq
theorem Gh:j1 prog 130=some (.agg #[.slice none 0 0,.slice none 0 0]):=aq
theorem qx:vP prog 130=some [(0,1),(1,1)]:=aq
theorem Ub:QW prog 130 0=some 0:=aq
theorem Yq:QW prog 130 1=some 1:=aq
theorem Nl:j1 prog 133=some (.agg #[.slice none 0 0,.slice none 0 0,.pointer none,.int .i64 0,.map none,.map none]):=aq
theorem N6:vP prog 133=some [(0,2),(2,1),(3,1),(4,1),(5,1)]:=aq
theorem Yr:QW prog 133 0=some 0:=aq
theorem Qct:QW prog 133 1=some 2:=aq
theorem Qcu:QW prog 133 2=some 3:=aq
theorem oZ:QW prog 133 3=some 4:=aq
theorem Ys:QW prog 133 4=some 5:=aq
theorem K8:QT prog 198=some 1:=aq
theorem K7:gx prog 198=some false:=aq
theorem Xs:j1 prog 200=some (.agg #[.slice none 0 0,.slice none 0 0]):=aq
theorem Xf:vP prog 200=some [(0,2)]:=aq
theorem p9:QW prog 200 0=some 0:=aq
theorem Xt:j1 prog 202=some (.agg #[.slice none 0 0,.slice none 0 0,.int .i64 0,.int .i64 0]):=aq
theorem Xg:vP prog 202=some [(0,2),(2,1),(3,1)]:=aq
theorem Qcv:QW prog 202 0=some 0:=aq
theorem HI:QW prog 202 1=some 2:=aq
theorem pa:QW prog 202 2=some 3:=aq
theorem Xu:j1 prog 209=some (.agg #[.int .i64 0,.slice none 0 0,.map none]):=aq
theorem Xh:vP prog 209=some [(0,1),(1,1),(2,1)]:=aq
theorem D4:QW prog 209 0=some 0:=aq
theorem pb:QW prog 209 1=some 1:=aq
theorem Qcw:QW prog 209 2=some 2:=aq
theorem P6:QT prog 213=some 1:=aq
theorem FQ:gx prog 213=some false:=aq
theorem FT:j1 prog 213=some (.nilIface):=aq
theorem FR:jj prog 213=some (.nilIface,1,16):=aq
theorem Xl:QT prog 225=some 1:=aq
theorem X7:gx prog 225=some false:=aq
theorem Xv:j1 prog 448=some (.nilFunc):=aq
theorem Ao:QT prog 457=some 2:=aq
theorem MZ:gx prog 457=some true:=aq
theorem FU:j1 prog 457=some (.agg #[.slice none 0 0,.slice none 0 0]):=aq
theorem Xi:vP prog 457=some [(0,2)]:=aq
theorem Uc:QW prog 457 0=some 0:=aq
theorem Xw:j1 prog 486=some (.nilFunc):=aq
theorem qz:QT prog 502=some 1:=aq
theorem vm:gx prog 502=some false:=aq
theorem Xx:j1 prog 502=some (.nilFunc):=aq
theorem Af:iA prog 535=some 127:=aq
theorem a2l:cy prog 9=true:=aq
theorem a0i:cy prog 10=true:=aq
theorem SI:cy prog 11=true:=aq
theorem KP:cy prog 13=true:=aq
theorem KQ:cy prog 18=true:=aq
theorem BB:cy prog 20=true:=aq
theorem KS:cy prog 25=true:=aq
theorem a0j:cy prog 26=true:=aq
theorem BC:cy prog 27=true:=aq
theorem a0k:cy prog 28=true:=aq
theorem SJ:cy prog 29=true:=aq
theorem a0l:cy prog 32=true:=aq
theorem KX:cy prog 33=true:=aq
theorem a0m:cy prog 36=true:=aq
theorem a0n:cy prog 37=true:=aq
theorem a0o:cy prog 38=true:=aq
theorem SK:cy prog 39=true:=aq
theorem GA:cy prog 40=true:=aq
theorem a0p:cy prog 41=true:=aq
theorem GB:cy prog 50=true:=aq
theorem SL:cy prog 51=true:=aq
theorem SM:cy prog 52=true:=aq
theorem a0q:cy prog 55=true:=aq
theorem a0r:cy prog 56=true:=aq
theorem uh:cy prog 57=true:=aq
theorem SN:cy prog 58=true:=aq
theorem a0s:cy prog 64=true:=aq
theorem Lb:cy prog 65=true:=aq
theorem a0t:cy prog 66=true:=aq
theorem a0u:cy prog 68=true:=aq
theorem BD:cy prog 79=true:=aq
theorem a0v:cy prog 80=true:=aq
theorem SO:cy prog 81=true:=aq
theorem a0w:cy prog 82=true:=aq
theorem a0x:cy prog 83=true:=aq
theorem BE:cy prog 84=true:=aq
theorem a0y:cy prog 85=true:=aq
theorem a0z:cy prog 86=true:=aq
theorem GC:cy prog 96=true:=aq
theorem a0A:cy prog 97=true:=aq
theorem a0B:cy prog 98=true:=aq
theorem Lc:cy prog 99=true:=aq
theorem UT:cy prog 100=true:=aq
theorem UU:cy prog 101=true:=aq
theorem UW:cy prog 102=true:=aq
theorem UX:cy prog 103=true:=aq
theorem UY:cy prog 106=true:=aq
theorem UZ:cy prog 109=true:=aq
theorem V0:cy prog 156=true:=aq
theorem V2:cy prog 157=true:=aq
theorem Va:cy prog 158=true:=aq
theorem Vb:cy prog 159=true:=aq
theorem Vc:cy prog 160=true:=aq
theorem Vd:cy prog 161=true:=aq
theorem Ve:cy prog 162=true:=aq
theorem Vf:cy prog 163=true:=aq
theorem Vg:cy prog 164=true:=aq
theorem Vh:cy prog 166=true:=aq
theorem Vi:cy prog 180=true:=aq
theorem Vj:cy prog 181=true:=aq
theorem KR:cy prog 192=true:=aq
theorem EI:cy prog 231=true:=aq
theorem q8:cy prog 233=true:=aq
theorem KT:cy prog 252=true:=aq
theorem q9:cy prog 253=true:=aq
theorem Vk:cy prog 254=true:=aq
theorem EJ:cy prog 255=true:=aq
theorem Vl:cy prog 256=true:=aq
theorem EK:cy prog 257=true:=aq
theorem Vm:cy prog 286=true:=aq
theorem KU:cy prog 287=true:=aq
theorem Vn:cy prog 288=true:=aq
theorem Vo:cy prog 289=true:=aq
theorem Vp:cy prog 290=true:=aq
theorem Vq:cy prog 291=true:=aq
theorem Vr:cy prog 294=true:=aq
theorem Vs:cy prog 295=true:=aq
theorem Vt:cy prog 296=true:=aq
theorem KV:cy prog 314=true:=aq
theorem KW:cy prog 315=true:=aq
theorem EL:cy prog 333=true:=aq
theorem P8:cy prog 334=true:=aq
theorem EM:cy prog 335=true:=aq
theorem Vu:cy prog 337=true:=aq
theorem KY:cy prog 349=true:=aq
theorem mO:cy prog 360=true:=aq
theorem Vv:cy prog 361=true:=aq
theorem Vw:cy prog 362=true:=aq
theorem Vx:cy prog 363=true:=aq
theorem Vy:cy prog 364=true:=aq
theorem Vz:cy prog 365=true:=aq
theorem VA:cy prog 366=true:=aq
theorem VB:cy prog 367=true:=aq
theorem VC:cy prog 368=true:=aq
theorem VD:cy prog 369=true:=aq
theorem VE:cy prog 380=true:=aq
theorem EN:cy prog 397=true:=aq
theorem VF:cy prog 398=true:=aq
theorem KZ:cy prog 399=true:=aq
theorem VG:cy prog 400=true:=aq
theorem L0:cy prog 401=true:=aq
theorem VH:cy prog 402=true:=aq
theorem VI:cy prog 403=true:=aq
theorem L2:cy prog 404=true:=aq
theorem L3:cy prog 405=true:=aq
theorem L4:cy prog 406=true:=aq
theorem L5:cy prog 407=true:=aq
theorem L6:cy prog 408=true:=aq
theorem VJ:cy prog 409=true:=aq
theorem VK:cy prog 410=true:=aq
theorem EO:cy prog 411=true:=aq
theorem L7:cy prog 415=true:=aq
theorem VL:cy prog 434=true:=aq
theorem VM:cy prog 435=true:=aq
theorem L8:cy prog 436=true:=aq
theorem EP:cy prog 437=true:=aq
theorem VN:cy prog 438=true:=aq
theorem L9:cy prog 439=true:=aq
theorem La:cy prog 440=true:=aq
theorem VO:cy prog 441=true:=aq
end
section
open Go.RowKit
theorem Ll (op:BinOp)(x y:Operand)(a b:Bool)(w:World):(eqGuard op 4 x y (.bool a) (.bool b)).run Tryz.prog w=.ok () w:=by
 have h:Tryz.prog.eqGuardType Tryz.prog.depth 4=false:=aq
 cases op<;>simp[eqGuard,program,Sem.run,h]
theorem a2Y (x y:Operand)(a b:Bool)(w:World):(do eqGuard .neq 4 x y (.bool a) (.bool b);binOp .neq 4 (.bool a) (.bool b):Sem Value).run Tryz.prog w=.ok (.bool (a !=b)) w:=by
 rw[Sem.run_bind,Ll,Result.andThen_ok];cases a<;>cases b<;>kernel_rfl
theorem a0d (x y:Operand)(a b:Bool)(w:World):(do eqGuard .eql 4 x y (.bool a) (.bool b);binOp .eql 4 (.bool a) (.bool b):Sem Value).run Tryz.prog w=.ok (.bool (a==b)) w:=by
 rw[Sem.run_bind,Ll,Result.andThen_ok];cases a<;>cases b<;>kernel_rfl
end
section
open Go.RowKit
theorem Lm (op:BinOp)(x y:Operand)(a b:Array Value)(w:World):(eqGuard op 63 x y (.agg a) (.agg b)).run Tryz.prog w=.ok () w:=by
 have h:Tryz.prog.eqGuardType Tryz.prog.depth 63=false:=aq
 cases op<;>simp[eqGuard,program,Sem.run,h]
theorem WB (x y:Operand)(a b:V)(w:World):(do eqGuard .neq 63 x y (.agg (Oa a ()).toArray) (.agg (Oa b ()).toArray);binOp .neq 63 (.agg (Oa a ()).toArray) (.agg (Oa b ()).toArray):Sem Value).run Tryz.prog w=.ok (.bool (!decide (a=b))) w:=by
 rw[Sem.run_bind,Lm,Result.andThen_ok];simp only[V.ext_iff',Oa];simp[go_sem];by_cases h1:a.k=b.k<;>by_cases U:a.n=b.n<;>by_cases h3:a.s.toList=b.s.toList<;>simp[h1,U,h3]
theorem KF (x y:Operand)(a b:V)(w:World):(do eqGuard .eql 63 x y (.agg (Oa a ()).toArray) (.agg (Oa b ()).toArray);binOp .eql 63 (.agg (Oa a ()).toArray) (.agg (Oa b ()).toArray):Sem Value).run Tryz.prog w=.ok (.bool (decide (a=b))) w:=by
 rw[Sem.run_bind,Lm,Result.andThen_ok];simp only[V.ext_iff',Oa];simp[go_sem];by_cases h1:a.k=b.k<;>by_cases U:a.n=b.n<;>by_cases h3:a.s.toList=b.s.toList<;>simp[h1,U,h3]
end
end Go.Proofs.YtocfkfhdcnjklaaGreatDoor
namespace Go.Proofs
open Go.Shelf
def Tryz.sort66_ren:Go.Shelf.Ren:=⟨λ|6=>66|15=>108|14=>107|28=>190|29=>191|20=>182|21=>183|22=>184|23=>185|24=>186|25=>187|26=>188|27=>189|46=>274|47=>275|48=>276|49=>277|50=>278|57=>332|n=>n,λ|22=>51|24=>101|25=>153|3=>3|39=>230|0=>0|53=>320|55=>322|4=>4|46=>314|45=>313|50=>142|5=>5|9=>9|66=>435|70=>439|76=>482|77=>483|n=>n,λ|n=>n⟩
theorem Tryz.sort66:Go.Proofs.SlLaysF0.n6 Tryz.prog Tryz.sort66_ren:={
 mixed:=by kernel_rfl
 f6:=⟨Tryz.f66.name,by decide,Tryz.func66.trans (congrArg some (by kernel_rfl))⟩
 f14:=⟨Tryz.f107.name,by decide,Tryz.func107.trans (congrArg some (by kernel_rfl))⟩
 f15:=Tryz.func108.trans (congrArg some (by kernel_rfl))
 f20:=⟨Tryz.f182.name,by decide,Tryz.func182.trans (congrArg some (by kernel_rfl))⟩
 f21:=⟨Tryz.f183.name,by decide,Tryz.func183.trans (congrArg some (by kernel_rfl))⟩
 f22:=⟨Tryz.f184.name,by decide,Tryz.func184.trans (congrArg some (by kernel_rfl))⟩
 f23:=⟨Tryz.f185.name,by decide,Tryz.func185.trans (congrArg some (by kernel_rfl))⟩
 f24:=⟨Tryz.f186.name,by decide,Tryz.func186.trans (congrArg some (by kernel_rfl))⟩
 f25:=⟨Tryz.f187.name,by decide,Tryz.func187.trans (congrArg some (by kernel_rfl))⟩
 f26:=⟨Tryz.f188.name,by decide,Tryz.func188.trans (congrArg some (by kernel_rfl))⟩
 f27:=⟨Tryz.f189.name,by decide,Tryz.func189.trans (congrArg some (by kernel_rfl))⟩
 f28:=Tryz.func190.trans (congrArg some (by kernel_rfl))
 f29:=Tryz.func191.trans (congrArg some (by kernel_rfl))
 f46:=⟨Tryz.f274.name,by decide,Tryz.func274.trans (congrArg some (by kernel_rfl))⟩
 f47:=Tryz.func275.trans (congrArg some (by kernel_rfl))
 f48:=Tryz.func276.trans (congrArg some (by kernel_rfl))
 f49:=⟨Tryz.f277.name,by decide,Tryz.func277.trans (congrArg some (by kernel_rfl))⟩
 f50:=⟨Tryz.f278.name,by decide,Tryz.func278.trans (congrArg some (by kernel_rfl))⟩
 f57:=⟨Tryz.f332.name,by decide,Tryz.func332.trans (congrArg some (by kernel_rfl))⟩
 t0:=Tryz.underlying0
 a0:=Tryz.isAgg0
 z0:=Tryz.sizeOf0
 v0:=Tryz.zeroValue0
 t3:=Tryz.underlying3
 a3:=Tryz.isAgg3
 z3:=Tryz.sizeOf3
 v3:=Tryz.zeroValue3
 t4:=Tryz.underlying4
 a4:=Tryz.isAgg4
 z4:=Tryz.sizeOf4
 v4:=Tryz.zeroValue4
 t5:=Tryz.underlying5
 a5:=Tryz.isAgg5
 z5:=Tryz.sizeOf5
 v5:=Tryz.zeroValue5
 t9:=Tryz.underlying9
 a9:=Tryz.isAgg9
 z9:=Tryz.sizeOf9
 v9:=Tryz.zeroValue9
 t22:=Tryz.underlying51
 a22:=Tryz.isAgg51
 z22:=Tryz.sizeOf51
 v22:=Tryz.zeroValue51
 t25:=Tryz.underlying153
 a25:=Tryz.isAgg153
 z25:=Tryz.sizeOf153
 v25:=Tryz.zeroValue153
 t39:=Tryz.underlying230
 a39:=Tryz.isAgg230
 z39:=Tryz.sizeOf230
 v39:=Tryz.zeroValue230
 t45:=Tryz.underlying313
 a45:=Tryz.isAgg313
 z45:=Tryz.sizeOf313
 v45:=Tryz.zeroValue313
 t46:=Tryz.underlying314
 a46:=Tryz.isAgg314
 z46:=Tryz.sizeOf314
 v46:=Tryz.zeroValue314
 t50:=Tryz.underlying142
 a50:=Tryz.isAgg142
 z50:=Tryz.sizeOf142
 v50:=Tryz.zeroValue142
 t53:=Tryz.underlying320
 a53:=Tryz.isAgg320
 z53:=Tryz.sizeOf320
 v53:=Tryz.zeroValue320
 t55:=Tryz.underlying322
 a55:=Tryz.isAgg322
 z55:=Tryz.sizeOf322
 v55:=Tryz.zeroValue322
 t66:=Tryz.underlying435
 a66:=Tryz.isAgg435
 z66:=Tryz.sizeOf435
 v66:=Tryz.zeroValue435
 t70:=Tryz.underlying439
 a70:=Tryz.isAgg439
 z70:=Tryz.sizeOf439
 v70:=Tryz.zeroValue439
 t76:=Tryz.underlying482
 a76:=Tryz.isAgg482
 z76:=Tryz.sizeOf482
 v76:=Tryz.zeroValue482
 t77:=Tryz.underlying483
 a77:=Tryz.isAgg483
 z77:=Tryz.sizeOf483
 v77:=Tryz.zeroValue483}
end Go.Proofs
namespace Go.Proofs.YtocfkfhdcnjklaaGreatDoor
section
open Go
variable {α:Type}{s:Sem α}{es:Array Event}
def Result.wld {α:Type}:Result α->World
 | .ok _ w=>w
 | .halt _ w=>w
theorem Ep {α:Type}:∀(a:Ask α)(w:World),w.drawn<=(w.ask a).2.drawn
 | .done _,_=>h' _
 | .ask what range k,w=>by
   unfold World.ask;simp only;split;· exact Ep (k 0) w
   · exact f' (e! _) (Ep _ {w with drawn:=w.drawn+1})
theorem X6 (w:World)(c:Sys):w.drawn<=(w.sys c).2.drawn:=by
 have h:=Ep (Kernel.perform c w.os) w;unfold World.sys;split;· exact h' _
 ·rename_i r os U _ e;rw[e]at h;exact h
theorem Ig (w:World)(a:Addr)(n:Nat):(w.freeze a n).drawn=w.drawn:=by
 unfold World.freeze;split<;>rfl
theorem Bz {p:Program} {w w':World} {a:Addr} {v:Value} {b:Bool} {l:List Addr} (h:w.farStore p a v b=.ok (w',l)):w'.drawn=w.drawn:=by
 unfold World.farStore at h;split at h
 ·split at h
  ·rename_i r U;cases h;unfold World.viewStore at U;simp only[bind,Except.bind,pure,Except.pure,throw,throwThe,MonadExceptOf.throw]at U;repeat' split at U
   all_goals first|(cases U;done)|(cases U;rfl)|skip
  · cases h
 · cases h
theorem nj (p:Program):∀(s:Sem α) (w:World),w.drawn<=(Result.wld (s.run p w)).drawn:=by
 intro s;induction s with
 |pure a=>intro w;exact h' _
 | load m a k U=>
   intro w;unfold Sem.run;split;· exact U _ w
   ·split;· exact U _ w
    · exact h' _
 | store m a v k U=>
   intro w
   cases v<;>unfold Sem.run<;>first
    |exact h' _
    | (split
       ·split;· exact h' _
        · exact U (w.setCell a _)
       ·split
        ·rename_i hf;have:=U (by assumption);rw[Bz hf]at this;exact this
        · exact h' _)
 |new o k U=>intro w;exact U _ {w with heap:=w.heap.push o}
 |shape r k U=>intro w;exact U _ w
 |freeze a n k U=>intro w;have:=U (w.freeze a n);rw[Ig]at this;exact this
 |frozen a k U=>intro w;exact U _ w
 | getObj r k U=>
   intro w;unfold Sem.run;split;· exact h' _
   · exact U _ w
   · exact h' _
 | setObj r o k U=>
   intro w;unfold Sem.run;split;· exact h' _
   · exact U {w with heap:=w.heap.setIfInBounds r o}
   · exact h' _
 | choose q k U=>
   intro w;unfold Sem.run;split;· exact U _ w
   · exact f' (e! _) (U _ {w with drawn:=w.drawn+1})
 |sys c k U=>intro w;exact f' (X6 w c) (U _ (w.sys c).2)
 |program k U=>intro w;exact U _ w
 |mark m k U=>intro w;exact U w
 |halt h=>intro w;exact h' _
theorem MG (p:Program):∀(s:Sem α) (w:World) (es:Array Event),(s.runT p w es).1=s.run p w:=by
 intro s;induction s with
 |pure a=>intro w es;rfl
 | load m a k U=>
   intro w es;simp only[Sem.runT,Sem.run];cases w.cell? a with
   |some v=>exact U _ _ _
   | none=>
     simp only;cases w.farLoad p a (m==.atomic)with
     |ok r=>exact U _ _ _
     |error h=>rfl
 | store m a v k U=>
   intro w es
   cases v<;>simp only[Sem.runT,Sem.run]<;>
     (cases w.cell? a with
      | some v=>
        simp only;split;· rfl
        · exact U _ _
      | none=>
        simp only;split;· exact U _ _
        · rfl)
 |new o k U=>intro w es;exact U _ _ _
 |shape r k U=>intro w es;exact U _ _ _
 |freeze a n k U=>intro w es;exact U _ _
 |frozen a k U=>intro w es;exact U _ _ _
 | getObj r k U=>
   intro w es;simp only[Sem.runT,Sem.run];split;· rfl
   · exact U _ _ _
   · rfl
 | setObj r o k U=>
   intro w es;simp only[Sem.runT,Sem.run];split;· rfl
   · exact U _ _
   · rfl
 | choose q k U=>
   intro w es;simp only[Sem.runT,Sem.run];split;· exact U _ _ _
   · exact U _ _ _
 |sys c k U=>intro w es;exact U _ _ _
 |program k U=>intro w es;exact U _ _ _
 |mark m k U=>intro w es;exact U _ _
 |halt h=>intro w es;rfl
theorem Uo (p:Program)(s:Sem α)(w:World)(es:Array Event):w.drawn<=(Result.wld (s.runT p w es).1).drawn:=by
 rw[MG];exact nj p s w
theorem A9 {p:Program} {w:World} {U:Array Event} {r:Result α} (e:s.runT p w es=(r,U)):w.drawn<=(Result.wld r).drawn:=by
 have h:=Uo p s w es;rw[e]at h;exact h
theorem Jq {p:Program} {w:World} {r:Result α} (e:s.run p w=r):w.drawn<=(Result.wld r).drawn:=by
 have h:=nj p s w;rw[e]at h;exact h
def GStep.dr (d:Nat):GStep->Prop
 | .go _ w _=>d<=w.drawn
 | .comm _ _ _ _ w _=>d<=w.drawn
 | .spawn _ _ w _=>d<=w.drawn
 | .count _ w _=>d<=w.drawn
 | .timer _ _ w _=>d<=w.drawn
 | .alone _ _ w _=>d<=w.drawn
 | .newcoro _ _ _ w _=>d<=w.drawn
 | .coroswitch _ _ _ w _=>d<=w.drawn
 | .collect _ w _=>d<=w.drawn
 | .watch _ w _=>d<=w.drawn
 | .ended _ _ _=>True
theorem uD {d:Nat} {c:Prop} [Decidable c] {a b:GStep} (U:GStep.dr d a)(hb:GStep.dr d b):GStep.dr d (if c then a else b):=by split<;>assumption
theorem Sq {d:Nat} {g:GStep} (h:GStep.dr d g):GStep.dr d (g.after es):=by cases g<;>exact h
section
variable {p:Program} {main:Bool} {fr:Frame} {callers:List Frame} {dying:Option Dying} {w:World} {d:Nat}
variable {listen:Bool}
theorem Qcd (h:d<=w.drawn)(v:Value):GStep.dr d (doReturn p main fr callers dying v w):=by
 unfold doReturn;repeat' split
 all_goals first|trivial|exact h
theorem Qcg (h:d<=w.drawn)(m:String):GStep.dr d (endThrow fr m w):=h
theorem Qcf (h:d<=w.drawn)(v:Value):GStep.dr d (endPrinting p fr v w):=by
 unfold endPrinting;simp only;split;· exact h
 · trivial
theorem r8 (h:d<=w.drawn)(m:String):GStep.dr d (endFatal p fr callers dying m w):=by
 unfold endFatal;extract_lets chain raw shown;have h1:=nj p shown w;generalize shown.run p w=r at h1;match r with
 | .ok (texts,U) w'=>exact f' h h1
 | .halt (.unsupported u) w'=>trivial
 | .halt (.panic _) _| .halt .goexit _| .halt .blocked _| .halt .waiting _| .halt (.exit _) _| .halt (.fatal _) _| .halt (.throw _) _| .halt (.stuck _) _=>trivial
theorem EF (fd:Nat)(text:ByteArray)(o:Outcome):GStep.dr d (endWith w fd text o):=by
 unfold endWith;simp only;split;· split<;>trivial
 · trivial
 · trivial
theorem G7 (h:d<=w.drawn)(y:Dying)(f:Fatal):GStep.dr d (writeOn p fr y f w):=by
 unfold writeOn;extract_lets on;split;· trivial
 ·extract_lets;split;all_goals first|trivial|exact f' h (A9 (by assumption))
theorem UH (h:d<=w.drawn)(y:Dying):GStep.dr d (die p fr y w):=by
 unfold die;split;· exact G7 h _ _
 ·split
  ·split;· exact h
   · exact EF _ _ _
  ·extract_lets y2;split;· exact h
   ·rename_i s _;have h1:=nj p (withAddress s) w;generalize (withAddress s).run p w=r at h1;match r with
    | .ok s w'=>exact f' h h1
    | .halt _ w'=>trivial
   ·rename_i v _ _ _ t recv name _;have h1:=Uo p (invoke (.fn (.method name) #[]) #[.iface t recv]) w #[];generalize (invoke (.fn (.method name) #[]) #[.iface t recv]).runT p w #[]=r at h1;obtain⟨r,es⟩:=r;simp only;refine Sq ?_;split;· exact f' h h1
    · exact f' h h1
    · trivial
    · exact Qcf (f' h h1) _
    · trivial
   · trivial
theorem rV (h:d<=w.drawn)(y:Deferred):GStep.dr d (callDeferred p fr callers dying y w):=by
 unfold callDeferred;refine uD trivial ?_
 ·have h1:=Uo p (invoke y.target y.args) w #[];generalize (invoke y.target y.args).runT p w #[]=r at h1;obtain⟨r,es⟩:=r;simp only;refine Sq ?_;split;all_goals first|trivial|exact f' h h1|exact r8 (f' h h1) _|exact Qcg (f' h h1) _|(split<;>exact f' h h1)
theorem J4 (h:d<=w.drawn):GStep.dr d (unwind p main fr callers dying w):=by
 unfold unwind;split
 ·rename_i block _ ds _;have h1:=Uo p (Instr.takeDeferred block) w #[];generalize (Instr.takeDeferred block).runT p w #[]=r at h1;obtain⟨r,es⟩:=r;simp only;refine Sq ?_;split;· exact f' h h1
  · trivial
 · exact rV h _
 ·split;· trivial
  ·split;· trivial
   ·split;· exact h
    ·split
     ·split;· exact h
      ·rename_i chain _ _ _ _ _;have h1:=nj p (reportChain chain false) w;generalize (reportChain chain false).run p w=r at h1;split;· exact f' h h1
       · trivial
       · trivial
     ·split;· exact Qcf h _
      · trivial
  ·split;· exact Qcd h _
   ·rename_i fn _;have h1:=Uo p (results fn fr.tmps) w #[];generalize (results fn fr.tmps).runT p w #[]=r at h1;obtain⟨r,es⟩:=r;simp only;refine Sq ?_;split;· exact Qcd (f' h h1) _
    · trivial
    · trivial
theorem KD (h:d<=w.drawn) (g:Nat):GStep.dr d (early p fr callers dying g w):=by
 unfold early;extract_lets refuse notYet
 have U:∀w:World,d<=w.drawn->GStep.dr d (notYet w):=λw hw=>by
  show GStep.dr d (match w.heap[g]? with
   |some (.pending c elem)=>.go {frame:=fr,callers,status:=.running,dying} {w with heap:=w.heap.setIfInBounds g (.cells c elem)}
   |_=>.ended (.stuck "early: the variable does not wait" (fr.pos p)) w)
  split;· exact hw
  · trivial
 split;· exact U w h
 ·split;· trivial
  ·rename_i f _;extract_lets there;have ht:∀w:World,d<=w.drawn->GStep.dr d (there w):=λw hw=>hw
   split;· exact U w h
   ·split;· exact U w h
    ·split;· trivial
     · exact ht w h
     · trivial
     · exact U w h
     ·split;· exact ht w h
      ·split;· exact U w h
       ·have h1:=nj p (choose (.early g)) w;generalize (choose (.early g)).run p w=r at h1;split;· exact U _ (f' h h1)
        · exact ht _ (f' h h1)
        · trivial
theorem Gx {α:Type} {d:Nat} {o:Option α} {a:GStep} {f:α->GStep} (U:GStep.dr d a)(hf:∀x,GStep.dr d (f x)):GStep.dr d (o.elim a f):=by
 cases o with
 |none=>exact U
 |some x=>exact hf x
theorem Qcb (h:d<=w.drawn)(s:Sem Next):GStep.dr d (stepG.apply p listen fr callers dying s w):=by
 unfold stepG.apply;extract_lets go kind
 have key:w.drawn<=(Result.wld (if listen=true then s.runT p w #[]else(s.run p w,#[])).1).drawn:=by
  split;· exact Uo p s w #[]
  · exact nj p s w
 generalize (if listen=true then s.runT p w #[]else(s.run p w,#[]))=re at key;obtain⟨r,es⟩:=re;simp only;refine Sq ?_;have h1:=f' h key;simp only at h1;clear key;split
 all_goals first
  |trivial
  |exact h1
  |exact r8 h1 _
  |exact Qcg h1 _
  |exact KD h1 _
  |exact uD (Qcg h1 _) h1
  |(split<;>exact h1)
  |(split<;>split<;>exact h1)
theorem Ru (h:d<=w.drawn):GStep.dr d (stepG.oper p listen fr callers dying w):=by
 unfold stepG.oper;split;· trivial
 ·split;· exact Qcb h _
  · exact Qcb h _
theorem Pt (h:d<=w.drawn):GStep.dr d (stepG.exec p main listen fr callers dying w):=by
 unfold stepG.exec;extract_lets go toK lost leave;have U:∀f w',d<=w'.drawn->GStep.dr d (go f w'):=λf w' hw=>hw
 have YH:∀k,GStep.dr d (toK k):=λk=>h;have LJ:∀s,GStep.dr d (lost s):=λs=>trivial
 have LG:∀j,GStep.dr d (leave j):=by
  intro j;simp only[leave];split;· exact uD h trivial
  ·rename_i l _;have h1:=Uo p (Instr.endRound l j) w #[];generalize (Instr.endRound l j).runT p w #[]=r at h1;obtain⟨r,es⟩:=r;simp only;refine Sq ?_;split;· exact Qcd (f' h h1) _
   · trivial
 clear_value leave
 split
 all_goals first
  |exact LG _
  |exact YH _
  |exact LJ _
  |trivial
  |exact Qcb h _
  |exact Gx (LG _) YH
  |exact Gx (LJ _) (λ_=>Qcb h _)
  |exact uD (Ru h) (U _ _ h)
  |(split<;>first|exact YH _|exact LJ _)
  | (refine uD (YH _) ?_
     split;· exact U _ _ (f' h (Jq (by assumption)))
     · trivial)
  | (split
     rename_i r es heq;have h1:=f' h (A9 heq);refine Sq ?_;split;· exact U _ _ h1
     · exact U _ _ h1
     · trivial)
  | (split
     rename_i r es heq;have h1:=f' h (A9 heq);refine Sq ?_;split;· exact Qcb h1 _
     · trivial)
theorem MR {g:Goroutine} (h:d<=w.drawn):GStep.dr d (stepG p main g w listen):=by
 unfold stepG;split;split;· exact UH h _
 · exact Pt h
 · exact J4 h
end
def Stepped.dr (d:Nat):Stepped->Prop
 | .next m=>d<=m.world.drawn
 | .ended _ _=>True
section
variable {p:Program} {d:Nat}
variable {m m':Machine}{rest:Rest}{gs:Array Goroutine}{cases:Array CommCase}
theorem GU {w:World} (h:d<=w.drawn):Stepped.dr d (Go.look p gs rest w):=by
 unfold Go.look
 repeat' first
  |trivial
  |exact f' h (Jq (by assumption))
  |split
  |extract_lets
theorem MJ (h:d<=m.world.drawn)(k:Nat):Stepped.dr d (serve p m k):=by
 unfold serve;split;· trivial
 · exact h
 ·extract_lets;split;· trivial
  · exact h
theorem As {w U:World} (e:waitingAt rest cases w=some U):U.drawn=w.drawn:=by
 unfold waitingAt at e;split at e
 ·split at e;· cases e;rfl
  · cases e
 · cases e;rfl
theorem Kz (w:World)(c:Nat):(drain w c).2.drawn=w.drawn:=by
 unfold drain;split<;>rfl
theorem yk (m:Machine)(k:Nat)(t:Timer)(a b:Nat):(retime m k t a b).2.world.drawn=m.world.drawn:=by
 unfold retime;split;rename_i U world heq;simp only;split at heq
 ·rename_i c _;have:=Kz m.world c;rw[heq]at this;exact this
 · cases heq;rfl
theorem FX {op:TimerOp} {v:Value} (e:timerOp m op=.ok (v,m')):m'.world.drawn=m.world.drawn:=by
 have U:∀(m0:Machine) (var:Addr) (f:Nat->Timer->Value×Machine),(∀k t,(f k t).2.world.drawn=m0.world.drawn)->timerOp.named m0 var f=.ok (v,m')->m'.world.drawn=m0.world.drawn:=λm0 var f hf h=>by
  unfold timerOp.named at h;split at h
  ·rename_i k _;have:=hf k (m0.rest.timers.getD k default);cases hv:f k (m0.rest.timers.getD k default)with
   | mk a b=>
     rw[hv]at h this;cases h;exact this
  · cases h
 unfold timerOp at e;split at e
 ·split at e;· cases e;rfl
  ·split at e
   · split at e;· cases e
     · cases e;rfl
   · cases e
 · exact U m _ _ (λk t=>yk m k t _ _) e
 ·split at e
  ·rename_i m1 hm
   have h1:m1.world.drawn=m.world.drawn:=by
     unfold timerOp.opened at hm;split at hm
     ·split at hm;· cases hm;rfl
      · cases hm
     · cases hm;rfl
   exact U m _ _ (λk t=>(yk m1 k t _ _).trans h1) e
  · cases e
 · cases e;rfl
theorem tT {i:Nat} {g:Goroutine} {Bi:Bool} {shape:CommShape} {w:World} (h:d<=w.drawn):Stepped.dr d (communicate p rest gs i g cases Bi shape w).1:=by
 unfold communicate;extract_lets put a1Y me other ready pick;split;· trivial
 ·split
  ·split
   ·split
    ·rename_i U e;show d<=U.drawn;rw[As e];exact h
    · trivial
   · exact h
  ·split;· trivial
   ·rename_i k c way U e;have h1:d<=U.drawn:=f' h (Jq e)
    repeat' first
     |exact h1
     |trivial
     |exact f' h1 (Jq (by assumption))
     |split
     |extract_lets
     |(have e2:=‹Sem.run p (runtimePanic _) U=_›;exact f' h1 (Jq e2))
theorem MH (h:d<=m.world.drawn)(i:Nat)(listen:Bool):Stepped.dr d (runT p m i listen).1:=by
 unfold runT;extract_lets rest world;split;extract_lets a3E fn pos s ops done;have hs:GStep.dr d s:=MR h
 clear_value s
 split;· trivial
 ·rename_i g cases U shape w es;split;rename_i r more e;show Stepped.dr d (r,more).1;rw[<-e];exact tT (show d<=w.drawn from hs)
 · exact hs
 · exact hs
 ·extract_lets;refine(?_:Stepped.dr d _);split;· trivial
  · exact hs
 · exact hs
 · exact GU hs
 · exact hs
 · exact hs
 ·split;· exact hs
  · exact hs
  · trivial
 ·split
  ·rename_i e;show d<=_;have:=FX e;rw[this];exact hs
  · exact hs
  · trivial
  · trivial
def Move.dr (d:Nat):Move->Prop
 | .goroutine m _=>d<=m.world.drawn
 | .machine s _=>Stepped.dr d s
theorem tO (h:d<=m.world.drawn):Move.dr d (askOn p m):=by
 unfold askOn;extract_lets mono rs ds pick
 have hp:∀m1:Machine,d<=m1.world.drawn->Move.dr d (pick m1):=λm1 h1=>by
  simp only[pick];split;· trivial
  ·rename_i k w1 e;have U:=f' h1 (Jq e);split;· exact U
   ·split;· trivial
    ·rename_i n w2 e2;exact f' U (Jq e2)
 clear_value pick
 split;· trivial
 ·rename_i k w1 e;have h1:d<=w1.drawn:=f' h (Jq e)
  clear_value rs
  extract_lets m1
  repeat' first
   |exact h1
   |trivial
   |exact MJ h1 _
   |exact hp _ h1
   |exact hp _ (f' h1 (Jq (by assumption)))
   |exact f' h1 (Jq (by assumption))
   |split
   |extract_lets
theorem Gq (h:d<=m.world.drawn):Move.dr d (Go.ask p m):=by
 unfold Go.ask;split
 ·split;· trivial
  ·rename_i w1 e;have h1:d<=w1.drawn:=f' h (Jq e);have U:=GU (p:=p) (gs:=m.gs) (rest:=m.rest) h1;split
   ·rename_i m2 e2;rw[e2]at U;exact tO U
   · exact U
  ·rename_i w1 e;exact tO (f' h (Jq e))
 · exact tO h
theorem Rl (h:d<=m.world.drawn):Move.dr d (move p m):=by
 unfold move;split
 ·split;· exact h
  · trivial
 ·split
  ·split;· exact h
   · exact Gq h
  · exact Gq h
theorem RI (e:step p m=.next m'):m.world.drawn<=m'.world.drawn:=by
 have h:Stepped.dr m.world.drawn (step p m):=by
  unfold step stepT;have hm:=Rl (p:=p) (h' m.world.drawn);split
  ·rename_i m1 i U;rw[U]at hm;exact MH hm i true
  ·rename_i s ops U;rw[U]at hm;exact hm
 rw[e]at h;exact h
theorem MU (h:Steps p m m'):m.world.drawn<=m'.world.drawn:=by
 obtain⟨n,U⟩:=h;induction n generalizing m with
 |zero=>cases U;exact h' _
 | succ n ih=>
   unfold runN at U;split at U
   ·rename_i m1 e;exact f' (RI e) (ih U)
   ·rename_i de;exact absurd U (λe=>de _ e)
theorem Bl {f:FuncId} {args:Array Value} {w:World} {R:Ending->World->Prop} (h:Calls p f args w R):Calls p f args w (λe U=>R e U/\∀v,e=.returned v->w.drawn<=U.drawn):=λcs=>by
 obtain⟨e,U,fr,hR,hC,hf,hl⟩:=h cs;refine⟨e,U,fr,⟨hR,λv hv=>?_⟩,hC,hf,hl⟩;subst hv;exact MU (m:=lone (Frame.enter p f args .normal) cs w) (m':=lone fr cs U) hC
end
end
section
open Go.RowKit Go.ChangeShapes Go.WideShapes Go.Deep
theorem Qd5 {H:Type} {enc:TypeId×Value->H} {P:Program} (hl:laidOutB P=true) {W W':World} (hb:Below W.heap.size W W'):∀{ts:List TypeId} {vs:List Value} {ds:List (DataW H)} {U:List MemPlace},(∀t∈ts,P.readableRec t=true/\t<P.types.size)->
   DataW.TrodAll enc P W 0 (λ_=>true) true ts vs ds U->(∀x∈U,x.block<W.heap.size)->DataW.TrodAll enc P W' 0 (λb=>decide (b<W.heap.size)) true ts vs ds U
 | [],vs,ds,U,_,h,_=>by
   cases vs with
   | nil=>cases ds with
     |nil=>exact h
     |cons d ds=>exact h
   |cons v vs=>cases ds<;>exact h
 | t::ts,vs,ds,U,ht,h,bp=>by
   obtain⟨v0,vs0,d0,ds0,p0,q0,rfl,rfl,rfl,h0,r0⟩:=trodAll_cons h;exact trodAll_cons_mk (Below.trod hl (ht t ax).1 (ht t ax).2 h0 hb (λx hx=>bp x (by simp[hx]))) (Qd5 hl hb (λt h=>ht t (by simp[h])) r0 (λx hx=>bp x (by simp[hx])))
theorem M8 {H:Type} {enc:TypeId×Value->H} {P:Program} {f:Func} {s:ChangeSpec} {apart fresh handsOn:Bool} {W W':World} {args:Array Value} {ds gs:List (DataW H)} {before:List MemPlace} {tb:TypeId}
  (hl:laidOutB P=true) (hr:∀t∈f.params.toList,P.readableRec t=true/\t<P.types.size) (mR:f.resultTypes=#[tb]) (htb:P.underlying tb=some .bool) (hv:s.vars=[])
  (hW:DataW.Whole enc P f.params.toList s.vars apart W args.toList ds gs before) (kS:(s.fn H (ds++gs)).results=[.lit (.bool true)]) (hfa:(s.fn H (ds++gs)).args=ds) (hfv:(s.fn H (ds++gs)).vars=[])
  (hb:Below W.heap.size W W'):s.post enc P f apart fresh handsOn false W args (.bool true) W':=by
 have U:=hW;obtain⟨p,q,hA,hV,rfl,hfz,Iq⟩:=hW;rw[hv]at hV;obtain⟨rfl,rfl⟩:=trodVars_none hV;refine⟨ds,[],p++[],[],p++[],[],U,?_,?_,?_,hb.frame _,λh=>by cases h⟩
 ·rw[kS,mR];exact trodAll_mk1 (shut_bool htb true)
 ·rw[hfa,List.append_nil];exact Qd5 hl hb hr hA (λx hx=>U.lt x (cx hx))
 · rw[hfv,hv];rfl
end
section
open Go.RowKit Go.Deep
variable {P:Program}{w:World}{v:Value}{r:Reach}{base t:Nat}
theorem Ft {U:Array Field} (ht:P.underlying t=some (.struct U))(h:Value.okWide P w r base t v):∃cs,v=.agg cs:=by
 unfold Value.okWide at h;rw[ht]at h;obtain⟨cs,h1,_⟩:=h;exact⟨cs,h1⟩
theorem y0 {e:Nat} (U:P.underlying t=some (.slice e))(h:Value.okWide P w r base t v):v.cells.toList=[v]:=by
 unfold Value.okWide at h;rw[U]at h;unfold Cell.okWide at h;rw[U]at h;unfold Cell.ok at h;rw[U]at h;cases v<;>first|rfl|(simp at h)
theorem vf {f:FuncId} {args:List Value} {Φ:List Fact} (h:QD P f args Φ [] (λu U Hr=>u=v/\U=[]/\Hr=[]))(eo:∀φ∈Φ,φ.p (λk=>k<w.heap.size) w):
  Calls P f args.toArray w λe w'=>e=.returned v/\Mod (λ_=>False) w w':=by
 refine Calls.mono (h (λk=>k<w.heap.size) (λ_ _=>False) w (λ_ h=>h) eo (λi x hx=>by simp at hx) (λi k hi=>by simp at hi) (λi j k hi=>by simp at hi)) λe w' he=>?_;obtain⟨u,U,Hr,rfl,⟨rfl,_⟩,F,N,hm⟩:=he;exact⟨rfl,hm.mod.mono λk _ hk=>by obtain⟨i,hi,_⟩:=hk;simp at hi⟩
end
end Go.Proofs.YtocfkfhdcnjklaaGreatDoor
