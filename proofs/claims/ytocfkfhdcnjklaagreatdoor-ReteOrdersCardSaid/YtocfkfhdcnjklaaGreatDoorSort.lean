import Derived.Test.YtocfkfhdcnjklaaGreatDoorTree
import Derived.Shelf.SlSortCmp.InsertionK
import Derived.Shelf.Strings.Trim
import Derived.Shelf.Small.Utf8
import Derived.Shelf.Small.Bits
import Derived.Shelf.Small.Strs
import Derived.Shelf.Small.Wraps
import Derived.Shelf.Strconv.Itoa0
import Derived.Shelf.Strconv.Itoa1
import Derived.Shelf.LaysM
import Derived.Shelf.Strconv.Itoa2
import Derived.Shelf.Strconv.Itoa3
import Derived.Shelf.Strconv.Itoa4
import Derived.Shelf.Strings.Search1
import Derived.Shelf.Strings.Runes
import Derived.Shelf.Strings.AsciiSet
import Derived.Shelf.Bits.Mul64
import Derived.Shelf.Unicode.DecodeSlow
import Derived.Ground.Names2Prog
import Derived.Shelf.Slices.Clone
import Derived.Shelf.Slices.SearchI
import Derived.Ground.SlgmProg
import Derived.Shelf.SortM.Plain
import Derived.Shelf.SortM.SortNone
import Derived.Laws.BytesArg
import Derived.Laws.BytesString
import Derived.Laws.IdiomStrings
import Derived.Lib.LaidTab
import Derived.Lib.ItoaNum
import Derived.LaidSub
import Derived.Shelf.Strings.SlTrimAscii
import Derived.Deep.Draws
import Derived.SizedLaws
import Derived.Lib.AppendZeros
import Derived.Defers
import Derived.Recover
open List renaming getElem?_eq_getElem->a',getElem_mem->b',getElem?_eq_some_iff->i',length_cons->k',eq_nil_of_length_eq_zero->m',mem_cons_self->n',mem_append->o',mem_cons->q',getElem?_map->s',getElem?_take->v',getElem?_append_right->y',getElem?_eq_none_iff->z',getElem?_append_left->B',length_map->E',length_nil->F',finRange->K',mem_singleton->L',ext_getElem?->N',mem_map->O',nodup_cons->T',replicate->U'
open Array renaming getElem?_toList->f',getElem?_eq_some_iff->t',extract_eq_self_of_le->u',getElem?_append_left->x',getElem?_eq_getElem->A',getElem?_modify->G',length_toList->J'
open Nat renaming lt_of_lt_of_le->h',mul_le_mul_right->j',le_trans->D',le_refl->I',succ_mul->M',zero_le->Q',mul_comm->V',mul_pos->W'
open Int renaming eq_ofNat_of_zero_le->C'
open Option renaming bind_some->P',map_some->R',map->X'
namespace Go.Proofs.YtocfkfhdcnjklaaGreatDoor
section
open Go Go.RowKit Go.Shelf
open Go.Sort (flatK putRowK HoldsK)
theorem grown_of {W U:World} (hm:Mod (λ_=>False) W U)(hd:W.drawn<=U.drawn):∃q os',U=Go.Sort.grow (W.drewN q) os':=by
 refine⟨U.drawn-W.drawn,U.heap.extract W.heap.size U.heap.size,?_⟩
 have hh:U.heap=W.heap++U.heap.extract W.heap.size U.heap.size:=by
  apply Array.ext_getElem?;intro k;rw[Array.getElem?_append];split;· rename_i h;exact hm.block k h (λh=>h.elim)
  ·rename_i h;rw[Array.getElem?_extract];split;· congr 1;omega
   · rw[Array.getElem?_eq_none_iff];omega
 have h1:=hm.os;have h2:=hm.tape;have h3:=hm.output;obtain⟨hp,tp,dr,os,ot⟩:=U;simp only at h1 h2 h3 hh hd;subst h1;subst h2;subst h3;show _=({heap:=W.heap++_,tape:=W.tape,drawn:=W.drawn+(dr-W.drawn),os:=W.os,output:=W.output}:World)
 rw[<-hh,Nat.add_sub_cancel' hd]
section
variable {α:Type} {k:Nat} {enc:α->List Value}
theorem Q9g (hk:∀x,(enc x).length=k):∀{l:List α} {U:List Value},U.length=l.length*k->(∀i x,l[i]? =some x->∀c,c<k->U[i*k+c]? =(enc x)[c]?)->hY k (λcs x=>cs=enc x) U l
 |[],U,h,_=>m' (cx h)
 | x::l,U,h,hc=>by
   have hl:U.length=l.length*k+k:=by rw[h,k',M']
   refine⟨U.take k,U.drop k,(List.take_append_drop k U).symm,by rw[List.length_take];omega,?_,Q9g hk (by rw[List.length_drop];omega) λi y hy c Oi=>?_⟩
   ·apply N';intro c;rw[v'];split
    ·rename_i Oi;have:=hc 0 x rfl c Oi;simpa using this
    ·rename_i Oi;symm;rw[z',hk];omega
   ·rw[List.getElem?_drop,<-hc (i+1) y (cx hy) c Oi];congr 1;rw[M'];omega
theorem ug [Inhabited α] (hk:∀x,(enc x).length=k)(d:Array α):(flatK enc k d).toList=d.toList.flatMap enc:=by
 refine hY.flat_iff enc (Q9g hk ax λi x hx c U=>?_)
 have hi:i<d.size:=by
  have:=(i'.1 hx).1;simpa using this
 have ht:i*k+c<d.size*k:=by
  have:=j' k hi;rw[M']at this;omega
 have h1:(i*k+c)/k=i:=by rw[V',Nat.mul_add_div an,Nat.div_eq_of_lt U];rfl
 have h2:(i*k+c)%k=c:=by rw[V',Nat.mul_add_mod,Nat.mod_eq_of_lt U]
 have DX:d[i]! =x:=by
  rw[f']at hx;rw[getElem!_def,hx]
 have PK:c<(enc x).length:=by rw[hk];exact U
 simp only[flatK,Array.toList_map,s',Array.toList_range,List.getElem?_range ht,R',h1,h2,DX];rw[a' PK,getElem!_pos (enc x) c PK]
end
theorem Mu (ys:List Value)(cur:Array Value)(h:ys.length<=cur.size):(Go.Sort.putCells id 0 ys.toArray cur).toList.take ys.length=ys:=by
 apply N';intro t;rw[v'];split
 ·rename_i U;have hc:t<cur.size:=an
  rw[f'];unfold Go.Sort.putCells;rw[Array.getElem?_mapIdx,A' hc,R',if_pos ⟨Q' _,by simpa using U⟩,a' U];simp[U]
 ·rename_i U;symm;rw[z'];omega
theorem Rx {B g n c:Nat} {e:TypeId} {sz:Nat} {xs U:List Value} {w w':World} (h:w.ownsRow B e sz (.slice (some ⟨g,0,none⟩) n c) n xs)(hl:U.length=n*sz)(hw:w'.heap[g]? =(w.heap[g]?).map (Go.Sort.onCells (Go.Sort.putCells id 0 U.toArray))):
  w'.ownsRow B e sz (.slice (some ⟨g,0,none⟩) n c) n U:=by
 refine⟨hl,?_⟩;rcases h.2 with⟨h0,_⟩|⟨g',cap,cur,hv,hb,hg,h1,h2,h3,h4⟩
 · cases h0
 ·cases hv;have hle:U.length<=cur.size:=by rw[hl,h3];exact j' _ h1
  refine .inr ⟨g,c,Go.Sort.putCells id 0 U.toArray cur,rfl,hb,by rw[hw,hg];rfl,h1,h2,by simp[Go.Sort.putCells,h3],?_⟩;rw[<-hl];exact Mu U cur hle
section
variable {α:Type} [Inhabited α] {enc:α->List Value} {k:Nat} {w:World} {g m:Nat} {d:Array α} {os:Array Obj}
theorem F5 (U:g<w.heap.size):(sortWorldK enc k w g 0 m d os).heap[g]? =(w.heap[g]?).map (Go.Sort.onCells (Go.Sort.putCells id 0 (flatK enc k d))):=by
 unfold sortWorldK putRowK Go.Sort.putRow Go.Sort.mapBlock;rw[Go.Sort.heap_grow_old _ _ (cx U)];simp[G',Go.Sort.ahead]
theorem qn:Mod (λj=>j=g) w (sortWorldK enc k w g 0 m d os):=by
 refine⟨rfl,rfl,rfl,?_,λj hj U=>?_⟩
 ·unfold sortWorldK putRowK Go.Sort.putRow Go.Sort.mapBlock;simp[Go.Sort.ahead]
 ·unfold sortWorldK putRowK Go.Sort.putRow Go.Sort.mapBlock;rw[Go.Sort.heap_grow_old _ _ (cx hj)];have:g≠j:=λe=>U e.symm
  simp[G',Go.Sort.ahead,this]
theorem Is {e:TypeId} {n c:Nat} {xs:List Value} (h:w.ownsRow 0 e k (.slice (some ⟨g,0,none⟩) n c) n xs)(hx:(flatK enc k d).toList=xs):HoldsK enc k w g 0 d:=by
 rcases h.2 with⟨h0,_⟩|⟨g',cap,cur,hv,hb,hg,h1,h2,h3,h4⟩
 · cases h0
 ·cases hv;intro j U;have hlen:(flatK enc k d).size=n*k:=by rw[<-h.1,<-hx,J']
  have hc:j<cur.size:=by rw[h3];exact h' (hlen▸U) (j' _ h1)
  have hv2:cur[j]? =some ((flatK enc k d)[j]!):=by
   have h5:(cur.toList.take (n*k))[j]? =(flatK enc k d).toList[j]?:=by rw[h4,hx]
   rw[v',if_pos (hlen▸U),f',f']at h5;rw[h5,getElem!_pos _ j U,A' U]
  constructor;· simp[World.cell?,hg,hv2]
  · simp[World.frozen?,hg]
end
noncomputable def oT {α:Type} (cf:α->α->Int)(l:List α):List α:=
 @dite _ (∃U:List α,U.Perm l/\U.Pairwise λa b=>¬cf b a<0) (Classical.propDecidable _) (λh=>h.choose) (λ_=>l)
theorem ve {α:Type} {cf:α->α->Int} {l U:List α} (hp:U.Perm l)(hs:U.Pairwise λa b=>¬cf b a<0)(ha:∀a∈l,∀b∈l,¬cf a b<0->¬cf b a<0->a=b):oT cf l=U:=by
 have h:∃U:List α,U.Perm l/\U.Pairwise λa b=>¬cf b a<0:=⟨U,hp,hs⟩
 unfold oT;rw[dif_pos h];have h2:=h.choose_spec;exact List.Perm.eq_of_pairwise (le:=λa b=>¬cf b a<0) (λa b h3 h4 h5 h6=>ha a (h2.1.mem_iff.1 h3) b (hp.mem_iff.1 h4) h6 h5) h2.2 hs (h2.1.trans hp.symm)
def tE (P:Program)(f:FuncId)(sz:Nat)(arg:List Value->Value):Prop:=
 ∀ (n:Nat) [Inhabited (Fin n)] (enc:Fin n->List Value) (U:Fin n->Fin n->Int) (g:FuncId) (cb:Array Value) (blk cap:Nat) (d:Array (Fin n)) (w:World),(∀x,(enc x).length=sz)->(∀x,∀v∈enc x,v.oneCell'=true)->Go.Sort.SWO (ltOf U)->
   (∀args w,(callFunc g args).run P w=.ok (.enter g args) w)->
   (∀(m:Nat) (os:Array Obj) (dk:Array (Fin n)),dk.size=d.size->∀x y,Calls P g (#[arg (enc x),arg (enc y)]++cb) (sortWorldK enc sz w blk 0 m dk os) λe w'=>e=.returned (.int .i64 (U x y))/\∃q os',w'=Go.Sort.grow ((sortWorldK enc sz w blk 0 m dk os).drewN q) os')->
   HoldsK enc sz w blk 0 d->blk<w.heap.size->d.size<4611686018427387904->
   Calls P f #[.slice (some ⟨blk,0,none⟩) d.size cap,.func (.func g) #[] cb] w λe w'=>e=.returned (.tuple #[])/\∃d' n os,Go.Sort.PermIn 0 d.size d d'/\Go.Sort.SortedIn (ltOf U) 0 d.size d'/\w'=sortWorldK enc sz w blk 0 n d' os
theorem hY.mapF {α β:Type} {sz:Nat} {R:List Value->α->Prop} {U:List Value->β->Prop} (f:α->β)(hR:∀cs x,R cs x->U cs (f x)):∀{l:List α} {xs:List Value},hY sz R xs l->hY sz U xs (l.map f)
 |[],_,h=>h
 |_::_,_,⟨cs,rest,e1,e2,e3,e4⟩=>⟨cs,rest,e1,e2,hR cs _ e3,hY.mapF f hR e4⟩
theorem Ry {α:Type} [Inhabited α] {d d':Array α} (h:Go.Sort.PermIn 0 d.size d d'):d'.toList.Perm d.toList:=by
 have U:=h.2.2;rwa [u' (by rw[h.1];exact I' _),u' (I' _)]at U
theorem sorted_in {α:Type} [Inhabited α] {lt:α->α->Bool} {d:Array α} {n:Nat} (hn:d.size=n)(h:Go.Sort.SortedIn lt 0 n d):d.toList.Pairwise λa b=>lt b a=false:=by
 rw[List.pairwise_iff_getElem];intro i j hi hj DU;have fb:i<d.size:=by simpa using hi
 have U:j<d.size:=by simpa using hj
 have:=h i j (Q' _) DU (hn▸U);rw[getElem!_pos d j U,getElem!_pos d i fb]at this;simpa using this
theorem FL {α:Type} {P:Program} {f g:FuncId} {cb:Array Value} {e sz c:Nat} {arg:List Value->Value} {R:fq α} {l:List α} {p:Option Addr} {Φ:List Fact} (U:α->α->Int)
  (hS:tE P f sz arg) (LO:∀(p:Option Addr) (cap:Nat) (fv:Value) (w:World),Calls P f #[.slice p 0 cap,fv] w λe w'=>e=.returned (.tuple #[])/\w'=w) (eg:∀args w,(callFunc g args).run P w=.ok (.enter g args) w)
  (Lw:∀(cs vS:List Value) (x y:α) (F:ep) (W:World),(∀k,F k->k<W.heap.size)->(∀φ∈Φ,φ.p F W)->R.p F W cs x->R.p F W vS y->x∈l->y∈l->Calls P g (#[arg cs,arg vS]++cb) W λe w'=>e=.returned (.int .i64 (U x y))/\Mod (λ_=>False) W w')
  (h1:∀x∈l,¬U x x<0) (h2:∀x∈l,∀y∈l,∀z∈l,U x y<0->U y z<0->U x z<0) (h3:∀x∈l,∀y∈l,∀z∈l,¬U x y<0->¬U y z<0->¬U x z<0)
  (h4:∀x∈l,∀y∈l,¬U x y<0->¬U y x<0->x=y) (hlen:l.length<4611686018427387904):
  QD P f [.slice p l.length c,.func (.func g) #[] cb] Φ [.own e sz R (.slice p l.length c) l] λv bo Hr=>v=.tuple #[]/\bo=[]/\Hr=[.own e sz R (.slice p l.length c) (oT U l)]:=by
 intro F N w hF eo hH bp uo;obtain⟨hblk,xs,gw,ml⟩:=hH 0 _ rfl;have hz:oT U []=([]:List α):=ve (List.Perm.refl _) List.Pairwise.nil (λa ha=>by simp at ha)
 have Tl:l=[]->Calls P f #[.slice p l.length c,.func (.func g) #[] cb] w (tD ⟨w,λk=>∃i,i<1/\N i k,F⟩ λv bo Hr=>v=.tuple #[]/\bo=[]/\Hr=[.own e sz R (.slice p l.length c) (oT U l)]):=by
  rintro rfl;refine(LO p c _ w).mono ?_;rintro e' w' ⟨rfl,rfl⟩;refine⟨_,[],_,rfl,⟨rfl,rfl,rfl⟩,F,N,hF,λ_ h=>h,λ_ h=>.inl h,λφ h=>(by cases h),λi x hx=>?_,λi k hi hk=>⟨(bp i k hi hk).1,.inr ⟨i,hi,hk⟩,(bp i k hi hk).2⟩,uo,Mod.refl _ _⟩;rw[hz]at hx;exact hH i x hx
 rcases gw.2 with⟨h0,hn⟩|⟨g',cap,cur,hv,_,hg,hle,mn,sQ,YG⟩
 · exact Tl (m' hn)
 ·cases hv;rcases Nat.eq_zero_or_pos l.length with hn|j5;· exact Tl (m' hn)
  ·have hN:N 0 g':=hblk g' rfl;have hgF:¬F g':=(bp 0 g' ax hN).2;have hgs:g'<w.heap.size:=(bp 0 g' ax hN).1
   haveI:Inhabited (Fin l.length):=⟨⟨0,j5⟩⟩
   have zD:∀i:Fin l.length,∃cs,cs.length=sz/\R.p F w cs l[i]/\∀j u,cs[j]? =some u->xs[i.val*sz+j]? =some u:=λi=>ml.at (a' i.isLt)
   let enc:Fin l.length->List Value:=λi=>(zD i).choose
   have Im:∀i,(enc i).length=sz/\R.p F w (enc i) l[i]/\∀j u,(enc i)[j]? =some u->xs[i.val*sz+j]? =some u:=λi=>(zD i).choose_spec
   clear_value enc
   let d:Array (Fin l.length):=(K' l.length).toArray;have hd:d.size=l.length:=by simp[d]
   have PM:d.toList=K' l.length:=by simp[d]
   clear_value d
   have hk:∀x,(enc x).length=sz:=λx=>(Im x).1
   have a0N:(flatK enc sz d).toList=xs:=by
     rw[ug hk,PM];refine(hY.flat_iff enc (Q9g hk (by rw[gw.1];simp) λi x hx c hc=>?_)).symm
     have DX:x.val=i:=by
       obtain⟨h5,h6⟩:=i'.1 hx;rw[<-h6];simp
     have PK:c<(enc x).length:=by rw[hk];exact hc
     rw[a' PK,<-DX];exact(Im x).2.2 c _ (a' PK)
   have gH:∀(m:Nat) (os:Array Obj) (dk:Array (Fin l.length)),ia F w (sortWorldK enc sz w g' 0 m dk os):=λm os dk k ec=>qn.block k (hF k ec) (λh=>hgF (h▸ec))
   have a0K:=hS l.length enc (λi j=>U l[i] l[j]) g cb g' c d w hk (λx v hv=>R.one (Im x).2.1 v hv)
     { irrefl:=λx=>decide_eq_false (h1 _ (b' x.isLt))
       trans:=λx y z q r=>decide_eq_true (h2 _ (b' x.isLt) _ (b' y.isLt) _ (b' z.isLt) (of_decide_eq_true q) (of_decide_eq_true r))
       ntrans:=λx y z q r=>decide_eq_false (h3 _ (b' x.isLt) _ (b' y.isLt) _ (b' z.isLt) (of_decide_eq_false q) (of_decide_eq_false r))} eg
     (fun m os dk hs x y=>(Bl (Lw (enc x) (enc y) l[x] l[y] F (sortWorldK enc sz w g' 0 m dk os) (λk ec=>h' (hF k ec) qn.size) (λφ bj=>φ.good (λ_ h=>h) (gH m os dk) (eo φ bj)) (R.good (λ_ h=>h) (gH m os dk) (Im x).2.1) (R.good (λ_ h=>h) (gH m os dk) (Im y).2.1) (b' x.isLt) (b' y.isLt))).mono
       λ_ _ ⟨⟨he,hm⟩,hdr⟩=>⟨he,grown_of hm (hdr _ he)⟩)
     (Is gw a0N) hgs (by rw[hd];exact hlen)
   rw[hd]at a0K;refine a0K.mono ?_;rintro e' w' ⟨rfl,d',m,os,hp,hs,rfl⟩;have SU:d'.size=l.length:=by rw[hp.1];exact hd
   have rj:(d'.toList.map λi=>l[i]).Perm l:=by
     have h5:=(Ry (d:=d) (d':=d') (by rw[hd];exact hp)).map (λi:Fin l.length=>l[i]);rw[PM]at h5
     have h6:(K' l.length).map (λi=>l[i])=l:=by
       apply List.ext_getElem ax;intro i h7 h8;simp
     rwa [h6]at h5
   have BV:(d'.toList.map λi=>l[i]).Pairwise λa b=>¬U b a<0:=by
     rw[List.pairwise_map];exact(sorted_in SU hs).imp λh=>of_decide_eq_false h
   have hL:oT U l=d'.toList.map λi=>l[i]:=ve rj BV h4;have hm:Mod (λj=>j=g') w (sortWorldK enc sz w g' 0 m d' os):=qn;refine⟨_,[],_,rfl,⟨rfl,rfl,rfl⟩,F,N,λk h=>h' (hF k h) hm.size,λ_ h=>h,λ_ h=>.inl h,λφ h=>(by cases h),λi x hx=>?_,λi k hi hk=>⟨h' (bp i k (cx hi) hk).1 hm.size,.inr ⟨i,by simpa using hi,hk⟩,(bp i k (cx hi) hk).2⟩,λi j k hi hj=>uo i j k (cx hi) (cx hj),hm.mono λk _ h=>⟨0,ax,h▸hN⟩⟩;cases i with
   |succ i=>simp at hx
   | zero=>
     simp only[List.getElem?_cons_zero,Option.some.injEq]at hx;subst hx;refine⟨hblk,(flatK enc sz d').toList,?_,?_⟩
     · have hll:(oT U l).length=l.length:=by rw[hL,E',J',SU]
       rw[hll];exact Rx gw (by simp[SU]) (by rw[F5 hgs])
     · rw[hL,ug hk];refine(hY.flat enc hk d'.toList).mapF (λi=>l[i]) λcs i h=>?_
       subst h;exact R.good (λ_ h=>h) (gH m os d') (Im i).2.1
end
section
open Go Go.RowKit Go.Shelf
open Go.Sort (flatK putRowK HoldsK)
variable {P:Program} {ρ:Ren}
def SC (cs:List Value):Value:=.agg cs.toArray
theorem RH (L:SlLaysF0.n6 P ρ)(k:Nat)(aE:∀w,(isAgg (ρ.t 24)).run P w=.ok true w)(zE:∀w,(Go.sizeOf (ρ.t 24)).run P w=.ok k w):tE P (ρ.f 6) k SC:=
 λ_ _ enc cf g cb blk cap d w hk h1 hO eg U hH hblk j9=>AnyQ.slices_SortFunc L k aE zE enc hk h1 cf hO g cb blk 0 cap d w eg (λm os dk hs x y=>U m os dk hs x y) hH hblk j9
end
section
open Go Go.RowKit Go.Shelf
section
variable {α:Type}
def DP (cm:α->α->Option Int)(x y:α):Int:=(cm x y).getD 0
structure zi (cm:α->α->Option Int) (l:List α):Prop where
 some:∀x∈l,∀y∈l,∃z,cm x y=some z
 irrefl:∀x∈l,¬DP cm x x<0
 trans:∀x∈l,∀y∈l,∀z∈l,DP cm x y<0->DP cm y z<0->DP cm x z<0
 ntrans:∀x∈l,∀y∈l,∀z∈l,¬DP cm x y<0->¬DP cm y z<0->¬DP cm x z<0
 parts:∀x∈l,∀y∈l,¬DP cm x y<0->¬DP cm y x<0->x=y
 len:l.length<4611686018427387904
variable {cm:α->α->Option Int}{l l':List α}{P:Program}{g f:FuncId}{Φ:List Fact}{cb:Array Value}{e sz c:Nat}{arg:List Value->Value}{R:fq α}{p:Option Addr}
noncomputable def rz (cm:α->α->Option Int)(l:List α):Option (List α):=
 @ite _ (zi cm l) (Classical.propDecidable _) (some (oT (DP cm) l)) none
theorem MO (h:rz cm l=some l'):zi cm l/\oT (DP cm) l=l':=by
 unfold rz at h;by_cases hk:zi cm l
 ·rw[if_pos hk]at h;exact⟨hk,Option.some.inj h⟩
 ·rw[if_neg hk]at h;cases h
theorem MN (h:zi cm l)(hp:l'.Perm l)(hs:l'.Pairwise λa b=>¬DP cm b a<0):rz cm l=some l':=by
 unfold rz;rw[if_pos h,ve hp hs h.parts]
theorem FM
  (hS:tE P f sz arg) (LO:∀(p:Option Addr) (cap:Nat) (fv:Value) (w:World),Calls P f #[.slice p 0 cap,fv] w λe w'=>e=.returned (.tuple #[])/\w'=w) (eg:∀args w,(callFunc g args).run P w=.ok (.enter g args) w)
  (Lw:∀(cs U:List Value) (x y:α) (z:Int) (F:ep) (W:World),(∀k,F k->k<W.heap.size)->(∀φ∈Φ,φ.p F W)->R.p F W cs x->R.p F W U y->cm x y=some z->Calls P g (#[arg cs,arg U]++cb) W λe w'=>e=.returned (.int .i64 z)/\Mod (λ_=>False) W w')
  (hm:rz cm l=some l'):
  QD P f [.slice p l.length c,.func (.func g) #[] cb] Φ [.own e sz R (.slice p l.length c) l] λv bo Hr=>v=.tuple #[]/\bo=[]/\Hr=[.own e sz R (.slice p l.length c) l']:=by
 obtain⟨hk,rfl⟩:=MO hm;refine FL (DP cm) hS LO eg (λcs U x y F W h1 h2 h3 h4 h5 h6=>?_) hk.irrefl hk.trans hk.ntrans hk.parts hk.len;obtain⟨z,hz⟩:=hk.some x h5 y h6;have:DP cm x y=z:=by unfold DP;rw[hz];rfl
 rw[this];exact Lw cs U x y z F W h1 h2 h3 h4 hz
theorem Ks {args:List Value} {v:Value} {F:ep} {W:World} (h:QD P g args Φ [] (λu bo Hr=>u=v/\bo=[]/\Hr=[]))(hF:∀k,F k->k<W.heap.size)(eo:∀φ∈Φ,φ.p F W):
  Calls P g args.toArray W λe w'=>e=.returned v/\Mod (λ_=>False) W w':=
 vf h λφ U=>φ.good hF (ia.refl _ _) (eo φ U)
theorem FN {Λ:Type} {C:α->Λ->List Value} {Fx:α->Λ->List Fact}
  (ku:qW R C (λ_ _=>True) Fx) (hS:tE P f sz arg) (LO:∀(p:Option Addr) (cap:Nat) (fv:Value) (w:World),Calls P f #[.slice p 0 cap,fv] w λe w'=>e=.returned (.tuple #[])/\w'=w) (eg:∀args w,(callFunc g args).run P w=.ok (.enter g args) w)
  (hc:∀x y r r' z,cm x y=some z->QD P g ([arg (C x r),arg (C y r')]++cb.toList) (Fx x r++(Fx y r'++Φ)) [] λv bo Hr=>v=.int .i64 z/\bo=[]/\Hr=[])
  (hm:rz cm l=some l'):
  QD P f [.slice p l.length c,.func (.func g) #[] cb] Φ [.own e sz R (.slice p l.length c) l] λv bo Hr=>v=.tuple #[]/\bo=[]/\Hr=[.own e sz R (.slice p l.length c) l']:=by
 refine FM hS LO eg (λcs vS x y z F W hF eo h1 h2 hz=>?_) hm;obtain⟨r,rfl,_,q1⟩:=ku _ _ _ _ h1;obtain⟨r',rfl,_,q2⟩:=ku _ _ _ _ h2
 have h3:=Ks (W:=W) (hc x y r r' z hz) hF (λφ U=>by
  rcases o'.1 U with U|U;· exact q1 φ U
  ·rcases o'.1 U with U|U;· exact q2 φ U
   · exact eo φ U)
 have e:#[arg (C x r),arg (C y r')]++cb=([arg (C x r),arg (C y r')]++cb.toList).toArray:=by apply Array.ext';simp
 rw[<-e]at h3;exact h3
end
end
section
open Go Go.RowKit Go.Shelf
theorem X3:tE Tryz.prog 66 2 SC:=RH Tryz.sort66 2 (vo aq) (AD aq)
theorem IY (p:Option Addr)(cap:Nat)(U:Value)(w:World):Calls Tryz.prog 66 #[.slice p 0 cap,U] w λe w'=>e=.returned (.tuple #[])/\w'=w:=AnyF.slices_SortFunc_none (P:=Tryz.prog) (ρ:=Tryz.sort66_ren) {Tryz.sort66 with} p cap U w
end
end Go.Proofs.YtocfkfhdcnjklaaGreatDoor
namespace Go.Proofs
open Go.Shelf
def Tryz.lays160_ren:Go.Shelf.Ren:=⟨λ|160=>181|232=>268|231=>267|227=>269|234=>271|233=>270|236=>273|235=>272|228=>328|271=>331|151=>330|197=>329|120=>359|152=>358|260=>357|137=>180|119=>377|224=>378|225=>379|217=>266|266=>327|n=>n,λ|9=>9|4=>4|3=>3|5=>5|117=>431|116=>430|0=>0|124=>434|21=>21|105=>479|46=>230|119=>507|139=>510|138=>509|n=>n,λ|3=>2|4=>3|n=>n⟩
theorem Tryz.lays160:Go.Proofs.Lays.n160 Tryz.prog Tryz.lays160_ren:={
 mixed:=by kernel_rfl
 f119:=Tryz.func377.trans (congrArg some (by kernel_rfl))
 f120:=Tryz.func359.trans (congrArg some (by kernel_rfl))
 f137:=Tryz.func180.trans (congrArg some (by kernel_rfl))
 f151:=Tryz.func330.trans (congrArg some (by kernel_rfl))
 f152:=Tryz.func358.trans (congrArg some (by kernel_rfl))
 f160:=Tryz.func181.trans (congrArg some (by kernel_rfl))
 f197:=Tryz.func329.trans (congrArg some (by kernel_rfl))
 f217:=Tryz.func266.trans (congrArg some (by kernel_rfl))
 f224:=Tryz.func378.trans (congrArg some (by kernel_rfl))
 f225:=Tryz.func379.trans (congrArg some (by kernel_rfl))
 f227:=Tryz.func269.trans (congrArg some (by kernel_rfl))
 f228:=Tryz.func328.trans (congrArg some (by kernel_rfl))
 f231:=Tryz.func267.trans (congrArg some (by kernel_rfl))
 f232:=Tryz.func268.trans (congrArg some (by kernel_rfl))
 f233:=Tryz.func270.trans (congrArg some (by kernel_rfl))
 f234:=Tryz.func271.trans (congrArg some (by kernel_rfl))
 f235:=Tryz.func272.trans (congrArg some (by kernel_rfl))
 f236:=Tryz.func273.trans (congrArg some (by kernel_rfl))
 f260:=Tryz.func357.trans (congrArg some (by kernel_rfl))
 f266:=Tryz.func327.trans (congrArg some (by kernel_rfl))
 f271:=Tryz.func331.trans (congrArg some (by kernel_rfl))
 t0:=Tryz.underlying0
 a0:=Tryz.isAgg0
 z0:=Tryz.sizeOf0
 v0:=Tryz.zeroValue0
 t3:=Tryz.underlying3
 a3:=Tryz.isAgg3
 z3:=Tryz.sizeOf3
 v3:=Tryz.zeroValue3
 t4:=Tryz.underlying4
 a4:=Tryz.isAgg4
 z4:=Tryz.sizeOf4
 v4:=Tryz.zeroValue4
 t5:=Tryz.underlying5
 a5:=Tryz.isAgg5
 z5:=Tryz.sizeOf5
 v5:=Tryz.zeroValue5
 t9:=Tryz.underlying9
 a9:=Tryz.isAgg9
 z9:=Tryz.sizeOf9
 v9:=Tryz.zeroValue9
 t21:=Tryz.underlying21
 a21:=Tryz.isAgg21
 z21:=Tryz.sizeOf21
 v21:=Tryz.zeroValue21
 t46:=Tryz.underlying230
 a46:=Tryz.isAgg230
 z46:=Tryz.sizeOf230
 v46:=Tryz.zeroValue230
 t105:=Tryz.underlying479
 a105:=Tryz.isAgg479
 z105:=Tryz.sizeOf479
 v105:=Tryz.zeroValue479
 t116:=Tryz.underlying430
 a116:=Tryz.isAgg430
 z116:=Tryz.sizeOf430
 t117:=Tryz.underlying431
 a117:=Tryz.isAgg431
 z117:=Tryz.sizeOf431
 v117:=Tryz.zeroValue431
 t119:=Tryz.underlying507
 a119:=Tryz.isAgg507
 z119:=Tryz.sizeOf507
 t124:=Tryz.underlying434
 a124:=Tryz.isAgg434
 z124:=Tryz.sizeOf434
 v124:=Tryz.zeroValue434
 t138:=Tryz.underlying509
 a138:=Tryz.isAgg509
 z138:=Tryz.sizeOf509
 v138:=Tryz.zeroValue509
 t139:=Tryz.underlying510
 a139:=Tryz.isAgg510
 z139:=Tryz.sizeOf510
 v139:=Tryz.zeroValue510
 g3:=by kernel_rfl
 g4:=by kernel_rfl}
def Tryz.lays137_ren:Go.Shelf.Ren:=⟨λ|137=>180|217=>266|266=>327|n=>n,λ|9=>9|5=>5|3=>3|n=>n,λ|n=>n⟩
theorem Tryz.lays137:Go.Proofs.Lays.n137 Tryz.prog Tryz.lays137_ren:={
 mixed:=by kernel_rfl
 f137:=Tryz.func180.trans (congrArg some (by kernel_rfl))
 f217:=Tryz.func266.trans (congrArg some (by kernel_rfl))
 f266:=Tryz.func327.trans (congrArg some (by kernel_rfl))
 t3:=Tryz.underlying3
 a3:=Tryz.isAgg3
 z3:=Tryz.sizeOf3
 v3:=Tryz.zeroValue3
 t5:=Tryz.underlying5
 a5:=Tryz.isAgg5
 z5:=Tryz.sizeOf5
 v5:=Tryz.zeroValue5
 t9:=Tryz.underlying9
 a9:=Tryz.isAgg9
 z9:=Tryz.sizeOf9
 v9:=Tryz.zeroValue9}
open Go.RowKit in
theorem Tryz.strings_IndexByte (s:ByteArray)(c:Int)(w:World):
 Calls Tryz.prog 180 #[.string s,.int .u8 c] w λe U=>e=.returned (.int .i64 (Lib.indexByte s.data.toList c.toNat.toUInt8))/\U=w:=Any.strings_IndexByte Tryz.lays137 s c w
def Tryz.laysM171_ren:Go.Shelf.Ren:=⟨λ|171=>85|243=>165|246=>258|283=>316|284=>317|285=>318|286=>319|129=>191|317=>350|318=>351|319=>352|320=>353|337=>373|338=>374|n=>n,λ|3=>3|9=>9|2=>2|4=>4|171=>471|0=>0|53=>322|37=>329|5=>5|173=>473|212=>498|51=>320|20=>20|213=>499|46=>230|232=>515|233=>516|n=>n,λ|17=>0|18=>4|19=>5|n=>n⟩
theorem Tryz.laysM171:Go.Proofs.LaysM.n171 Tryz.prog Tryz.laysM171_ren:={
 mixed:=by kernel_rfl
 f129:=Tryz.func191.trans (congrArg some (by kernel_rfl))
 f171:=Tryz.func85.trans (congrArg some (by kernel_rfl))
 f243:=Tryz.func165.trans (congrArg some (by kernel_rfl))
 f246:=Tryz.func258.trans (congrArg some (by kernel_rfl))
 f283:=Tryz.func316.trans (congrArg some (by kernel_rfl))
 f284:=Tryz.func317.trans (congrArg some (by kernel_rfl))
 f285:=Tryz.func318.trans (congrArg some (by kernel_rfl))
 f286:=Tryz.func319.trans (congrArg some (by kernel_rfl))
 f317:=Tryz.func350.trans (congrArg some (by kernel_rfl))
 f318:=Tryz.func351.trans (congrArg some (by kernel_rfl))
 f319:=Tryz.func352.trans (congrArg some (by kernel_rfl))
 f320:=Tryz.func353.trans (congrArg some (by kernel_rfl))
 f337:=Tryz.func373.trans (congrArg some (by kernel_rfl))
 f338:=Tryz.func374.trans (congrArg some (by kernel_rfl))
 t0:=Tryz.underlying0
 a0:=Tryz.isAgg0
 z0:=Tryz.sizeOf0
 v0:=Tryz.zeroValue0
 t2:=Tryz.underlying2
 a2:=Tryz.isAgg2
 z2:=Tryz.sizeOf2
 v2:=Tryz.zeroValue2
 t3:=Tryz.underlying3
 a3:=Tryz.isAgg3
 z3:=Tryz.sizeOf3
 v3:=Tryz.zeroValue3
 t4:=Tryz.underlying4
 a4:=Tryz.isAgg4
 z4:=Tryz.sizeOf4
 v4:=Tryz.zeroValue4
 t5:=Tryz.underlying5
 a5:=Tryz.isAgg5
 z5:=Tryz.sizeOf5
 v5:=Tryz.zeroValue5
 t9:=Tryz.underlying9
 a9:=Tryz.isAgg9
 z9:=Tryz.sizeOf9
 v9:=Tryz.zeroValue9
 t20:=Tryz.underlying20
 a20:=Tryz.isAgg20
 z20:=Tryz.sizeOf20
 v20:=Tryz.zeroValue20
 t37:=Tryz.underlying329
 a37:=Tryz.isAgg329
 z37:=Tryz.sizeOf329
 v37:=Tryz.zeroValue329
 t46:=Tryz.underlying230
 a46:=Tryz.isAgg230
 z46:=Tryz.sizeOf230
 v46:=Tryz.zeroValue230
 t51:=Tryz.underlying320
 a51:=Tryz.isAgg320
 z51:=Tryz.sizeOf320
 v51:=Tryz.zeroValue320
 t53:=Tryz.underlying322
 a53:=Tryz.isAgg322
 z53:=Tryz.sizeOf322
 v53:=Tryz.zeroValue322
 t171:=Tryz.underlying471
 a171:=Tryz.isAgg471
 z171:=Tryz.sizeOf471
 v171:=Tryz.zeroValue471
 t173:=Tryz.underlying473
 a173:=Tryz.isAgg473
 z173:=Tryz.sizeOf473
 v173:=Tryz.zeroValue473
 t212:=Tryz.underlying498
 a212:=Tryz.isAgg498
 z212:=Tryz.sizeOf498
 v212:=Tryz.zeroValue498
 t213:=Tryz.underlying499
 a213:=Tryz.isAgg499
 z213:=Tryz.sizeOf499
 t232:=Tryz.underlying515
 a232:=Tryz.isAgg515
 z232:=Tryz.sizeOf515
 v232:=Tryz.zeroValue515
 t233:=Tryz.underlying516
 a233:=Tryz.isAgg516
 z233:=Tryz.sizeOf516
 v233:=Tryz.zeroValue516
 g17:=by kernel_rfl
 g18:=by kernel_rfl
 g19:=by kernel_rfl
 i0:=by kernel_rfl
 i2:=by kernel_rfl
 i3:=by kernel_rfl
 i4:=by kernel_rfl
 i5:=by kernel_rfl
 i9:=by kernel_rfl
 i20:=by kernel_rfl
 i37:=by kernel_rfl
 i46:=by kernel_rfl
 i51:=by kernel_rfl
 i53:=by kernel_rfl
 i171:=by kernel_rfl
 i173:=by kernel_rfl
 i212:=by kernel_rfl
 i232:=by kernel_rfl
 i233:=by kernel_rfl
 m17:=by kernel_rfl
 m18:=by kernel_rfl
 m19:=by kernel_rfl}
open Go.RowKit Go.Sort Go.Lib in
theorem Tryz.strconv_Itoa (n:Int)(h0:-9223372036854775808<=n)(h1:n<=9223372036854775807)(w:World)(U:Lib.TabIs Tryz.prog w "internal/strconv.uint64pow10" .u64 Lib.pow10Tab):
 Calls Tryz.prog 85 #[.int .i64 n] w λe w'=>e=.returned (.string ⟨(Lib.itoa n).toArray⟩)/\∃k os,w'=grow (w.drewN k) os:=Any.strconv_Itoa Tryz.laysM171 n h0 h1 w U
def Tryz.laysM173_ren:Go.Shelf.Ren:=⟨λ|173=>166|246=>258|283=>316|284=>317|285=>318|286=>319|129=>191|317=>350|318=>351|319=>352|320=>353|337=>373|338=>374|n=>n,λ|2=>2|3=>3|9=>9|4=>4|171=>471|0=>0|53=>322|37=>329|5=>5|173=>473|212=>498|51=>320|20=>20|213=>499|46=>230|232=>515|233=>516|n=>n,λ|17=>0|18=>4|19=>5|n=>n⟩
theorem Tryz.laysM173:Go.Proofs.LaysM.n173 Tryz.prog Tryz.laysM173_ren:={
 mixed:=by kernel_rfl
 f129:=Tryz.func191.trans (congrArg some (by kernel_rfl))
 f173:=Tryz.func166.trans (congrArg some (by kernel_rfl))
 f246:=Tryz.func258.trans (congrArg some (by kernel_rfl))
 f283:=Tryz.func316.trans (congrArg some (by kernel_rfl))
 f284:=Tryz.func317.trans (congrArg some (by kernel_rfl))
 f285:=Tryz.func318.trans (congrArg some (by kernel_rfl))
 f286:=Tryz.func319.trans (congrArg some (by kernel_rfl))
 f317:=Tryz.func350.trans (congrArg some (by kernel_rfl))
 f318:=Tryz.func351.trans (congrArg some (by kernel_rfl))
 f319:=Tryz.func352.trans (congrArg some (by kernel_rfl))
 f320:=Tryz.func353.trans (congrArg some (by kernel_rfl))
 f337:=Tryz.func373.trans (congrArg some (by kernel_rfl))
 f338:=Tryz.func374.trans (congrArg some (by kernel_rfl))
 t0:=Tryz.underlying0
 a0:=Tryz.isAgg0
 z0:=Tryz.sizeOf0
 v0:=Tryz.zeroValue0
 t2:=Tryz.underlying2
 a2:=Tryz.isAgg2
 z2:=Tryz.sizeOf2
 v2:=Tryz.zeroValue2
 t3:=Tryz.underlying3
 a3:=Tryz.isAgg3
 z3:=Tryz.sizeOf3
 v3:=Tryz.zeroValue3
 t4:=Tryz.underlying4
 a4:=Tryz.isAgg4
 z4:=Tryz.sizeOf4
 v4:=Tryz.zeroValue4
 t5:=Tryz.underlying5
 a5:=Tryz.isAgg5
 z5:=Tryz.sizeOf5
 v5:=Tryz.zeroValue5
 t9:=Tryz.underlying9
 a9:=Tryz.isAgg9
 z9:=Tryz.sizeOf9
 v9:=Tryz.zeroValue9
 t20:=Tryz.underlying20
 a20:=Tryz.isAgg20
 z20:=Tryz.sizeOf20
 v20:=Tryz.zeroValue20
 t37:=Tryz.underlying329
 a37:=Tryz.isAgg329
 z37:=Tryz.sizeOf329
 v37:=Tryz.zeroValue329
 t46:=Tryz.underlying230
 a46:=Tryz.isAgg230
 z46:=Tryz.sizeOf230
 v46:=Tryz.zeroValue230
 t51:=Tryz.underlying320
 a51:=Tryz.isAgg320
 z51:=Tryz.sizeOf320
 v51:=Tryz.zeroValue320
 t53:=Tryz.underlying322
 a53:=Tryz.isAgg322
 z53:=Tryz.sizeOf322
 v53:=Tryz.zeroValue322
 t171:=Tryz.underlying471
 a171:=Tryz.isAgg471
 z171:=Tryz.sizeOf471
 v171:=Tryz.zeroValue471
 t173:=Tryz.underlying473
 a173:=Tryz.isAgg473
 z173:=Tryz.sizeOf473
 v173:=Tryz.zeroValue473
 t212:=Tryz.underlying498
 a212:=Tryz.isAgg498
 z212:=Tryz.sizeOf498
 v212:=Tryz.zeroValue498
 t213:=Tryz.underlying499
 a213:=Tryz.isAgg499
 z213:=Tryz.sizeOf499
 t232:=Tryz.underlying515
 a232:=Tryz.isAgg515
 z232:=Tryz.sizeOf515
 v232:=Tryz.zeroValue515
 t233:=Tryz.underlying516
 a233:=Tryz.isAgg516
 z233:=Tryz.sizeOf516
 v233:=Tryz.zeroValue516
 g17:=by kernel_rfl
 g18:=by kernel_rfl
 g19:=by kernel_rfl
 i0:=by kernel_rfl
 i2:=by kernel_rfl
 i3:=by kernel_rfl
 i4:=by kernel_rfl
 i5:=by kernel_rfl
 i9:=by kernel_rfl
 i20:=by kernel_rfl
 i37:=by kernel_rfl
 i46:=by kernel_rfl
 i51:=by kernel_rfl
 i53:=by kernel_rfl
 i171:=by kernel_rfl
 i173:=by kernel_rfl
 i212:=by kernel_rfl
 i232:=by kernel_rfl
 i233:=by kernel_rfl
 m17:=by kernel_rfl
 m18:=by kernel_rfl
 m19:=by kernel_rfl}
open Go.RowKit Go.Sort Go.Lib in
theorem Tryz.strconv_FormatInt_10 (n:Int)(h0:-9223372036854775808<=n)(h1:n<=9223372036854775807)(w:World)(U:Lib.TabIs Tryz.prog w "internal/strconv.uint64pow10" .u64 Lib.pow10Tab):
 Calls Tryz.prog 166 #[.int .i64 n,.int .i64 10] w λe w'=>e=.returned (.string ⟨(Lib.itoa n).toArray⟩)/\∃k os,w'=grow (w.drewN k) os:=Any.strconv_FormatInt_10 Tryz.laysM173 n h0 h1 w U
def Tryz.lays264_ren:Go.Shelf.Ren:=⟨λ|264=>380|n=>n,λ|53=>322|46=>230|n=>n,λ|n=>n⟩
theorem Tryz.lays264:Go.Proofs.Lays.n264 Tryz.prog Tryz.lays264_ren:={
 mixed:=by kernel_rfl
 f264:=Tryz.func380.trans (congrArg some (by kernel_rfl))
 t46:=Tryz.underlying230
 a46:=Tryz.isAgg230
 z46:=Tryz.sizeOf230
 v46:=Tryz.zeroValue230
 t53:=Tryz.underlying322
 a53:=Tryz.isAgg322
 z53:=Tryz.sizeOf322
 v53:=Tryz.zeroValue322}
open Go.RowKit Go.Lib in
theorem Tryz.bits_Mul64 (x y:Nat)(U:x<18446744073709551616)(hy:y<18446744073709551616)(w:World):
 Calls Tryz.prog 380 #[.int .u64 x,.int .u64 y] w λe w'=>e=.returned (.tuple #[.int .u64 ((x*y/18446744073709551616:Nat):Int),.int .u64 ((x*y%18446744073709551616:Nat):Int)])/\w'=w:=Any.bits_Mul64 Tryz.lays264 x y U hy w
end Go.Proofs
namespace Go.Proofs.YtocfkfhdcnjklaaGreatDoor
section
open Go Go.RowKit
variable {P:Program}{f:FuncId}{args:List Value}{v:Value}
theorem yp (h:∀w,Calls P f args.toArray w λe U=>e=.returned v/\Below w.heap.size w U):QD P f args [] [] (λu bo Hr=>u=v/\bo=[]/\Hr=[]):=by
 intro F N w hF _ _ _ _;refine(h w).mono λe U ⟨he,hb⟩=>⟨v,[],[],he,⟨rfl,rfl,rfl⟩,?_⟩
 have h0:Ql ⟨w,λk=>∃i,i<([]:List Fact).length/\N i k,F⟩ [] [] w:=
  ⟨F,N,hF,λ_ h=>h,λ_ h=>.inl h,λφ bj=>(by cases bj),λi φ h=>(by simp at h),λi k hi=>(by simp at hi),λi j k hi=>(by simp at hi),Mod.refl _ _⟩
 exact h0.drew' hb
theorem yq (h:∀w,Calls P f args.toArray w λe U=>e=.returned v/\U=w):QD P f args [] [] (λu bo Hr=>u=v/\bo=[]/\Hr=[]):=
 yp λw=>(h w).mono λe U ⟨he,hw⟩=>⟨he,hw▸Below.refl _ _⟩
end
section
open Go Go.RowKit
variable {P:Program}{name:String}{k:IntKind}{g:Nat}{hg:P.globalNamed name=some g}
def Nq (P:Program)(name:String)(k:IntKind)(zs:List Int)(g:Nat)(hg:P.globalNamed name=some g):Fact:=
 .raw (λN w=>N g/\Lib.TabIs P w name k zs) (λU ha h=>⟨U _ h.1,by
  have:=h.2;unfold Lib.TabIs World.var? at this⊢;rw[hg]at this⊢;simp only[P']at this⊢;rw[ha g h.1];exact this⟩)
theorem RO {W:World} {zs:List Int} (h:Lib.TabIs P W name k zs):(Nq P name k zs g hg).p (λk=>k<W.heap.size) W:=by
 refine⟨?_,h⟩;unfold Lib.TabIs World.var? at h;rw[hg]at h;simp only[P']at h;cases hb:W.heap[g]? with
 |none=>rw[hb]at h;cases h
 |some o=>exact(t'.1 hb).1
theorem CQ {f:FuncId} {args:List Value} {v:Value} {zs:List Int} (h:∀w,Lib.TabIs P w name k zs->Calls P f args.toArray w λe U=>e=.returned v/\Below w.heap.size w U):QD P f args [Nq P name k zs g hg] [] (λu bo Hr=>u=v/\bo=[]/\Hr=[]):=by
 intro F N w hF eo _ _ _;have ht:Lib.TabIs P w name k zs:=(eo _ (L'.2 rfl)).2;refine(h w ht).mono λe U ⟨he,hb⟩=>⟨v,[],[],he,⟨rfl,rfl,rfl⟩,?_⟩
 have h0:Ql ⟨w,λk=>∃i,i<([]:List Fact).length/\N i k,F⟩ [] [] w:=
  ⟨F,N,hF,λ_ h=>h,λ_ h=>.inl h,λφ bj=>(by cases bj),λi φ h=>(by simp at h),λi k hi=>(by simp at hi),λi j k hi=>(by simp at hi),Mod.refl _ _⟩
 exact h0.drew' hb
theorem Qce (w:World):∀n,Below w.heap.size w (w.drewN n)
 |0=>Below.refl _ _
 |n+1=>(Qce w n).drew
def kQ:Nat->Nat->List UInt8
 |0,_=>[]
 |f+1,u=>if u<10 then[UInt8.ofNat (48+u)]else kQ f (u/10)++[UInt8.ofNat (48+u%10)]
theorem zt:∀(f u:Nat),u<10^f->0<f->kQ f u=Lib.decDigits u
 |0,_,_,h=>an
 | f+1,u,h,_=>by
   unfold kQ;rw[Lib.decDigits];split;· rfl
   ·rename_i hu;cases f with
    |zero=>simp at h;omega
    | succ f=>
      rw[zt (f+1) (u/10) (by rw[Nat.pow_succ]at h;omega) an]
def wb (n:Int):ByteArray:=⟨(if n<0 then 45::kQ 20 n.natAbs else kQ 20 n.toNat).toArray⟩
theorem Cg {n:Int} (h:-9223372036854775808<=n/\n<=9223372036854775807):(⟨(Lib.itoa n).toArray⟩:ByteArray)=wb n:=by
 have e:(10:Nat)^20=100000000000000000000:=bf
 unfold wb Lib.itoa;split;· rw[zt 20 _ (by rw[e];omega) an]
 · rw[zt 20 _ (by rw[e];omega) an]
end
section
open Go Go.RowKit
theorem Ab (s:ByteArray)(c:Int):QD Tryz.prog 180 [.string s,.int .u8 c] [] [] (λu U Hr=>u=.int .i64 (Lib.indexByte s.data.toList c.toNat.toUInt8)/\U=[]/\Hr=[]):=yq λw=>Tryz.strings_IndexByte s c w
theorem RF (s c:ByteArray)(hc:c.size<4294967281)(ha:∀(j:Nat) b,c.data.toList[j]? =some b->b.toNat<128)(hs:s.size<=9223372036854775807):QD Tryz.prog 181 [.string s,.string c] [] [] (λu U Hr=>u=.string ⟨(Lib.trimS s.data.toList c.data.toList).toArray⟩/\U=[]/\Hr=[]):=yp λw=>Any.strings_Trim_laid Tryz.lays160 aq s c w hs hc ha
theorem MM (x y:Int)(hx:0<=x/\x<18446744073709551616)(hy:0<=y/\y<18446744073709551616):QD Tryz.prog 380 [.int .u64 x,.int .u64 y] [] [] (λu U Hr=>u=.tuple #[.int .u64 ((x.toNat*y.toNat/18446744073709551616:Nat):Int),.int .u64 ((x.toNat*y.toNat%18446744073709551616:Nat):Int)]/\U=[]/\Hr=[]):=yq λw=>by
 obtain⟨a,rfl⟩:=C' hx.1;obtain⟨b,rfl⟩:=C' hy.1;simp only[Int.toNat_natCast];exact Tryz.bits_Mul64 a b an an w
theorem sX:Tryz.prog.globalNamed "internal/strconv.uint64pow10" =some 0:=aq
abbrev tF:Fact:=Nq Tryz.prog "internal/strconv.uint64pow10" .u64 Lib.pow10Tab 0 sX
theorem Aa (n:Int)(h:-9223372036854775808<=n/\n<=9223372036854775807):QD Tryz.prog 166 [.int .i64 n,.int .i64 10] [Nq Tryz.prog "internal/strconv.uint64pow10" .u64 Lib.pow10Tab 0 sX] [] (λu bo Hr=>u=.string (wb n)/\bo=[]/\Hr=[]):=by
 rw[<-Cg h];refine CQ λw ht=>(Tryz.strconv_FormatInt_10 n h.1 h.2 w ht).mono λe w' ⟨he,k,os,hw⟩=>⟨he,?_⟩
 subst hw;have h1:=Qce w k
 exact ⟨h1.os,h1.tape,h1.output,D' h1.size (by simp[Go.Sort.grow]),λq U=>by
  have h2:=h1.block q U;have h3:q<(w.drewN k).heap.size:=h' U h1.size;simp only[Go.Sort.grow];rw[x' h3];exact h2⟩
theorem RE (n:Int)(h:-9223372036854775808<=n/\n<=9223372036854775807):QD Tryz.prog 85 [.int .i64 n] [Nq Tryz.prog "internal/strconv.uint64pow10" .u64 Lib.pow10Tab 0 sX] [] (λu bo Hr=>u=.string (wb n)/\bo=[]/\Hr=[]):=by
 rw[<-Cg h];refine CQ λw ht=>(Tryz.strconv_Itoa n h.1 h.2 w ht).mono λe w' ⟨he,k,os,hw⟩=>⟨he,?_⟩
 subst hw;have h1:=Qce w k
 exact ⟨h1.os,h1.tape,h1.output,D' h1.size (by simp[Go.Sort.grow]),λq U=>by
  have h2:=h1.block q U;have h3:q<(w.drewN k).heap.size:=h' U h1.size;simp only[Go.Sort.grow];rw[x' h3];exact h2⟩
end
section
open Go Go.RowKit Go.Deep
theorem lp {k:IntKind} {n:Int} (h:(Lit.int k n).wf=true):lA k n:=by
 simp only[Lit.wf,Bool.and_eq_true,decide_eq_true_eq]at h;exact h
theorem GQ {x:Int} (h:lA .i64 x):-9223372036854775808<=x/\x<=9223372036854775807:=by
 have U:IntKind.min .i64=-9223372036854775808:=bf
 have e2:IntKind.max .i64=9223372036854775807:=bf
 unfold lA at h;rwa [U,e2]at h
section
variable {H:Type} {enc:TypeId×Value->H} {P:Program} {w:World} {base:Nat} {spare:Nat->Bool} {held:Bool} {fuel:Nat} {cs:List Value} {y:DataW H×List MemPlace}
variable {t:TypeId}{α:Type}{e sz b:Nat}
def gV (P:Program)(t:TypeId)(d:DataW H):Prop:=∀n∈d.weights P t,n<=reachBytes
theorem Q9W {e:TypeId} {n:Nat}:∀{ds:List (DataW H)} {d:DataW H},d∈ds->n∈d.weights P e->n∈DataW.weightsAll P e ds
 | d0::ds,d,U,hn=>by
   simp only[DataW.weightsAll,o'];rcases q'.1 U with rfl|U;· exact .inl hn
   · exact .inr (Q9W U hn)
theorem Sk {fs:Array Field} (ht:P.underlying t=some (.struct fs))(h:DataW.trod enc P w base spare held fuel t cs=some y)(hw:gV P t y.1):
  ∃n,cs.length=P.cellsOf t/\∀(i:Nat) (f:Field),fs[i]? =some f->∃z,DataW.trod enc P w base spare held n f.type ((cs.drop f.offset).take (P.cellsOf f.type))=some z/\gV P f.type z.1:=by
 obtain⟨xs,n,_,rfl,hl,hlen,hf⟩:=DataW.trod_struct ht h;refine⟨n,hl,λi f hi=>?_⟩;have U:i<xs.length:=by rw[hlen];exact(t'.1 hi).1
 refine⟨xs[i],by have:=hf i f hi;simpa[a' U]using this,λk hk=>hw k ?_⟩;simp only[DataW.weights,ht];refine DataW.weights_mem_each (j:=i) (t:=f.type) (d:=xs[i].1) ?_ ?_ k hk;· rw[s',f',hi];rfl
 · rw[s',a' U];rfl
theorem hY.pure {α:Type} {sz:Nat} {R:List Value->α->Prop} {q:α->Prop}:∀{l:List α} {xs:List Value},hY sz (λcs x=>R cs x/\q x) xs l->hY sz R xs l/\∀x∈l,q x
 |[],xs,h=>⟨h,ax⟩
 | x::l,xs,⟨cs,rest,h1,h2,h3,h4⟩=>by
   obtain⟨h5,h6⟩:=hY.pure h4;refine⟨⟨cs,rest,h1,h2,h3.1,h5⟩,λz U=>?_⟩;rcases q'.1 U with rfl|U;· exact h3.2
   · exact h6 z U
theorem IG {t:Nat} {R:List Value->α->Prop} (ht:P.underlying t=some (.slice e))(hC:P.cellsOf e=sz)(hz:0<sz)
  (PN:∀n cs y,DataW.trod enc P w base spare held n e cs=some y->gV P e y.1->∃a,R cs a) (h:DataW.trod enc P w base spare held fuel t cs=some y) (hw:gV P t y.1):
  ∃v l,cs=[v]/\zh (λk=>k<w.heap.size) w sz R v l/\l.length*P.bytesOf e<=reachBytes:=by
 rcases open_slice ht h with⟨rfl,_⟩|⟨a,len,cap,m,n,D,Pl,rfl,hb,hl,hm,hmm,rfl,hi⟩
 · exact⟨_,[],rfl,zh.nil,ax⟩
 ·subst hC;have hle:len<=m:=by rw[hmm];split<;>omega
  have hD:∀i,i<len->gV P e (D i):=λi bp k hk=>hw k (by
   simp only[DataW.weights,ht,q',o'];exact .inr (.inl (Q9W (d:=D i) (O'.2 ⟨i,List.mem_range.2 bp,rfl⟩) hk)))
  have j9:len*P.bytesOf e<=reachBytes:=by
   have:=hw _ (by simp only[DataW.weights,ht];exact n');simp only[E',List.length_range]at this;exact D' (j' _ an) this
  have key:∀k,k<=len->∃xs l,l.length=k/\hY (P.cellsOf e) R xs l/\∀j u,xs[j]? =some u->w.cell? (a.add j)=some u:=by
   intro k;induction k with
   |zero=>intro _;exact⟨[],[],rfl,rfl,ax⟩
   | succ k ih=>
     intro hk;obtain⟨xs,l,wv,hx,hc⟩:=ih an;obtain⟨vS,h1,U⟩:=hi k an;obtain⟨_,hlen,zD⟩:=World.cells?_some h1;obtain⟨y,hy⟩:=PN _ _ _ U (hD k an);refine⟨xs++vS,l++[y],by simp[wv],hx.append (hY.one hy hlen),λj u hj=>?_⟩;have Tf:=hx.length;rw[wv]at Tf;by_cases GK:j<xs.length;· rw[B' GK]at hj;exact hc j u hj
     ·rw[y' an]at hj;have h3:=(i'.1 hj).1;have:=zD (j-xs.length) an
      rw[hj,Go.Deep.add_add]at this;rw[<-this];congr 2;omega
  obtain⟨xs,l,wv,hx,hc⟩:=key len (I' _);refine⟨_,l,rfl,⟨some a,len,cap,xs,rfl,wv.symm,hl,hm,hx,λh0=>?_⟩,by rw[wv];exact j9⟩;have h1:0<xs.length:=by rw[hx.length,wv];exact W' h0 hz
  have U:=hc 0 _ (a' h1);have h3:a.add 0=a:=rfl;rw[h3]at U
  have hsp:a=⟨a.block,a.off,none⟩:=by
   rcases a with⟨b,o,s⟩;cases s with
   |none=>rfl
   | some s=>
     exfalso;simp only[World.cell?]at U;split at U<;>simp at U
  have bp:=World.block_lt_of_cell? w a U;refine⟨a.block,a.off,by rw[<-hsp],bp,λj u hj=>?_⟩;have:=hc j u hj;rw[hsp,DC]at this;exact this
theorem OI {t:Nat} {R:fq α} {q:α->Prop} (ht:P.underlying t=some (.slice e))(hC:P.cellsOf e=sz)(hz:0<sz)
  (U:∀n cs y,DataW.trod enc P w base spare held n e cs=some y->gV P e y.1->∃a,R.p (λk=>k<w.heap.size) w cs a/\q a) {us:List Value} (h:DataW.trod enc P w base spare held fuel t us=some y) (hw:gV P t y.1):
  ∃(p:Option Addr) (c:Nat) (l:List α),us=[.slice p l.length c]/\(Fact.sli sz R p c l).p (λk=>k<w.heap.size) w/\l.length*P.bytesOf e<=reachBytes/\∀x∈l,q x:=by
 obtain⟨v,l,e1,hs,j9⟩:=IG (R:=λcs x=>R.p (λk=>k<w.heap.size) w cs x/\q x) ht hC hz U h hw;subst e1;obtain⟨p,n,c,xs,e2,hn,hc,hm,ml,gm⟩:=hs;subst hn;subst e2;obtain⟨h1,h2⟩:=hY.pure ml;exact⟨p,c,l,rfl,⟨p,l.length,c,xs,rfl,rfl,hc,hm,h1,gm⟩,j9,h2⟩
theorem NU {n k r m:Nat} (h:n*b<=r)(U:b=k)(hr:r=140737488351232)(hk:0<k)(hm:140737488351232/k=m):n<=m:=by
 subst U;subst hr;subst hm;exact(Nat.le_div_iff_mul_le hk).2 h
theorem oc {ts:List TypeId} {ds:List (DataW H)} (h:(DataW.weightsEach P ts ds).all (·<=reachBytes)=true)(j:Nat) {d:DataW H} (ht:ts[j]? =some t)(U:ds[j]? =some d):gV P t d:=λn hn=>by
 have:=List.all_eq_true.1 h n (DataW.weights_mem_each ht U n hn);simpa using this
theorem KM {s:ByteArray} (h:gV P t (.lit (.string s.data.toList):DataW H)):s.size<=reachBytes:=by
 have:=h s.data.toList.length (by simp[DataW.weights]);simpa using this
theorem Fu {r:Reach} {t:Nat} {v:Value} {k:IntKind} (U:P.underlying t=some (.int k))(h:Value.okWide P w r b t v):v.cells.toList=[v]:=by
 unfold Value.okWide at h;rw[U]at h;unfold Cell.okWide at h;rw[U]at h;unfold Cell.ok at h;rw[U]at h;cases v<;>first|rfl|(simp at h)
end
end
section
open Go Go.RowKit Go.Deep
section
variable {α Λ:Type} (C:α->Option Addr×Nat->List Value) (kids:α->List α) (sz:Nat) (one:∀x r,∀u∈C x r,u.oneCell'=true)
def wQ:Nat->fq α
 |0=>⟨λ_ _ _ _=>False,λ_ _ h=>h,λh=>h.elim⟩
 |n+1=>AK C (λx r=>[.sli sz (wQ n) r.1 r.2 (kids x)]) one
def CE:fq α:=⟨λF w cs x=>∃n,(wQ C kids sz one n).p F w cs x,λU ha ⟨n,h⟩=>⟨n,(wQ C kids sz one n).good U ha h⟩,λ⟨n,h⟩=>(wQ C kids sz one n).one h⟩
end
section
variable {α:Type} {C:α->Option Addr×Nat->List Value} {kids:α->List α} {sz:Nat} {one:∀x r,∀u∈C x r,u.oneCell'=true}
theorem qv:∀{n m:Nat} {F:ep} {w:World} {cs:List Value} {x:α},n<=m->(wQ C kids sz one n).p F w cs x->(wQ C kids sz one m).p F w cs x
 |0,_,_,_,_,_,_,h=>h.elim
 |n+1,0,_,_,_,_,hm,_=>an
 | n +1,m+1,F,w,cs,x,hm,⟨r,h1,h2⟩=>⟨r,h1,λφ U=>by
     simp only[q',List.not_mem_nil,or_false]at U;subst U;exact Hc (R:=wQ C kids sz one n) (h2 _ (n')) (λcs x hr=>qv an hr)⟩
theorem IK:qW (CE C kids sz one) C (λ_ _=>True) (λx r=>[.sli sz (CE C kids sz one) r.1 r.2 (kids x)]):=λF w cs x ⟨n,h⟩=>by
 cases n with
 |zero=>exact h.elim
 | succ n=>
   obtain⟨r,h1,U⟩:=h;exact⟨r,h1,trivial,jm (Hc (R:=wQ C kids sz one n) (U _ (n')) (λcs x hr=>⟨n,hr⟩)) QF⟩
theorem tS {F:ep} {w:World}:∀{l:List α} {U:List Value},hY sz ((CE C kids sz one).p F w) U l->∃n,hY sz ((wQ C kids sz one n).p F w) U l
 |[],U,h=>⟨0,h⟩
 | x::l,U,⟨cs,rest,e1,e2,⟨n,e3⟩,e4⟩=>by
   obtain⟨m,hm⟩:=tS e4;exact⟨max n m,cs,rest,e1,e2,qv (Nat.le_max_left _ _) e3,hm.mono λcs x _ hr=>qv (Nat.le_max_right _ _) hr⟩
theorem oO {F:ep} {w:World} {x:α} {cs:List Value} (r:Option Addr×Nat)(sQ:cs=C x r)(h:∀φ∈([.sli sz (CE C kids sz one) r.1 r.2 (kids x)]:List Fact),φ.p F w):(CE C kids sz one).p F w cs x:=by
 obtain⟨p,n,c,xs,hv,hn,hc,hm,U,gm⟩:=(h (.sli sz (CE C kids sz one) r.1 r.2 (kids x)) n':zh F w sz ((CE C kids sz one).p F w) (.slice r.1 (kids x).length r.2) (kids x))
 obtain⟨m,U⟩:=tS U;exact⟨m+1,r,sQ,jm (⟨p,n,c,xs,hv,hn,hc,hm,U,gm⟩:zh F w sz ((wQ C kids sz one m).p F w) (.slice r.1 (kids x).length r.2) (kids x)) QF⟩
end
section
variable {H:Type} {enc:TypeId×Value->H} {P:Program} {w:World} {base:Nat} {spare:Nat->Bool} {held:Bool} {fuel:Nat} {cs:List Value} {y:DataW H×List MemPlace}
theorem Aq {t:TypeId} {fs:Array Field} (ht:P.underlying t=some (.struct fs))(h:DataW.trod enc P w base spare held fuel t cs=some y)(hw:gV P t y.1):
  ∃n,fuel=n+1/\cs.length=P.cellsOf t/\∀(i:Nat) (f:Field),fs[i]? =some f->∃z,DataW.trod enc P w base spare held n f.type ((cs.drop f.offset).take (P.cellsOf f.type))=some z/\gV P f.type z.1:=by
 obtain⟨xs,n,hn,rfl,hl,hlen,hf⟩:=DataW.trod_struct ht h;refine⟨n,hn,hl,λi f hi=>?_⟩;have U:i<xs.length:=by rw[hlen];exact(t'.1 hi).1
 refine⟨xs[i],by have:=hf i f hi;simpa[a' U]using this,λk hk=>hw k ?_⟩;simp only[DataW.weights,ht];refine DataW.weights_mem_each (j:=i) (t:=f.type) (d:=xs[i].1) ?_ ?_ k hk;· rw[s',f',hi];rfl
 · rw[s',a' U];rfl
theorem IF {α:Type} {t e sz:Nat} {R:List Value->α->Prop} (ht:P.underlying t=some (.slice e))(hC:P.cellsOf e=sz)(hz:0<sz)
  (PN:∀n,n<fuel->∀cs y,DataW.trod enc P w base spare held n e cs=some y->gV P e y.1->∃a,R cs a) (h:DataW.trod enc P w base spare held fuel t cs=some y) (hw:gV P t y.1):
  ∃v l,cs=[v]/\zh (λk=>k<w.heap.size) w sz R v l/\l.length*P.bytesOf e<=reachBytes:=by
 rcases DataW.trod_slice ht h with⟨rfl,_⟩|⟨a,len,cap,elems,rest,n,hfu,rfl,rfl,hb,hl,hm,hlen,hi,_,_⟩
 · exact⟨_,[],rfl,zh.nil,ax⟩
 ·subst hC
  have hD:∀d∈elems,gV P e d.1:=λd hd k hk=>hw k (by
   simp only[DataW.weights,ht,q',o'];exact .inr (.inl (Q9W (d:=d.1) (O'.2 ⟨d,hd,rfl⟩) hk)))
  have j9:len*P.bytesOf e<=reachBytes:=by
   have:=hw _ (by simp only[DataW.weights,ht];exact n');simp only[E']at this;exact D' (j' _ an) this
  have key:∀k,k<=len->∃xs l,l.length=k/\hY (P.cellsOf e) R xs l/\∀j u,xs[j]? =some u->w.cell? (a.add j)=some u:=by
   intro k;induction k with
   |zero=>intro _;exact⟨[],[],rfl,rfl,ax⟩
   | succ k ih=>
     intro hk;obtain⟨xs,l,wv,hx,hc⟩:=ih an;have hki:=hi k an;rw[a' (by omega:k<elems.length)]at hki;obtain⟨vS,h1,U⟩:=Option.bind_eq_some_iff.1 hki;obtain⟨_,SZ,zD⟩:=World.cells?_some h1;obtain⟨y,hy⟩:=PN n an _ _ U (hD _ (b' _));refine⟨xs++vS,l++[y],by simp[wv],hx.append (hY.one hy SZ),λj u hj=>?_⟩;have Tf:=hx.length;rw[wv]at Tf;by_cases GK:j<xs.length;· rw[B' GK]at hj;exact hc j u hj
     ·rw[y' an]at hj;have h3:=(i'.1 hj).1;have:=zD (j-xs.length) an
      rw[hj,Go.Deep.add_add]at this;rw[<-this];congr 2;omega
  obtain⟨xs,l,wv,hx,hc⟩:=key len (I' _);refine⟨_,l,rfl,⟨some a,len,cap,xs,rfl,wv.symm,hl,hm,hx,λh0=>?_⟩,by rw[wv];exact j9⟩;have h1:0<xs.length:=by rw[hx.length,wv];exact W' h0 hz
  have U:=hc 0 _ (a' h1);have h3:a.add 0=a:=rfl;rw[h3]at U
  have hsp:a=⟨a.block,a.off,none⟩:=by
   rcases a with⟨b,o,s⟩;cases s with
   |none=>rfl
   | some s=>
     exfalso;simp only[World.cell?]at U;split at U<;>simp at U
  have bp:=World.block_lt_of_cell? w a U;refine⟨a.block,a.off,by rw[<-hsp],bp,λj u hj=>?_⟩;have:=hc j u hj;rw[hsp,DC]at this;exact this
theorem Fw {α:Type} {t e sz:Nat} {R:fq α} {q:α->Prop} (ht:P.underlying t=some (.slice e))(hC:P.cellsOf e=sz)(hz:0<sz)
  (U:∀n,n<fuel->∀cs y,DataW.trod enc P w base spare held n e cs=some y->gV P e y.1->∃a,R.p (λk=>k<w.heap.size) w cs a/\q a) {us:List Value} (h:DataW.trod enc P w base spare held fuel t us=some y) (hw:gV P t y.1):
  ∃(p:Option Addr) (c:Nat) (l:List α),us=[.slice p l.length c]/\(Fact.sli sz R p c l).p (λk=>k<w.heap.size) w/\l.length*P.bytesOf e<=reachBytes/\∀x∈l,q x:=by
 obtain⟨v,l,e1,hs,j9⟩:=IF (R:=λcs x=>R.p (λk=>k<w.heap.size) w cs x/\q x) ht hC hz U h hw;subst e1;obtain⟨p,n,c,xs,e2,hn,hc,hm,ml,gm⟩:=hs;subst hn;subst e2;obtain⟨h1,h2⟩:=hY.pure ml;exact⟨p,c,l,rfl,⟨p,l.length,c,xs,rfl,rfl,hc,hm,h1,gm⟩,j9,h2⟩
end
end
section
open Go.RowKit
abbrev MK (k z:Int):Int:=IntKind.wrap .i64 ((IntKind.wrap .i64 (1000003*(IntKind.wrap .i64 (k+7))))+z)
abbrev WI (x:Int):Prop:=-9223372036854775808<=x/\x<=9223372036854775807
abbrev WN (x:Nat):Prop:=x<=9223372036854775807
structure Qa where
 name:ByteArray
 fields:Int
def Qc9 (x:Qa)(_:Unit):List Value:=[.string x.name,.int .i64 x.fields]
def qT (_:Qa)(_:Unit):List Fact:=[]
def Qd:fq Qa:=AK Qc9 qT (by intro x r u hu;simp[Qc9]at hu;rcases hu with rfl|rfl<;>rfl)
theorem Q6m:qW Qd Qc9 (λ_ _=>True) qT:=HD
def YU (x:V)(_:Unit):List Value:=[.int .u8 x.k,.int .i64 x.n,.string x.s]
def F_V (_:V)(_:Unit):List Fact:=[]
def dw:fq V:=AK YU F_V (by intro x r u hu;simp[YU]at hu;rcases hu with rfl|rfl|rfl<;>rfl)
theorem NV:qW dw YU (λ_ _=>True) F_V:=HD
def yL (x:Qo)(r:Option Addr×Nat):List Value:=[.int .i64 x.id,.int .i64 x.ty,.slice r.1 x.args.length r.2]
def Ga (x:Qo)(r:Option Addr×Nat):List Fact:=[.sli 3 dw r.1 r.2 x.args]
def QL:fq Qo:=AK yL Ga (by intro x r u hu;simp[yL]at hu;rcases hu with rfl|rfl|rfl<;>rfl)
theorem Dx:qW QL yL (λ_ _=>True) Ga:=HD
def E1 (x:Bool)(_:Unit):List Value:=[.bool x]
def JN (_:Bool)(_:Unit):List Fact:=[]
def Qg:fq Bool:=AK E1 JN (by intro x r u hu;simp[E1]at hu;subst hu;rfl)
theorem NS:qW Qg E1 (λ_ _=>True) JN:=HD
structure Q4 where
 kind:Int
 value:V
 var:Int
 op:Int
 kids:List Q4
structure Qv where
 kind:Int
 type:Int
 args:List gS
 test:Q4
def E0 (x:gS)(_:Unit):List Value:=[.int .u8 x.k,.int .i64 x.var,.int .u8 x.v.k,.int .i64 x.v.n,.string x.v.s]
def JM (_:gS)(_:Unit):List Fact:=[]
def jt:fq gS:=AK E0 JM (by intro x r u hu;simp[E0]at hu;rcases hu with rfl|rfl|rfl|rfl|rfl<;>rfl)
theorem ZO:qW jt E0 (λ_ _=>True) JM:=HD
def Qak (x:Q4)(r:Option Addr×Nat):List Value:=[.int .u8 x.kind,.int .u8 x.value.k,.int .i64 x.value.n,.string x.value.s,.int .i64 x.var,.int .u8 x.op,.slice r.1 x.kids.length r.2]
def Qj:fq Q4:=CE Qak (λx=>x.kids) 7 (by intro x r u hu;simp[Qak]at hu;rcases hu with rfl|rfl|rfl|rfl|rfl|rfl|rfl<;>rfl)
def AZ (x:Q4)(r:Option Addr×Nat):List Fact:=[.sli 7 Qj r.1 r.2 x.kids]
theorem S8:qW Qj Qak (λ_ _=>True) AZ:=IK
def Qc7 (x:Qv)(r:(Option Addr×Nat)×(Option Addr×Nat)):List Value:=[.int .u8 x.kind,.int .i64 x.type,.slice r.1.1 x.args.length r.1.2,.int .u8 x.test.kind,.int .u8 x.test.value.k,.int .i64 x.test.value.n,.string x.test.value.s,.int .i64 x.test.var,.int .u8 x.test.op,.slice r.2.1 x.test.kids.length r.2.2]
def qR (x:Qv)(r:(Option Addr×Nat)×(Option Addr×Nat)):List Fact:=[.sli 5 jt r.1.1 r.1.2 x.args,.sli 7 Qj r.2.1 r.2.2 x.test.kids]
def yU:fq Qv:=AK Qc7 qR (by intro x r u hu;simp[Qc7]at hu;rcases hu with rfl|rfl|rfl|rfl|rfl|rfl|rfl|rfl|rfl|rfl<;>rfl)
theorem Q6k:qW yU Qc7 (λ_ _=>True) qR:=HD
structure vZ where
 kind:Int
 type:Int
 which:Int
 exprs:List Q4
structure Q9 where
 name:ByteArray
 salience:Int
 vars:Int
 conds:List Qv
 acts:List vZ
def mB (x:vZ)(r:Option Addr×Nat):List Value:=[.int .u8 x.kind,.int .i64 x.type,.int .i64 x.which,.slice r.1 x.exprs.length r.2]
def tq (x:vZ)(r:Option Addr×Nat):List Fact:=[.sli 7 Qj r.1 r.2 x.exprs]
def vL:fq vZ:=AK mB tq (by intro x r u hu;simp[mB]at hu;rcases hu with rfl|rfl|rfl|rfl<;>rfl)
theorem QaP:qW vL mB (λ_ _=>True) tq:=HD
def Qc8 (x:Q9)(r:(Option Addr×Nat)×(Option Addr×Nat)):List Value:=[.string x.name,.int .i64 x.salience,.int .i64 x.vars,.slice r.1.1 x.conds.length r.1.2,.slice r.2.1 x.acts.length r.2.2]
def qS (x:Q9)(r:(Option Addr×Nat)×(Option Addr×Nat)):List Fact:=[.sli 10 yU r.1.1 r.1.2 x.conds,.sli 4 vL r.2.1 r.2.2 x.acts]
def Qe:fq Q9:=AK Qc8 qS (by intro x r u hu;simp[Qc8]at hu;rcases hu with rfl|rfl|rfl|rfl|rfl<;>rfl)
theorem Q6l:qW Qe Qc8 (λ_ _=>True) qS:=HD
structure Qy where
 rule:Int
 ids:List Int
def Ei (x:Int)(_:Unit):List Value:=[.int .i64 x]
def S3 (_:Int)(_:Unit):List Fact:=[]
def jv:fq Int:=AK Ei S3 (by intro x r u hu;simp[Ei]at hu;subst hu;rfl)
theorem Ya:qW jv Ei (λ_ _=>True) S3:=HD
def ZN (x:Qy)(r:Option Addr×Nat):List Value:=[.int .i64 x.rule,.slice r.1 x.ids.length r.2]
def nL (x:Qy)(r:Option Addr×Nat):List Fact:=[.sli 1 jv r.1 r.2 x.ids]
def QY:fq Qy:=AK ZN nL (by intro x r u hu;simp[ZN]at hu;rcases hu with rfl|rfl<;>rfl)
theorem Zm:qW QY ZN (λ_ _=>True) nL:=HD
def yR (x:Qy)(r:Option Addr×Nat):List Fact:=[.own 3 1 jv (.slice r.1 x.ids.length r.2) x.ids]
def DA:HV Qy (Option Addr×Nat):=⟨ZN,yR,by intro x r u hu;simp[ZN]at hu;rcases hu with rfl|rfl<;>rfl⟩
theorem nS:∀x r N F w,nR (DA.G x r) N F w->QY.p (λq=>N q\/F q) w (DA.C x r) x:=by
 rintro x r N F w ⟨A0,B0,a0,b0,h0,_⟩;exact⟨r,rfl,jm (WS h0 (λq U=>.inl (a0 q U)) (λ_ U=>.inr U)) (QF)⟩
structure QS where
 drop:Bool
 fact:Qo
def Q6c (x:QS)(r:Option Addr×Nat):List Value:=[.bool x.drop,.int .i64 x.fact.id,.int .i64 x.fact.ty,.slice r.1 x.fact.args.length r.2]
def Q8w (x:QS)(r:Option Addr×Nat):List Fact:=[.sli 3 dw r.1 r.2 x.fact.args]
def Oz:fq QS:=AK Q6c Q8w (by intro x r u hu;simp[Q6c]at hu;rcases hu with rfl|rfl|rfl|rfl<;>rfl)
theorem Q4s:qW Oz Q6c (λ_ _=>True) Q8w:=HD
structure Sm where
 types:List Qa
 rules:List Q9
def Qbh (x:Sm)(r:(Option Addr×Nat)×(Option Addr×Nat)):List Value:=[.slice r.1.1 x.types.length r.1.2,.slice r.2.1 x.rules.length r.2.2]
def yN (x:Sm)(r:(Option Addr×Nat)×(Option Addr×Nat)):List Fact:=[.sli 2 Qd r.1.1 r.1.2 x.types,.sli 5 Qe r.2.1 r.2.2 x.rules]
def zf:fq Sm:=AK Qbh yN (by intro x r u hu;simp[Qbh]at hu;rcases hu with rfl|rfl<;>rfl)
def AU (x:ByteArray)(_:Unit):List Value:=[.string x]
def YW (_:ByteArray)(_:Unit):List Fact:=[]
def a00:fq ByteArray:=AK AU YW (by intro x r u hu;simp[AU]at hu;subst hu;rfl)
def AV (x:Int)(_:Unit):List Value:=[.int .u8 x]
def a1Z (_:Int)(_:Unit):List Fact:=[]
def HU:fq Int:=AK AV a1Z (by intro x r u hu;simp[AV]at hu;subst hu;rfl)
def Qbp (x:Qa):Prop:=x.name.size<=140737488351232/\lA .i64 x.fields
def wJ (x:V):Prop:=lA .u8 x.k/\lA .i64 x.n/\x.s.size<=140737488351232
def zU (x:gS):Prop:=lA .u8 x.k/\lA .i64 x.var/\wJ x.v
inductive cj:Q4->Prop
 |mk (x:Q4) (h0:lA .u8 x.kind) (h1:wJ x.value) (h2:lA .i64 x.var) (h3:lA .u8 x.op) (h4:x.kids.length<=1759218604390) (g4:∀y∈x.kids,cj y):cj x
def Q9B (x:Qv):Prop:=lA .u8 x.kind/\lA .i64 x.type/\(x.args.length<=2932031007317/\∀y∈x.args,zU y)/\cj x.test
def Qcm (x:vZ):Prop:=lA .u8 x.kind/\lA .i64 x.type/\lA .i64 x.which/\(x.exprs.length<=1759218604390/\∀y∈x.exprs,cj y)
def TX (x:Q9):Prop:=x.name.size<=140737488351232/\lA .i64 x.salience/\lA .i64 x.vars/\(x.conds.length<=1172812402926/\∀y∈x.conds,Q9B y)/\(x.acts.length<=2932031007317/\∀y∈x.acts,Qcm y)
def Q8W (x:Sm):Prop:=(x.types.length<=5864062014634/\∀y∈x.types,Qbp y)/\(x.rules.length<=1759218604390/\∀y∈x.rules,TX y)
def Jj (x:Qo):Prop:=lA .i64 x.id/\lA .i64 x.ty/\(x.args.length<=4398046510976/\∀y∈x.args,wJ y)
end
section
open Go.RowKit
def Q8F (_:Nat)(h:ByteArray):Option (Bool):=if(!(h.toList==(⟨#[]⟩:ByteArray).toList))=true then(if(decide (h.size<=24))=true then(Qf (h[0]?) λs=>if(decide ((Lib.indexByte (⟨#[97,98,99,100,101,102,103,104,105,106,107,108,109,110,111,112,113,114,115,116,117,118,119,120,121,122]⟩:ByteArray).data.toList ((s.toNat:Int)).toNat.toUInt8)>=0))=true then(gd (WN h.size)<|some ((⟨(Lib.trimS h.data.toList (⟨#[97,98,99,100,101,102,103,104,105,106,107,108,109,110,111,112,113,114,115,116,117,118,119,120,121,122,48,49,50,51,52,53,54,55,56,57,95]⟩:ByteArray).data.toList).toArray⟩:ByteArray).toList==(⟨#[]⟩:ByteArray).toList))else(some false))else(some false))else(some false)
def ZR (N:Nat)(s:ByteArray):Option (Bool):=Qf (Q8F N s) λh=>some h
def AB (N:Nat)(s:Int)(U:Int)(z:ByteArray):Option (Bool):=if(s==1)=true then(some (z.toList==(⟨#[]⟩:ByteArray).toList))else(if(s==2)=true then(if(U==0)=true then(Qf (ZR N z) λh=>some h)else(some false))else(some false))
def Y6 (N:Nat)(h:ByteArray):Option (Bool):=Qf (AB N 2 0 h) λs=>some s
def Q56 (_:Nat)(_:ByteArray)(_:Int)(_:ByteArray):Option (Unit):=some ()
def Zb (N:Nat)(z:List Qa)(U:ByteArray):Nat->Option (Nat⊕(Unit⊕Int)):=λh=>if(decide (h<z.length))=true then(Qf (z[h]?) λs=>Qf (Q56 N s.name s.fields U) λ_=>if(s.name.toList==U.toList)=true then(some (.inr (.inr (h:Int))))else(gd (WN (h+1))<|some (.inl (h+1))))else(some (.inr (.inl ())))
def Q4e (N:Nat)(h:List Qa)(s:ByteArray):Option (Int):=jw (fz (Zb N h s) N 0) λ_=>some (-1)
def Zn (N:Nat)(s:List Qa)(_:List Q9)(_:Int)(_:Int)(z:ByteArray):Option (Int):=Qf (Q4e N s z) λh=>some h
def Q57 (_:Nat)(_:ByteArray)(_:Int)(_:Int)(_:List Qv)(_:List vZ)(_:ByteArray):Option (Unit):=some ()
def Za (N:Nat)(z:List Q9)(U:ByteArray):Nat->Option (Nat⊕(Unit⊕Int)):=λh=>if(decide (h<z.length))=true then(Qf (z[h]?) λs=>Qf (Q57 N s.name s.salience s.vars s.conds s.acts U) λ_=>if(s.name.toList==U.toList)=true then(some (.inr (.inr (h:Int))))else(gd (WN (h+1))<|some (.inl (h+1))))else(some (.inr (.inl ())))
def Q4d (N:Nat)(h:List Q9)(s:ByteArray):Option (Int):=jw (fz (Za N h s) N 0) λ_=>some (-1)
def Zp (N:Nat)(_:List Qa)(s:List Q9)(_:Int)(_:Int)(z:ByteArray):Option (Int):=Qf (Q4d N s z) λh=>some h
def XT (_:Nat)(z:List Qa)(_:List Q9)(_:Int)(_:Int)(h:Int)(a5:Int):Option (Bool):=if(decide (h>=0))=true then(if(decide (h<(z.length:Int)))=true then(gd (0<=h)<|Qf (z[h.toNat]?) λs=>some (s.fields==a5))else(some false))else(some false)
def Q8D (_:Nat)(a7:Bool)(U:Bool)(h:Bool)(s:Int)(z:List Q4)(a4:Int)(a1:Int)(a2:Int)(a3:ByteArray):Option (Bool):=if a7=true then(if U=true then(if h=true then(some true)else(if(s==0)=true then(some (z.length==0))else(some false)))else(if(a4==0)=true then(if h=true then(some true)else(if(s==0)=true then(some (z.length==0))else(some false)))else(some false)))else(if(decide ((⟨a1,a2,a3⟩:V)=(⟨0,0,(⟨#[]⟩:ByteArray)⟩:V)))=true then(if U=true then(if h=true then(some true)else(if(s==0)=true then(some (z.length==0))else(some false)))else(if(a4==0)=true then(if h=true then(some true)else(if(s==0)=true then(some (z.length==0))else(some false)))else(some false)))else(some false))
def Se (N:Nat)(_:Int)(s:Int)(z:Int)(a3:ByteArray)(a4:Int)(a5:Int)(l6:List Q4)(U:Bool)(a8:Bool)(a9:Bool):Option (Bool):=Qf (Q8D N U a8 a9 a5 l6 a4 s z a3) λh=>some h
def ZD (N:Nat)(_:List Qa)(_:List Q9)(h:Int)(_:Int)(z:Int)(s:Int)(U:Int)(a7:Int)(a8:ByteArray)(a9:Bool):Option (Bool×Int):=if(z==1)=true then(if(s==0)=true then(some ((decide ((⟨U,a7,a8⟩:V)=(⟨0,0,(⟨#[]⟩:ByteArray)⟩:V))),h))else(some (false,h)))else(if(z==2)=true then(gd (WI (h+1))<|if a9=true then(gd (WI ((h+1)-1))<|if(s==((h+1)-1))=true then(some ((decide ((⟨U,a7,a8⟩:V)=(⟨0,0,(⟨#[]⟩:ByteArray)⟩:V))),h+1))else(some (false,h+1)))else(some (false,h+1)))else(if(z==3)=true then(if(decide (s>=0))=true then(if(decide (s<h))=true then(some ((decide ((⟨U,a7,a8⟩:V)=(⟨0,0,(⟨#[]⟩:ByteArray)⟩:V))),h))else(some (false,h)))else(some (false,h)))else(if(z==4)=true then(if(s==0)=true then(Qf (AB N U a7 a8) λaB=>some (aB,h))else(some (false,h)))else(some (false,h)))))
def Q45 (_:Nat)(rc:(List Qa)->(List Q9)->Int->Int->Int->Int->Int->ByteArray->Int->Int->(List Q4)->Option (Bool))(s:Int)(z:Int)(a2:Int)(a3:ByteArray)(a4:Int)(a5:Int)(U:List Q4)(l7:List Qa)(l8:List Q9)(a9:Int)(h:Int):Option (Bool):=Qf (rc l7 l8 a9 h s z a2 a3 a4 a5 U) λv6=>some (!v6)
def Z7 (N:Nat)(U:List Q4)(rc:(List Qa)->(List Q9)->Int->Int->Int->Int->Int->ByteArray->Int->Int->(List Q4)->Option (Bool))(l1:List Qa)(l2:List Q9)(a3:Int)(a4:Int):Nat->Option (Nat⊕(Unit⊕Int)):=λh=>if(decide (h<U.length))=true then(Qf (U[h]?) λz=>Qf (Q45 N rc z.kind z.value.k z.value.n z.value.s z.var z.op z.kids l1 l2 a3 a4) λa0=>if a0=true then(some (.inr (.inr (h:Int))))else(gd (WN (h+1))<|some (.inl (h+1))))else(some (.inr (.inl ())))
def Q3p (N:Nat)(rc:(List Qa)->(List Q9)->Int->Int->Int->Int->Int->ByteArray->Int->Int->(List Q4)->Option (Bool))(h:List Q4)(s:List Qa)(l2:List Q9)(z:Int)(a4:Int):Option (Int):=jw (fz (Z7 N h rc s l2 z a4) N 0) λ_=>some (-1)
def Q2M (N:Nat)(rc:(List Qa)->(List Q9)->Int->Int->Int->Int->Int->ByteArray->Int->Int->(List Q4)->Option (Bool))(h:List Q4)(s:List Qa)(l2:List Q9)(z:Int)(a4:Int):Option (Bool):=Qf (Q3p N rc h s l2 z a4) λU=>some (decide (U>=0))
def Zc (N:Nat)(rc:(List Qa)->(List Q9)->Int->Int->Int->Int->Int->ByteArray->Int->Int->(List Q4)->Option (Bool))(h:List Qa)(s:List Q9)(z:Int)(a3:Int)(U:List Q4):Option (Bool):=Qf (Q2M N rc U h s z a3) λv7=>some (!v7)
def Q5a (_:Nat)(s:Int):Option (Nat):=Qf (if(s==4)=true then(some true)else(some (s==11))) λh=>if h=true then(some 1)else(some 2)
def Q6t (N:Nat)(a4:Int)(a5:Int)(a6:Int)(a7:ByteArray)(a8:Int)(z:Int)(h:List Q4)(s:Nat)(rc:(List Qa)->(List Q9)->Int->Int->Int->Int->Int->ByteArray->Int->Int->(List Q4)->Option (Bool))(l0:List Qa)(l1:List Q9)(a2:Int)(a3:Int):Option (Bool):=Qf (Se N a4 a5 a6 a7 a8 z h false false true) λa0=>if a0=true then(if(decide (z>=1))=true then(if(decide (z<=11))=true then(if(h.length==s)=true then(Qf (Zc N rc l0 l1 a2 a3 h) λU=>some U)else(some false))else(some false))else(some false))else(some false)
def Zx (N:Nat)(rc:(List Qa)->(List Q9)->Int->Int->Int->Int->Int->ByteArray->Int->Int->(List Q4)->Option (Bool))(l0:List Qa)(l1:List Q9)(a2:Int)(a3:Int)(a4:Int)(a5:Int)(a6:Int)(a7:ByteArray)(U:Int)(a9:Int)(h:List Q4):Option (Bool):=if(a4==1)=true then(Qf (Se N a4 a5 a6 a7 U a9 h true false false) λaE=>if aE=true then(Qf (AB N a5 a6 a7) λaF=>some aF)else(some false))else(if(a4==2)=true then(Qf (Se N a4 a5 a6 a7 U a9 h false true false) λaG=>if aG=true then(if(decide (U>=0))=true then(some (decide (U<a2)))else(some false))else(some false))else(if(a4==3)=true then(Qf (Q5a N a9) λs=>Qf (Q6t N a4 a5 a6 a7 U a9 h s rc l0 l1 a2 a3) λz=>some z)else(some false)))
def S9:Nat->(List Qa)->(List Q9)->Int->Int->Int->Int->Int->ByteArray->Int->Int->(List Q4)->Option (Bool)
 |0=>λ_=>λ_=>λ_=>λ_=>λ_=>λ_=>λ_=>λ_=>λ_=>λ_=>λ_=>none
 |N+1=>Zx N (S9 N)
def Q59 (N:Nat)(l0:List Qa)(l1:List Q9)(a2:Int)(a3:Int)(a5:Int)(l6:List gS)(U:Int)(a8:Int)(a9:Int)(h:ByteArray)(s:Int)(z:Int)(a0:List Q4):Option (Bool):=Qf (XT N l0 l1 a2 a3 a5 (l6.length:Int)) λa1=>if(!a1)=true then(some true)else(if(U !=0)=true then(some true)else(Qf (Se N U a8 a9 h s z a0 false false false) λa4=>some (!a4)))
def TM (N:Nat)(l6:List gS)(l0:List Qa)(l1:List Q9)(a3:Int)(a4:Int):(Nat×Int)->Option ((Nat×Int)⊕(Int⊕(Bool×Int×Int))):=λ(h,z)=>if(decide (h<l6.length))=true then(Qf (l6[h]?) λa0=>Qf (ZD N l0 l1 z a3 a0.k a0.var a0.v.k a0.v.n a0.v.s (a4==1)) λ(a2,U)=>if(!a2)=true then(some (.inr (.inr (false,U,a3))))else(gd (WN (h+1))<|some (.inl (h+1,U))))else(some (.inr (.inl z)))
def Zz (N:Nat)(U:List Qa)(l1:List Q9)(a2:Int)(z:Int)(a4:Int)(a5:Int)(l6:List gS)(a7:Int)(a8:Int)(a9:Int)(aB:ByteArray)(aC:Int)(aD:Int)(aE:List Q4):Option (Bool×Int×Int):=Qf (if(a4==1)=true then(some (a4==1))else(some (a4==2))) λa6=>if a6=true then(Qf (Q59 N U l1 a2 z a5 l6 a7 a8 a9 aB aC aD aE) λa0=>if a0=true then(some (false,a2,z))else(jw (fz (TM N l6 U l1 z a4) N (0,a2)) λs=>Qf (if(a4==1)=true then(gd (WI (z+1))<|some (z+1))else(some z)) λh=>some (true,s,h)))else(if(a4==3)=true then(if(a5==0)=true then(if(l6.length==0)=true then(Qf (S9 N U l1 a2 z a7 a8 a9 aB aC aD aE) λaI=>some (aI,a2,z))else(some (false,a2,z)))else(some (false,a2,z)))else(some (false,a2,z)))
def Q5b (N:Nat)(s:Int)(z:Int)(a2:Int)(a3:ByteArray)(a4:Int)(a5:Int)(U:List Q4)(l7:List Qa)(l8:List Q9)(a9:Int)(h:Int):Option (Bool):=Qf (S9 N l7 l8 a9 h s z a2 a3 a4 a5 U) λv6=>some (!v6)
def Z9 (N:Nat)(U:List Q4)(l1:List Qa)(l2:List Q9)(a3:Int)(a4:Int):Nat->Option (Nat⊕(Unit⊕Int)):=λh=>if(decide (h<U.length))=true then(Qf (U[h]?) λz=>Qf (Q5b N z.kind z.value.k z.value.n z.value.s z.var z.op z.kids l1 l2 a3 a4) λa0=>if a0=true then(some (.inr (.inr (h:Int))))else(gd (WN (h+1))<|some (.inl (h+1))))else(some (.inr (.inl ())))
def Q4c (N:Nat)(h:List Q4)(s:List Qa)(l2:List Q9)(z:Int)(a4:Int):Option (Int):=jw (fz (Z9 N h s l2 z a4) N 0) λ_=>some (-1)
def Q3o (N:Nat)(h:List Q4)(s:List Qa)(l2:List Q9)(z:Int)(a4:Int):Option (Bool):=Qf (Q4c N h s l2 z a4) λU=>some (decide (U>=0))
def XS (N:Nat)(h:List Qa)(s:List Q9)(z:Int)(a3:Int)(U:List Q4):Option (Bool):=Qf (Q3o N U h s z a3) λv7=>some (!v7)
def Q78 (_:Nat)(s:Int)(z:List Q4)(h:Int)(a3:Int):Option (Bool):=if(s==0)=true then(if(z.length==0)=true then(if(decide (h>=0))=true then(some (decide (h<a3)))else(some false))else(some false))else(some false)
def Q79 (N:Nat)(z:Int)(U:Int)(s:List Q4)(l0:List Qa)(l1:List Q9)(a2:Int)(a3:Int):Option (Bool):=if(z==0)=true then(if(U==0)=true then(if(decide (0<s.length))=true then(Qf (XS N l0 l1 a2 a3 s) λh=>some h)else(some false))else(some false))else(some false)
def Q7a (_:Nat)(h:Int)(s:Int)(z:Int)(U:List Q4):Option (Bool):=if(h==4)=true then(if(s==0)=true then(if(z==0)=true then(some (U.length==0))else(some false))else(some false))else(some false)
def ZC (N:Nat)(l0:List Qa)(l1:List Q9)(a2:Int)(a3:Int)(a4:Int)(a5:Int)(a6:Int)(U:List Q4):Option (Bool):=if(a4==1)=true then(if(a6==0)=true then(Qf (XT N l0 l1 a2 a3 a5 (U.length:Int)) λaD=>if aD=true then(Qf (XS N l0 l1 a2 a3 U) λaE=>some aE)else(some false))else(some false))else(if(a4==2)=true then(Qf (Q78 N a5 U a6 a3) λh=>some h)else(if(a4==3)=true then(Qf (Q79 N a5 a6 U l0 l1 a2 a3) λs=>some s)else(Qf (Q7a N a4 a5 a6 U) λz=>some z)))
def Q5c (N:Nat)(h:Int)(s:Int)(z:Int)(l3:List Q4)(l4:List Qa)(l5:List Q9)(U:Int)(a7:Int):Option (Bool):=Qf (ZC N l4 l5 U a7 h s z l3) λv6=>some (!v6)
def Z5 (N:Nat)(U:List vZ)(l1:List Qa)(l2:List Q9)(a3:Int)(a4:Int):Nat->Option (Nat⊕(Unit⊕Int)):=λh=>if(decide (h<U.length))=true then(Qf (U[h]?) λs=>Qf (Q5c N s.kind s.type s.which s.exprs l1 l2 a3 a4) λz=>if z=true then(some (.inr (.inr (h:Int))))else(gd (WN (h+1))<|some (.inl (h+1))))else(some (.inr (.inl ())))
def Q4v (N:Nat)(h:List vZ)(s:List Qa)(l2:List Q9)(z:Int)(a4:Int):Option (Int):=jw (fz (Z5 N h s l2 z a4) N 0) λ_=>some (-1)
def Q3z (N:Nat)(h:List vZ)(s:List Qa)(l2:List Q9)(z:Int)(a4:Int):Option (Bool):=Qf (Q4v N h s l2 z a4) λU=>some (decide (U>=0))
def Q4V (N:Nat)(z:ByteArray)(s:Int)(U:List Qv)(l8:List vZ):Option (Bool):=Qf (Y6 N z) λh=>if(!h)=true then(some true)else(if(decide (s< -1000))=true then(some true)else(if(decide (s>1000))=true then(some true)else(if(decide (8<U.length))=true then(some true)else(some (decide (8<l8.length))))))
def TJ (N:Nat)(l7:List Qv)(l0:List Qa)(l1:List Q9):(Nat×Int×Int)->Option ((Nat×Int×Int)⊕((Int×Int)⊕(Bool×Int×Int))):=λ(U,h,z)=>if(decide (U<l7.length))=true then(Qf (l7[U]?) λa0=>Qf (Zz N l0 l1 h z a0.kind a0.type a0.args a0.test.kind a0.test.value.k a0.test.value.n a0.test.value.s a0.test.var a0.test.op a0.test.kids) λ(a4,a2,a3)=>if(!a4)=true then(some (.inr (.inr (false,a2,a3))))else(gd (WN (U+1))<|some (.inl (U+1,a2,a3))))else(some (.inr (.inl (h,z))))
def Zr (N:Nat)(U:List Qa)(l1:List Q9)(_:Int)(_:Int)(a4:ByteArray)(a5:Int)(a6:Int)(l7:List Qv)(l8:List vZ):Option (Bool×Int×Int):=Qf (Q4V N a4 a5 l7 l8) λz=>if z=true then(some (false,0,0))else(jw (fz (TJ N l7 U l1) N (0,0,0)) λ(h,s)=>if(a6==h)=true then(if(decide (h<=16))=true then(Qf (Q3z N l8 U l1 h s) λa0=>some (!a0,h,s))else(some (false,h,s)))else(some (false,h,s)))
def Q6N (N:Nat)(h:Qa)(U:List Qa)(l1:List Q9)(s:Nat):Option (Bool):=Qf (Y6 N h.name) λz=>if(!z)=true then(some true)else(if(decide (h.fields<0))=true then(some true)else(if(decide (h.fields>6))=true then(some true)else(Qf (Zn N U l1 0 0 h.name) λa0=>some (a0 !=(s:Int)))))
def XZ (N:Nat)(z:List Qa)(U:List Q9):Nat->Option (Nat⊕(Unit⊕Bool)):=λh=>if(decide (h<z.length))=true then(Qf (z[h]?) λa0=>Qf (Q6N N a0 z U h) λs=>if s=true then(some (.inr (.inr false)))else(gd (WN (h+1))<|some (.inl (h+1))))else(some (.inr (.inl ())))
def Y0 (N:Nat)(U:List Q9)(l0:List Qa):(Nat×Int×Int)->Option ((Nat×Int×Int)⊕(Unit⊕Bool)):=λ(h,s,z)=>if(decide (h<U.length))=true then(Qf (U[h]?) λa0=>Qf (Qf (Zp N l0 U s z a0.name) λa8=>if(a8 !=(h:Int))=true then(some (s,z,true))else(Qf (Zr N l0 U s z a0.name a0.salience a0.vars a0.conds a0.acts) λ(a4,a5,a6)=>some (a5,a6,!a4))) λ(a1,a2,a3)=>if a3=true then(some (.inr (.inr false)))else(gd (WN (h+1))<|some (.inl (h+1,a1,a2))))else(some (.inr (.inl ())))
def Si (N:Nat)(s:List Qa)(z:List Q9):Option (Bool):=Qf (if(decide (32<s.length))=true then(some true)else(some (decide (64<z.length)))) λh=>if h=true then(some false)else(jw (fz (XZ N s z) N 0) λ_=>jw (fz (Y0 N z s) N (0,0,0)) λ_=>some true)
def Sg (_:Nat)(h:Int):Option ((List Bool)×(List V)):=Qf (if(decide (h<0))=true then(some true)else(some (decide (h>16)))) λs=>if s=true then(some ([],[]))else(gd (0<=h)<|gd (h.toNat<=140737488355328)<|gd (0<=h)<|gd (h.toNat<=4398046511104)<|some (U' h.toNat false,(U' h.toNat (⟨0,0,(⟨#[]⟩:ByteArray)⟩:V))))
def Yb (N:Nat)(h:Int)(s:Int)(z:ByteArray):Option (Int×Int×ByteArray×Nat):=Qf (AB N h s z) λv5=>if(!v5)=true then(some (0,0,(⟨#[]⟩:ByteArray),2))else(some (h,s,z,0))
def Q8U (N:Nat)(_:Int)(U:Int)(a2:Int)(a3:ByteArray)(_:Int)(_:Int)(_:List Q4):Option (Int×Int×ByteArray×Nat):=Qf (Yb N U a2 a3) λ(h,s,z,a6)=>some (h,s,z,a6)
def Q8V (N:Nat)(_:Int)(_:Int)(_:Int)(_:ByteArray)(a4:Int)(_:Int)(_:List Q4)(U:List V):Option (Int×Int×ByteArray×Nat):=Qf (if(decide (a4<0))=true then(some true)else(some (decide (a4>=(U.length:Int))))) λh=>if h=true then(some (0,0,(⟨#[]⟩:ByteArray),2))else(gd (0<=a4)<|Qf (U[a4.toNat]?) λz=>Qf (Yb N z.k z.n z.s) λ(a6,a7,a8,a9)=>some (a6,a7,a8,a9))
def ZJ (_:Nat)(_:Int):Option (Unit):=some ()
def TY (N:Nat)(h:Bool):Option (Int):=if h=true then(Qf (ZJ N 1) λ_=>some 1)else(Qf (ZJ N 0) λ_=>some 0)
def Jb (_:Nat)(h:Int):Option (Unit⊕(Unit⊕(Unit⊕(Unit⊕(Unit⊕(Unit⊕(Unit⊕(Unit⊕(Unit⊕Unit))))))))):=if(h==1)=true then(some (.inl ()))else(if(h==2)=true then(some (.inr (.inl ())))else(if(h==3)=true then(some (.inr (.inr (.inl ()))))else(if(h==4)=true then(some (.inr (.inr (.inr (.inl ())))))else(if(h==7)=true then(some (.inr (.inr (.inr (.inr (.inl ()))))))else(if(h==8)=true then(some (.inr (.inr (.inr (.inr (.inr (.inl ())))))))else(if(h==9)=true then(some (.inr (.inr (.inr (.inr (.inr (.inr (.inl ()))))))))else(if(h==10)=true then(some (.inr (.inr (.inr (.inr (.inr (.inr (.inr (.inl ())))))))))else(if(h==11)=true then(some (.inr (.inr (.inr (.inr (.inr (.inr (.inr (.inr (.inl ()))))))))))else(some (.inr (.inr (.inr (.inr (.inr (.inr (.inr (.inr (.inr ()))))))))))))))))))
def Q9S (_:Nat)(_:Int)(_:Int):Option (Unit):=some ()
def Q9T (_:Nat)(_:Int)(_:Int):Option (Unit):=some ()
def TV (_:Nat)(z:Int)(U:Int):Option (Int×Bool):=Qf (if(decide (z<0))=true then(some (IntKind.wrap .u64 (0-(IntKind.wrap .u64 z))))else(some (IntKind.wrap .u64 z))) λh=>Qf (if(decide (U<0))=true then(some (IntKind.wrap .u64 (0-(IntKind.wrap .u64 U))))else(some (IntKind.wrap .u64 U))) λs=>gd (0<=h/\h<18446744073709551616)<|gd (0<=s/\s<18446744073709551616)<|if((decide (z<0)) !=(decide (U<0)))=true then(if(((h.toNat*s.toNat/18446744073709551616:Nat):Int)==0)=true then(some ((IntKind.wrap .i64 (IntKind.wrap .u64 (0-((h.toNat*s.toNat%18446744073709551616:Nat):Int)))),(decide (((h.toNat*s.toNat%18446744073709551616:Nat):Int)<=9223372036854775808))))else(some ((IntKind.wrap .i64 (IntKind.wrap .u64 (0-((h.toNat*s.toNat%18446744073709551616:Nat):Int)))),false)))else(if(((h.toNat*s.toNat/18446744073709551616:Nat):Int)==0)=true then(some ((IntKind.wrap .i64 ((h.toNat*s.toNat%18446744073709551616:Nat):Int)),(decide (((h.toNat*s.toNat%18446744073709551616:Nat):Int)<9223372036854775808))))else(some ((IntKind.wrap .i64 ((h.toNat*s.toNat%18446744073709551616:Nat):Int)),false)))
def Q9U (_:Nat)(_:Int)(_:Int):Option (Unit):=some ()
def Dz (N:Nat)(h:Bool):Option (Int):=Qf (TY N h) λs=>some s
def Q88 (N:Nat)(s:Int)(z:Int):Option (Int):=Qf (Dz N (decide (s<z))) λh=>some h
def Q89 (N:Nat)(s:Int)(z:Int):Option (Int):=Qf (Dz N (decide (s<=z))) λh=>some h
def Q8a (N:Nat)(s:Int)(z:Int):Option (Int):=if(s !=0)=true then(Qf (Dz N (z !=0)) λh=>some h)else(Qf (Dz N false) λh=>some h)
def Q8b (N:Nat)(s:Int)(z:Int):Option (Int):=if(s !=0)=true then(Qf (Dz N true) λh=>some h)else(Qf (Dz N (z !=0)) λh=>some h)
def Q8c (N:Nat)(s:Int)(_:Int):Option (Int):=Qf (Dz N (s==0)) λh=>some h
def Y9 (_:Nat)(s:Int):Option (Nat):=Qf (if(s==4)=true then(some true)else(some (s==11))) λh=>if h=true then(some 1)else(some 2)
def Sh (N:Nat)(l1:List V)(z:Nat)(a0:Bool):Option (Bool⊕((Nat×Bool)⊕(Bool⊕(Nat×Int×Nat)))):=Qf (l1[z]?) λh=>Qf (AB N h.k h.n h.s) λU=>if(!U)=true then(some (.inr (.inr (.inr (0,0,2)))))else(if a0=true then(some (.inl true))else(some (.inl (h.k==2))))
def Dy (N:Nat)(U:List V):(Nat×Bool)->Option ((Nat×Bool)⊕(Bool⊕(Nat×Int×Nat))):=λ(h,s)=>if(decide (h<U.length))=true then(jw (Sh N U h s) λz=>gd (WN (h+1))<|some (.inl (h+1,z)))else(some (.inr (.inl s)))
def QJ (N:Nat)(a0:Int)(h:V)(s:V):Option (Int×Bool):=Qf (Jb N a0) λ
 | .inl _=>(Qf (Q9S N h.n s.n) λ_=>some (IntKind.wrap .i64 (h.n+s.n),(decide ((IntKind.wrap .i64 (h.n+s.n))<h.n))==(decide (s.n<0))))
 | .inr (.inl _)=>(Qf (Q9T N h.n s.n) λ_=>some (IntKind.wrap .i64 (h.n-s.n),(decide ((IntKind.wrap .i64 (h.n-s.n))>h.n))==(decide (s.n<0))))
 | .inr (.inr (.inl _))=>(Qf (TV N h.n s.n) λ(U,a2)=>some (U,a2))
 | .inr (.inr (.inr (.inl _)))=>(Qf (Q9U N h.n s.n) λ_=>some (IntKind.wrap .i64 (0-h.n),h.n !=-9223372036854775808))
 | .inr (.inr (.inr (.inr (.inl _))))=>(Qf (Q88 N h.n s.n) λz=>some (z,true))
 | .inr (.inr (.inr (.inr (.inr (.inl _)))))=>(Qf (Q89 N h.n s.n) λz=>some (z,true))
 | .inr (.inr (.inr (.inr (.inr (.inr (.inl _))))))=>(Qf (Q8a N h.n s.n) λz=>some (z,true))
 | .inr (.inr (.inr (.inr (.inr (.inr (.inr (.inl _)))))))=>(Qf (Q8b N h.n s.n) λz=>some (z,true))
 | .inr (.inr (.inr (.inr (.inr (.inr (.inr (.inr (.inl _))))))))=>(Qf (Q8c N h.n s.n) λz=>some (z,true))
 | .inr (.inr (.inr (.inr (.inr (.inr (.inr (.inr (.inr _))))))))=>(none)
def DB (N:Nat)(a0:Int)(U:List V):Option (Nat×Int×Nat):=Qf (Y9 N a0) λh=>Qf (if(decide (a0<1))=true then(some true)else(if(decide (a0>11))=true then(some true)else(some (U.length !=h)))) λz=>if z=true then(some (0,0,2))else(jw (fz (Dy N U) N (0,false)) λa2=>Qf (U[0]?) λa3=>gd (WI ((h:Int)-1))<|gd (0<=(h:Int)-1)<|Qf (U[((h:Int)-1).toNat]?) λa4=>if(a0==5)=true then(Qf (TY N (decide (a3=a4))) λa7=>some (1,a7,0))else(if(a0==6)=true then(Qf (TY N (!decide (a3=a4))) λa8=>some (1,a8,0))else(if a2=true then(some (0,0,301))else(Qf (QJ N a0 a3 a4) λ(s,a1)=>if(!a1)=true then(some (0,0,300))else(Qf (ZJ N s) λ_=>some (1,s,0))))))
def Y1 (_:Nat)(l1:List Q4)(rc:Int->Int->Int->ByteArray->Int->Int->(List Q4)->(List V)->Option (Int×Int×ByteArray×Nat))(l0:List V):(Nat×(List V))->Option ((Nat×(List V))⊕((List V)⊕((List V)×Nat))):=λ(h,z)=>if(decide (h<l1.length))=true then(Qf (l1[h]?) λa0=>Qf (rc a0.kind a0.value.k a0.value.n a0.value.s a0.var a0.op a0.kids l0) λ(U,a2,a3,a4)=>if(a4 !=0)=true then(some (.inr (.inr ([],a4))))else(gd (z.length+([(⟨U,a2,a3⟩:V)]).length<=4398046511104)<|gd (WN (h+1))<|some (.inl (h+1,(z++([(⟨U,a2,a3⟩:V)]))))))else(some (.inr (.inl z)))
def ZQ (N:Nat)(rc:Int->Int->Int->ByteArray->Int->Int->(List Q4)->(List V)->Option (Int×Int×ByteArray×Nat))(s:List V)(z:List Q4):Option ((List V)×Nat):=jw (fz (Y1 N z rc s) N (0,[])) λh=>some (h,0)
def ZE (N:Nat)(rc:Int->Int->Int->ByteArray->Int->Int->(List Q4)->(List V)->Option (Int×Int×ByteArray×Nat))(l0:List V)(_:Int)(_:Int)(_:Int)(_:ByteArray)(_:Int)(U:Int)(l7:List Q4):Option (Nat×Int×Nat):=Qf (ZQ N rc l0 l7) λ(s,h)=>if(h !=0)=true then(some (0,0,h))else(Qf (DB N U s) λ(z,a0,a7)=>some (z,a0,a7))
def Sf (N:Nat)(rc:Int->Int->Int->ByteArray->Int->Int->(List Q4)->(List V)->Option (Int×Int×ByteArray×Nat))(a0:Int)(U:Int)(a2:Int)(a3:ByteArray)(a4:Int)(a5:Int)(l6:List Q4)(l7:List V):Option (Int×Int×ByteArray×Nat):=if(a0==1)=true then(Qf (Q8U N a0 U a2 a3 a4 a5 l6) λ(h,s,z,a6)=>some (h,s,z,a6))else(if(a0==2)=true then(Qf (Q8V N a0 U a2 a3 a4 a5 l6 l7) λ(h,s,z,a6)=>some (h,s,z,a6))else(if(a0==3)=true then(Qf (ZE N rc l7 a0 U a2 a3 a4 a5 l6) λ(h,s,z)=>some ((h:Int),s,(⟨#[]⟩:ByteArray),z))else(if(!false)=true then(some (0,0,(⟨#[]⟩:ByteArray),2))else(none))))
def yV:Nat->Int->Int->Int->ByteArray->Int->Int->(List Q4)->(List V)->Option (Int×Int×ByteArray×Nat)
 |0=>λ_=>λ_=>λ_=>λ_=>λ_=>λ_=>λ_=>λ_=>none
 |N+1=>Sf N (yV N)
def TK (_:Nat)(U:List Bool)(l1:List V):Nat->Option (Nat⊕(Unit⊕Bool)):=λh=>if(decide (h<U.length))=true then(Qf (U[h]?) λz=>Qf (if(!z)=true then(Qf (l1[h]?) λa0=>some (!decide (a0=(⟨0,0,(⟨#[]⟩:ByteArray)⟩:V))))else(some false)) λs=>if s=true then(some (.inr (.inr false)))else(gd (WN (h+1))<|some (.inl (h+1))))else(some (.inr (.inl ())))
def Zs (N:Nat)(h:List Bool)(s:List V):Option (Bool):=if(h.length !=s.length)=true then(some false)else(jw (fz (TK N h s) N 0) λ_=>some true)
def Q9A (_:Nat)(h:List Bool)(s:List V):Option (Unit):=gd (h.length<=140737488355328)<|gd (s.length<=4398046511104)<|some ()
def Q3U (_:Nat)(h:Bool)(s:Int)(z:List Bool)(U:List V)(a7:Int)(a8:Int)(a9:ByteArray):Option ((List Bool)×(List V)):=if h=true then(gd (0<=s)<|Qf (z[s.toNat]?) λ_=>gd (0<=s)<|Qf (U[s.toNat]?) λ_=>some (z.set s.toNat true,(U.set s.toNat (⟨a7,a8,a9⟩:V))))else(some (z,U))
def Zd (N:Nat)(U:List Bool)(l1:List V)(a2:Int)(a3:Int)(a4:Int)(a5:Int)(a6:ByteArray)(a7:Int)(a8:Int)(a9:ByteArray):Option (Bool×(List Bool)×(List V)):=Qf (if(decide (a3>=0))=true then(some (decide (a3<(U.length:Int))))else(some false)) λh=>if(a2==1)=true then(some (true,U,l1))else(if(a2==4)=true then(some ((decide ((⟨a4,a5,a6⟩:V)=(⟨a7,a8,a9⟩:V))),U,l1))else(if(a2==3)=true then(if h=true then(gd (0<=a3)<|Qf (U[a3.toNat]?) λaF=>if aF=true then(gd (0<=a3)<|Qf (l1[a3.toNat]?) λaG=>some ((decide (aG=(⟨a7,a8,a9⟩:V))),U,l1))else(some (false,U,l1)))else(some (false,U,l1)))else(if(a2==2)=true then(Qf (Q3U N h a3 U l1 a7 a8 a9) λ(s,z)=>some (h,s,z))else(some (false,U,l1)))))
def Q5Q (N:Nat)(h:Bool)(U:Int)(s:Int)(l2:List gS)(z:List V)(a0:List Bool)(a2:List V):Option (Bool):=if(!h)=true then(some true)else(if(U !=s)=true then(some true)else(if(l2.length !=z.length)=true then(some true)else(Qf (Zs N a0 a2) λa3=>some (!a3))))
def TO (N:Nat)(l2:List gS)(a6:List V):(Nat×(List Bool)×(List V))->Option ((Nat×(List Bool)×(List V))⊕(((List Bool)×(List V))⊕((List Bool)×(List V)×Bool))):=λ(h,z,a0)=>if(decide (h<l2.length))=true then(Qf (l2[h]?) λU=>Qf (a6[h]?) λa2=>Qf (Zd N z a0 U.k U.var U.v.k U.v.n U.v.s a2.k a2.n a2.s) λ(a3,a4,a5)=>if(!a3)=true then(some (.inr (.inr ([],[],false))))else(gd (WN (h+1))<|some (.inl (h+1,a4,a5))))else(some (.inr (.inl (z,a0))))
def NR (N:Nat)(a0:Int)(a1:Int)(l2:List gS)(_:Int)(_:Int)(_:Int)(_:ByteArray)(_:Int)(_:Int)(_:List Q4)(_:Int)(aC:Int)(U:List V)(a2:List Bool)(a9:List V):Option ((List Bool)×(List V)×Bool):=Qf (if(a0==1)=true then(some true)else(some (a0==2))) λaA=>Qf (Q5Q N aA a1 aC l2 U a2 a9) λz=>if z=true then(some ([],[],false))else(Qf (Q9A N a2 a9) λ_=>jw (fz (TO N l2 U) N (0,a2,a9)) λ(h,s)=>some (h,s,true))
def Q5p (_:Nat)(s:Bool)(z:Nat)(h:UInt8):Option (Bool):=if(!s)=true then(if(z==0)=true then(some true)else(if(decide (48<=h.toNat))=true then(if(decide (h.toNat<=57))=true then(some false)else(some (!(h.toNat==95))))else(some (!(h.toNat==95)))))else(some false)
def Q5q (N:Nat)(a0:ByteArray):Nat->Option (Nat⊕(Unit⊕Bool)):=λh=>if(decide (h<a0.size))=true then(Qf (a0[h]?) λz=>Qf (if(decide (97<=z.toNat))=true then(some (decide (z.toNat<=122)))else(some false)) λU=>Qf (Q5p N U h z) λs=>if s=true then(some (.inr (.inr false)))else(gd (WN (h+1))<|some (.inl (h+1))))else(some (.inr (.inl ())))
def Q6i (N:Nat)(h:ByteArray):Option (Bool):=jw (fz (Q5q N h) N 0) λ_=>if(decide (1<=h.size))=true then(some (decide (h.size<=24)))else(some false)
def Zg (N:Nat)(s:Int)(U:Int)(z:ByteArray):Option (Bool):=if(s==1)=true then(some (z.toList==(⟨#[]⟩:ByteArray).toList))else(if(s==2)=true then(if(U==0)=true then(Qf (Q6i N z) λh=>some h)else(some false))else(some false))
def Q4u (_:Nat)(_:Int):Option (Unit):=some ()
def OB (N:Nat)(h:Bool):Option (Int):=if h=true then(Qf (Q4u N 1) λ_=>some 1)else(Qf (Q4u N 0) λ_=>some 0)
def Q5R (_:Nat)(h:Int)(s:Int):Option (Bool):=if(decide (h>0))=true then(gd (WI (9223372036854775807-h))<|if(decide (s>(9223372036854775807-h)))=true then(some true)else(if(decide (h<0))=true then(gd (WI (-9223372036854775808-h))<|some (decide (s<(-9223372036854775808-h))))else(some false)))else(if(decide (h<0))=true then(gd (WI (-9223372036854775808-h))<|some (decide (s<(-9223372036854775808-h))))else(some false))
def Q5v (N:Nat)(s:Int)(z:Int):Option (Int×Bool):=Qf (Q5R N z s) λh=>if h=true then(some (0,false))else(gd (WI (s+z))<|some (s+z,true))
def Q5A (_:Nat)(z:Int)(s:Int):Option (Int×Bool):=Qf (if(z==0)=true then(some true)else(some (s==0))) λh=>if h=true then(some (0,true))else(if(z==-1)=true then(some (IntKind.wrap .i64 (0-s),s !=-9223372036854775808))else(if(s==-1)=true then(some (IntKind.wrap .i64 (0-z),z !=-9223372036854775808))else(gd (s≠0)<|some (IntKind.wrap .i64 (z*s),(IntKind.wrap .i64 (Int.tdiv (IntKind.wrap .i64 (z*s)) s))==z))))
def OC (N:Nat)(a0:Int)(h:Int)(a2:Int):Option (Int×Bool):=if(a0==1)=true then(Qf (Q5v N h a2) λ(s,z)=>some (s,z))else(if(a0==2)=true then(if(a2==-9223372036854775808)=true then(some (IntKind.wrap .i64 (h-a2),decide (h<0)))else(Qf (Q5v N h (IntKind.wrap .i64 (0-a2))) λ(a3,a4)=>some (a3,a4)))else(if(a0==3)=true then(Qf (Q5A N h a2) λ(a5,U)=>some (a5,U))else(some (IntKind.wrap .i64 (0-h),h !=-9223372036854775808))))
def Q6f (_:Nat)(s:Int):Option (Nat):=Qf (if(s==4)=true then(some true)else(some (s==11))) λh=>if h=true then(some 1)else(some 2)
def Q6g (N:Nat)(U:List V)(h:Nat)(a0:Bool):Option (Bool⊕((Nat×Bool)⊕(Bool⊕(Nat×Int×Nat)))):=Qf (U[h]?) λz=>Qf (Zg N z.k z.n z.s) λa1=>if(!a1)=true then(some (.inr (.inr (.inr (0,0,2)))))else(if a0=true then(some (.inl true))else(Qf (U[h]?) λa2=>some (.inl (a2.k==2))))
def Q6h (N:Nat)(U:List V):(Nat×Bool)->Option ((Nat×Bool)⊕(Bool⊕(Nat×Int×Nat))):=λ(h,s)=>if(decide (h<U.length))=true then(jw (Q6g N U h s) λz=>gd (WN (h+1))<|some (.inl (h+1,z)))else(some (.inr (.inl s)))
def Q7E (N:Nat)(a0:Int)(U:List V):Option (Nat×Int×Nat):=Qf (Q6f N a0) λa8=>Qf (if(decide (a0<1))=true then(some true)else(if(decide (a0>11))=true then(some true)else(some (U.length !=a8)))) λa4=>if a4=true then(some (0,0,2))else(jw (fz (Q6h N U) N (0,false)) λa9=>Qf (U[0]?) λh=>gd (WI ((U.length:Int)-1))<|gd (0<=(U.length:Int)-1)<|Qf (U[((U.length:Int)-1).toNat]?) λz=>Qf (if(a0==5)=true then(some true)else(some (a0==6))) λa5=>if a5=true then(Qf (OB N ((decide (h=z))==(a0==5))) λaB=>some (1,aB,0))else(if a9=true then(some (0,0,301))else(if(a0==7)=true then(Qf (OB N (decide (h.n<z.n))) λaC=>some (1,aC,0))else(if(a0==8)=true then(Qf (OB N (decide (h.n<=z.n))) λaD=>some (1,aD,0))else(if(a0==9)=true then(if(h.n !=0)=true then(Qf (OB N (z.n !=0)) λa2=>some (1,a2,0))else(Qf (OB N false) λa2=>some (1,a2,0)))else(if(a0==10)=true then(if(h.n !=0)=true then(Qf (OB N true) λa3=>some (1,a3,0))else(Qf (OB N (z.n !=0)) λa3=>some (1,a3,0)))else(if(a0==11)=true then(Qf (OB N (h.n==0)) λaA=>some (1,aA,0))else(Qf (OC N a0 h.n z.n) λ(s,a6)=>if(!a6)=true then(some (0,0,300))else(Qf (Q4u N s) λ_=>some (1,s,0))))))))))
def Q4b (_:Nat)(l6:List Q4)(rc:Int->Int->Int->ByteArray->Int->Int->(List Q4)->(List V)->Option (Int×Int×ByteArray×Nat))(l7:List V):(Nat×(List V))->Option ((Nat×(List V))⊕((List V)⊕((Int×Int×ByteArray)⊕(Int×Int×ByteArray×Nat)))):=λ(a0,h)=>if(decide (a0<l6.length))=true then(Qf (l6[a0]?) λz=>Qf (rc z.kind z.value.k z.value.n z.value.s z.var z.op z.kids l7) λ(U,a2,a3,a4)=>if(a4 !=0)=true then(some (.inr (.inr (.inr (0,0,(⟨#[]⟩:ByteArray),a4)))))else(gd (h.length+([(⟨U,a2,a3⟩:V)]).length<=4398046511104)<|gd (WN (a0+1))<|some (.inl (a0+1,(h++([(⟨U,a2,a3⟩:V)]))))))else(some (.inr (.inl h)))
def Q7Q (N:Nat)(a0:Int)(a1:Int)(a2:Int)(a3:ByteArray)(a4:Int)(l7:List V)(l6:List Q4)(rc:Int->Int->Int->ByteArray->Int->Int->(List Q4)->(List V)->Option (Int×Int×ByteArray×Nat))(a5:Int):Option ((Int×Int×ByteArray)⊕(Int×Int×ByteArray×Nat)):=if(a0==1)=true then(some (.inl (a1,a2,a3)))else(if(a0==2)=true then(Qf (if(decide (a4>=0))=true then(some (decide (a4<(l7.length:Int))))else(some false)) λz=>if z=true then(gd (0<=a4)<|Qf (l7[a4.toNat]?) λU=>some (.inl (U.k,U.n,U.s)))else(some (.inl (0,0,(⟨#[]⟩:ByteArray)))))else(if(a0==3)=true then(jw (fz (Q4b N l6 rc l7) N (0,[])) λh=>Qf (Q7E N a5 h) λ(a7,a8,a9)=>some (.inr ((a7:Int),a8,(⟨#[]⟩:ByteArray),a9)))else(some (.inl (0,0,(⟨#[]⟩:ByteArray))))))
def Q5S (N:Nat)(rc:Int->Int->Int->ByteArray->Int->Int->(List Q4)->(List V)->Option (Int×Int×ByteArray×Nat))(a0:Int)(U:Int)(a2:Int)(a3:ByteArray)(a4:Int)(a5:Int)(l6:List Q4)(l7:List V):Option (Int×Int×ByteArray×Nat):=jw (Q7Q N a0 U a2 a3 a4 l7 l6 rc a5) λ(h,s,z)=>Qf (Zg N h s z) λa6=>if(!a6)=true then(some (0,0,(⟨#[]⟩:ByteArray),2))else(some (h,s,z,0))
def Q5h:Nat->Int->Int->Int->ByteArray->Int->Int->(List Q4)->(List V)->Option (Int×Int×ByteArray×Nat)
 |0=>λ_=>λ_=>λ_=>λ_=>λ_=>λ_=>λ_=>λ_=>none
 |N+1=>Q5S N (Q5h N)
def S7 (_:Nat)(l0:List Q4)(U:Int)(rc:(List Q4)->Int->Option (Int)):(Nat×Int)->Option ((Nat×Int)⊕Int):=λ(s,h)=>Qf (if(decide (s<l0.length))=true then(some (decide (h<=U)))else(some false)) λz=>if z=true then(gd (WI (h+1))<|Qf (l0[s]?) λa3=>gd (WI (U-h))<|gd (WI ((U-h)-1))<|Qf (rc a3.kids ((U-h)-1)) λa0=>gd (WI ((h+1)+a0))<|gd (WN (s+1))<|some (.inl (s+1,(h+1)+a0)))else(some (.inr h))
def TI (N:Nat)(rc:(List Q4)->Int->Option (Int))(z:List Q4)(s:Int):Option (Int):=Qf (fz (S7 N z s rc) N (0,0)) λh=>gd (WI (s+1))<|some (Rk h (s+1))
def JS:Nat->(List Q4)->Int->Option (Int)
 |0=>λ_=>λ_=>none
 |N+1=>TI N (JS N)
def XO (N:Nat)(a0:Q9):(Nat×Int)->Option ((Nat×Int)⊕Int):=λ(h,s)=>Qf (if(decide (h<a0.conds.length))=true then(some (decide (s<300)))else(some false)) λz=>if z=true then(Qf (a0.conds[h]?) λU=>gd (WI (s+(U.args.length:Int)))<|Qf (a0.conds[h]?) λa3=>Qf (JS N [a3.test] 300) λa2=>gd (WI ((s+(U.args.length:Int))+a2))<|gd (WN (h+1))<|some (.inl (h+1,((s+(U.args.length:Int))+a2))))else(some (.inr s))
def XP (N:Nat)(a0:Q9):(Nat×Int)->Option ((Nat×Int)⊕Int):=λ(h,s)=>Qf (if(decide (h<a0.acts.length))=true then(some (decide (s<300)))else(some false)) λz=>if z=true then(Qf (a0.acts[h]?) λa2=>Qf (JS N a2.exprs 300) λU=>gd (WI (s+U))<|gd (WN (h+1))<|some (.inl (h+1,s+U)))else(some (.inr s))
def Q5o (N:Nat)(U:List Q9)(a0:Nat)(s:Int):Option (Int):=Qf (U[a0]?) λh=>gd (WI (s+(h.conds.length:Int)))<|gd (WI ((s+(h.conds.length:Int))+(h.acts.length:Int)))<|Qf (fz (XO N h) N (0,((s+(h.conds.length:Int))+(h.acts.length:Int)))) λz=>fz (XP N h) N (0,z)
def XN (N:Nat)(U:List Q9):(Nat×Int)->Option ((Nat×Int)⊕Int):=λ(h,s)=>Qf (if(decide (h<U.length))=true then(some (decide (s<300)))else(some false)) λz=>if z=true then(Qf (Q5o N U h s) λa0=>gd (WN (h+1))<|some (.inl (h+1,a0)))else(some (.inr s))
def Zf (N:Nat)(z:List Qa)(s:List Q9):Option (Bool):=gd (WN (z.length+s.length))<|Qf (fz (XN N s) N (0,((z.length+s.length:Nat):Int))) λh=>some (decide (h<300))
def XR (_:Nat)(U:List QS)(z:Nat):Nat->Option (Nat⊕(Unit⊕(Nat⊕(Unit⊕Bool)))):=λh=>Qf (U[z]?) λa0=>if(decide (h<a0.fact.args.length))=true then(Qf (U[z]?) λa1=>Qf (a1.fact.args[h]?) λa2=>if(decide (100<a2.s.size))=true then(some (.inr (.inr (.inr (.inr false)))))else(gd (WN (h+1))<|some (.inl (h+1))))else(some (.inr (.inl ())))
def XQ (N:Nat)(s:List QS):Nat->Option (Nat⊕(Unit⊕Bool)):=λh=>if(decide (h<s.length))=true then(jw (Qf (s[h]?) λz=>if(decide (20<z.fact.args.length))=true then(some (.inr (.inr (.inr false))))else(fz (XR N s h) N 0)) λ_=>gd (WN (h+1))<|some (.inl (h+1)))else(some (.inr (.inl ())))
def TL (N:Nat)(h:List QS):Option (Bool):=jw (fz (XQ N h) N 0) λ_=>some (decide (h.length<=40))
def ZF (_:Nat)(_:Int):Option (Unit):=some ()
def ZA (N:Nat)(s:Int)(h:Int):Option (Int):=Qf (ZF N s) λ_=>Qf (ZF N h) λ_=>if(s !=s)=true then(if(h !=h)=true then(some 0)else(some (-1)))else(if(h !=h)=true then(some 1)else(if(decide (s<h))=true then(some (-1))else(if(decide (s>h))=true then(some 1)else(some 0))))
def S6 (N:Nat)(U:List Int)(l1:List Int):Nat->Option (Nat⊕(Unit⊕Int)):=λh=>if(decide (h<U.length))=true then(Qf (U[h]?) λz=>if(decide (l1.length<=h))=true then(some (.inr (.inr 1)))else(Qf (l1[h]?) λa0=>Qf (ZA N z a0) λs=>if(s !=0)=true then(some (.inr (.inr s)))else(gd (WN (h+1))<|some (.inl (h+1)))))else(some (.inr (.inl ())))
def Q5i (N:Nat)(h:List Int)(s:List Int):Option (Int):=jw (fz (S6 N h s) N 0) λ_=>if(decide (h.length<s.length))=true then(some (-1))else(some 0)
def Sa (N:Nat)(_:Int)(h:List Int)(_:Int)(l3:List Int):Option (Int):=Qf (Q5i N h l3) λs=>some s
def Q6O (N:Nat)(h:Int)(s:Int)(z:ByteArray):Option (Bool):=Qf (AB N h s z) λv4=>some (!v4)
def Z3 (N:Nat)(U:List V):Nat->Option (Nat⊕(Unit⊕Int)):=λh=>if(decide (h<U.length))=true then(Qf (U[h]?) λz=>Qf (Q6O N z.k z.n z.s) λa0=>if a0=true then(some (.inr (.inr (h:Int))))else(gd (WN (h+1))<|some (.inl (h+1))))else(some (.inr (.inl ())))
def Q3d (N:Nat)(h:List V):Option (Int):=jw (fz (Z3 N h) N 0) λ_=>some (-1)
def XI (N:Nat)(h:List V):Option (Bool):=Qf (Q3d N h) λs=>some (decide (s>=0))
def Y4 (_:Nat)(l6:List Q4)(rc:Int->Int->Int->ByteArray->Int->Int->(List Q4)->Option (List Q4)):(Nat×(List Q4))->Option ((Nat×(List Q4))⊕(List Q4)):=λ(z,h)=>if(decide (z<l6.length))=true then(Qf (h[z]?) λa0=>Qf (rc a0.kind a0.value.k a0.value.n a0.value.s a0.var a0.op a0.kids) λU=>Qf (h[z]?) λ_=>gd (WN (z+1))<|some (.inl (z+1,(h.set z (⟨a0.kind,a0.value,a0.var,a0.op,U⟩:Q4)))))else(some (.inr h))
def ZM (N:Nat)(rc:Int->Int->Int->ByteArray->Int->Int->(List Q4)->Option (List Q4))(_:Int)(_:Int)(_:Int)(_:ByteArray)(_:Int)(_:Int)(s:List Q4):Option (List Q4):=gd (s.length<=1759218604441)<|Qf (fz (Y4 N s rc) N (0,s)) λh=>some h
def Y7:Nat->Int->Int->Int->ByteArray->Int->Int->(List Q4)->Option (List Q4)
 |0=>λ_=>λ_=>λ_=>λ_=>λ_=>λ_=>λ_=>none
 |N+1=>ZM N (Y7 N)
def Y8 (N:Nat)(_:Int)(_:Int)(l2:List gS)(h:Int)(s:Int)(z:Int)(U:ByteArray)(a7:Int)(a8:Int)(l9:List Q4):Option (List Q4):=gd (l2.length<=2932031007402)<|Qf (Y7 N h s z U a7 a8 l9) λv9=>some v9
def ZT (N:Nat)(z:Int)(h:Int)(s:ByteArray):Option (ByteArray):=Qf (AB N z h s) λv5=>if(!v5)=true then(some (⟨#[]⟩:ByteArray))else(if(z==2)=true then(gd (WN ((⟨#[39]⟩:ByteArray).size+s.size))<|some ((⟨#[39]⟩:ByteArray)++s))else(gd (WI h)<|some (wb h)))
end
section
theorem RM:Ak Tryz.prog 2=some .i64:=aq
theorem iL:Ak Tryz.prog 3=some .i64:=aq
theorem kH:Ng Tryz.prog 9=true:=aq
theorem Hl:qy Tryz.prog 31=some 85:=aq
theorem Hk:Ak Tryz.prog 60=some .u8:=aq
theorem mA:Ak Tryz.prog 64=some .u8:=aq
theorem N7:qy Tryz.prog 117=some 209:=aq
theorem N8:qy Tryz.prog 127=some 133:=aq
theorem Aj:Ak Tryz.prog 322=some .u64:=aq
end
section
open Go Go.RowKit
inductive bz where
 |join (a:Nat)
 |nt (a:Nat)
 |test (a:Nat)
def bz.tag:bz->Nat
 | .join _=>116
 | .nt _=>121
 | .test _=>123
def bz.adr:bz->Nat
 | .join a=>a
 | .nt a=>a
 | .test a=>a
def C_p (x:Nat)(_:Unit):List Value:=[.pointer (some ⟨x,0,none⟩)]
def F_p (_:Nat)(_:Unit):List Fact:=[]
def j2:fq Nat:=AK C_p F_p (by intro x r u hu;simp[C_p]at hu;subst hu;rfl)
theorem Sn:qW j2 C_p (λ_ _=>True) F_p:=HD
def E2 (x:bz)(_:Unit):List Value:=[.iface x.tag (.pointer (some ⟨x.adr,0,none⟩))]
def JO (_:bz)(_:Unit):List Fact:=[]
def DF:fq bz:=AK E2 JO (by intro x r u hu;simp[E2]at hu;subst hu;rfl)
theorem Qbj:qW DF E2 (λ_ _=>True) JO:=HD
def QB:vX Tryz.prog 127 Nat:=Wx (e:=133) (i:=5) aq aq
structure gT where
 types:List Qa
 rows:List Nat
 rowsP:Option Addr
 rowsC:Nat
 alphas:MS ByteArray Nat
 alphasA:Nat
 facts:MS Int Qo
 factsA:Nat
 parts:Int
structure nQ where
 net:Nat
 steps:List bz
 stepsP:Option Addr
 stepsC:Nat
 whole:MS Nat Bool
 wholeA:Nat
structure O7 where
 kind:Int
 args:List gS
 argsP:Option Addr
 argsC:Nat
 facts:MS Int Qo
 factsA:Nat
structure x8 where
 alpha:Nat
 row:Nat
 k:Int
 cond:Qv
 parts:MS Nat Bool
 partsA:Nat
structure mf where
 row:Nat
 k:Int
 cond:Qv
 parts:MS Nat Bool
 partsA:Nat
structure jy where
 has:List Bool
 vals:List V
 up:Option Nat
 id:Int
 kids:MS Nat Bool
 kidsA:Nat
 blocks:Option (Nat×MS Int Bool)
def Tz (x:gT)(r:Option Addr×Nat):List Value:=[.slice r.1 x.types.length r.2,.slice x.rowsP x.rows.length x.rowsC,.map (some x.alphasA),.map (some x.factsA),.int .i64 (x.parts)]
def E6 (x:gT)(r:Option Addr×Nat):List Fact:=[.sli 2 Qd r.1 r.2 x.types]
def TB (x:nQ)(_:Unit):List Value:=[.pointer (some ⟨x.net,0,none⟩),.slice x.stepsP x.steps.length x.stepsC,.map (some x.wholeA)]
def E8 (_:nQ)(_:Unit):List Fact:=[]
def JL (x:O7)(_:Unit):List Value:=[.int .i64 (x.kind),.slice x.argsP x.args.length x.argsC,.map (some x.factsA)]
def tr (_:O7)(_:Unit):List Fact:=[]
def Ov (x:x8)(r:(Option Addr×Nat)×(Option Addr×Nat)):List Value:=[.pointer (some ⟨x.alpha,0,none⟩),.pointer (some ⟨x.row,0,none⟩),.int .i64 (x.k),.int .u8 (x.cond.kind),.int .i64 (x.cond.type),.slice r.1.1 x.cond.args.length r.1.2,.int .u8 (x.cond.test.kind),.int .u8 (x.cond.test.value.k),.int .i64 (x.cond.test.value.n),.string x.cond.test.value.s,.int .i64 (x.cond.test.var),.int .u8 (x.cond.test.op),.slice r.2.1 x.cond.test.kids.length r.2.2,.map (some x.partsA)]
def yO (x:x8)(r:(Option Addr×Nat)×(Option Addr×Nat)):List Fact:=[.sli 5 jt r.1.1 r.1.2 x.cond.args,.sli 7 Qj r.2.1 r.2.2 x.cond.test.kids]
def TA (x:x8)(r:(Option Addr×Nat)×(Option Addr×Nat)):List Value:=[.pointer (some ⟨x.alpha,0,none⟩),.pointer (some ⟨x.row,0,none⟩),.int .i64 (x.k),.int .u8 (x.cond.kind),.int .i64 (x.cond.type),.slice r.1.1 x.cond.args.length r.1.2,.int .u8 (x.cond.test.kind),.int .u8 (x.cond.test.value.k),.int .i64 (x.cond.test.value.n),.string x.cond.test.value.s,.int .i64 (x.cond.test.var),.int .u8 (x.cond.test.op),.slice r.2.1 x.cond.test.kids.length r.2.2,.map (some x.partsA)]
def E7 (x:x8)(r:(Option Addr×Nat)×(Option Addr×Nat)):List Fact:=[.sli 5 jt r.1.1 r.1.2 x.cond.args,.sli 7 Qj r.2.1 r.2.2 x.cond.test.kids]
def Ox (x:mf)(r:(Option Addr×Nat)×(Option Addr×Nat)):List Value:=[.pointer (some ⟨x.row,0,none⟩),.int .i64 (x.k),.int .u8 (x.cond.kind),.int .i64 (x.cond.type),.slice r.1.1 x.cond.args.length r.1.2,.int .u8 (x.cond.test.kind),.int .u8 (x.cond.test.value.k),.int .i64 (x.cond.test.value.n),.string x.cond.test.value.s,.int .i64 (x.cond.test.var),.int .u8 (x.cond.test.op),.slice r.2.1 x.cond.test.kids.length r.2.2,.map (some x.partsA)]
def yQ (x:mf)(r:(Option Addr×Nat)×(Option Addr×Nat)):List Fact:=[.sli 5 jt r.1.1 r.1.2 x.cond.args,.sli 7 Qj r.2.1 r.2.2 x.cond.test.kids]
def Ow (x:jy)(r:(Option Addr×Nat)×(Option Addr×Nat)):List Value:=[.slice r.1.1 x.has.length r.1.2,.slice r.2.1 x.vals.length r.2.2,.pointer (X' pA x.up),.int .i64 (x.id),.map (some x.kidsA),.map (X' Prod.fst x.blocks)]
def yP (x:jy)(r:(Option Addr×Nat)×(Option Addr×Nat)):List Fact:=[.sli 1 Qg r.1.1 r.1.2 x.has,.sli 3 dw r.2.1 r.2.2 x.vals]
inductive PO where
 |net (x:gT)
 |row (x:nQ)
 |alpha (x:O7)
 |join (x:x8)
 |nt (x:x8)
 |test (x:mf)
 |part (x:jy)
def PO.kind:PO->Nat
 | .net _=>0
 | .row _=>1
 | .alpha _=>2
 | .join _=>3
 | .nt _=>4
 | .test _=>5
 | .part _=>6
def mx {R:Type} (x:bz)(f g h:Nat->WM R):WM R:=λQ=>(∀a,x=.join a->f a Q)/\(∀a,x=.nt a->g a Q)/\(∀a,x=.test a->h a Q)
abbrev Qc:=Nat->Option PO
variable {s:Qc}{a:Nat}{x:x8}
def gNet (s:Qc)(a:Nat):Option gT:=match s a with
 |some (.net x)=>some x
 |_=>none
theorem qb {x:gT} (h:gNet s a=some x):s a=some (.net x):=by
 unfold gNet at h;split at h;· cases h;assumption
 · cases h
def gRow (s:Qc)(a:Nat):Option nQ:=match s a with
 |some (.row x)=>some x
 |_=>none
theorem qc {x:nQ} (h:gRow s a=some x):s a=some (.row x):=by
 unfold gRow at h;split at h;· cases h;assumption
 · cases h
def vQ (s:Qc)(a:Nat):Option O7:=match s a with
 |some (.alpha x)=>some x
 |_=>none
theorem BH {x:O7} (h:vQ s a=some x):s a=some (.alpha x):=by
 unfold vQ at h;split at h;· cases h;assumption
 · cases h
def jD (s:Qc)(a:Nat):Option x8:=match s a with
 |some (.join x)=>some x
 |_=>none
theorem ES (h:jD s a=some x):s a=some (.join x):=by
 unfold jD at h;split at h;· cases h;assumption
 · cases h
def jE (s:Qc)(a:Nat):Option x8:=match s a with
 |some (.nt x)=>some x
 |_=>none
theorem Ih (h:jE s a=some x):s a=some (.nt x):=by
 unfold jE at h;split at h;· cases h;assumption
 · cases h
def rf (s:Qc)(a:Nat):Option mf:=match s a with
 |some (.test x)=>some x
 |_=>none
theorem EV {x:mf} (h:rf s a=some x):s a=some (.test x):=by
 unfold rf at h;split at h;· cases h;assumption
 · cases h
def gPart (s:Qc)(a:Nat):Option jy:=match s a with
 |some (.part x)=>some x
 |_=>none
theorem EU {x:jy} (h:gPart s a=some x):s a=some (.part x):=by
 unfold gPart at h;split at h;· cases h;assumption
 · cases h
def gg (a:Nat):PO->List Fact
 | .net x=>[qX a 85 Tz E6 x,.own 108 1 j2 (.slice x.rowsP x.rows.length x.rowsC) x.rows,QH (Ef (B4 kH)).X false j2 x.alphasA x.alphas,QH (gM (QA iL)).X true QL x.factsA x.facts]
 | .row x=>[qX a 112 TB E8 x,.own 213 1 DF (.slice x.stepsP x.steps.length x.stepsC) x.steps,QH QB false Qg x.wholeA x.whole]
 | .alpha x=>[qX a 209 JL tr x,.own 76 5 jt (.slice x.argsP x.args.length x.argsC) x.args,QH (gM (QA iL)).X true QL x.factsA x.facts]
 | .join x=>[qX a 120 Ov yO x,QH QB false Qg x.partsA x.parts]
 | .nt x=>[qX a 122 TA E7 x,QH QB false Qg x.partsA x.parts]
 | .test x=>[qX a 125 Ox yQ x,QH QB false Qg x.partsA x.parts]
 | .part x=>[qX a 133 Ow yP x,QH QB false Qg x.kidsA x.kids,la x.blocks (λb m=>QH (gM (QA iL)).X false Qg b m)]
theorem OL:Ka gg:=λa o=>by
 cases o<;>exact⟨_,_,_,_,_,_,_,rfl⟩
end
section
open Go Go.RowKit
set_option maxRecDepth 100000
set_option maxHeartbeats 4000000
variable {α:Type}{y:Nat}{m:MS Nat α}
theorem JV:∀{ks l:List Nat},ks.Nodup->(∀z∈ks,z∈l)->ks.length<=l.length
 |[],l,_,_=>Q' _
 | k::ks,l,h,hs=>by
   have h1:=T'.1 h;have hk:k∈l:=hs k ax;have:=JV (l:=l.erase k) h1.2 λz U=>(List.mem_erase_of_ne (λe=>h1.1 (by rw[<-e];exact U))).2 (hs z (by simp[U]));rw[List.length_erase_of_mem hk]at this;have:=List.length_pos_of_mem hk;simp only[k'];omega
theorem Mh {ks l:List Nat} (h:ks.Nodup)(hs:∀z∈ks,z∈l)(hy:y∈l)(hn:y∉ks):ks.length<l.length:=by
 have:=JV (T'.2 ⟨hn,h⟩) (l:=l) (by
  intro z U;rcases q'.1 U with rfl|U;· exact hy
  · exact hs z U)
 simp only[k']at this;omega
theorem Fo {ks:List Nat} (h:ks.Nodup)(hn:y∉ks):(ks++[y]).Nodup:=List.nodup_append.2 ⟨h,ax,λa ha b U e=>hn (by simp at U;rw[<-U,<-e];exact ha)⟩
theorem ZP {k:Nat} (h:k∈m.keys):∃x,m.look k=some x:=by
 obtain⟨e,he,rfl⟩:=O'.1 h
 have:iK e.1 m.es≠none:=λhn=>by
  have key:∀l:List (Nat×α×Nat),iK e.1 l=none->e∉l:=by
   intro l;induction l with
   |nil=>intro _ h;cases h
   | cons y l ih=>
     intro h hm;unfold iK at h;split at h;· cases h
     ·rename_i de;rcases q'.1 hm with rfl|hm;· exact de rfl
      · exact ih h hm
  exact key _ hn he
 cases U:iK e.1 m.es with
 |none=>exact absurd U this
 |some x=>exact⟨x.1,by simp[MS.look,U]⟩
theorem Dk {C:Ctx} {n:FD} {Q:Exit->Act->World->Prop} {Φ H H':List Fact} {S:List (Nat×Value)} {e:Exit} {U:Type} {m:MS U α} {g b:Nat} {done:List U} {last:Option U} (i:Nat)(hi:H[i]? =some (dy m g b done last))(hH:H.set i (dy m g b done none)=H')(h:WE C n Q Φ H' S e):WE C n Q Φ H S e:=by
 subst hH;exactλa w hf hw=>h a w hf (hw.itForget i hi)
def tt (ks l:List Nat):Prop:=ks.Nodup/\∀y,y∈ks↔y∈l
def M3 {R:Type} (m:MS Nat R):WM (List Nat):=λQ=>m.keys.length<=4398046511104/\∀ks,tt ks m.keys->Q ks
theorem GS {R:Type} {K:List Nat->WM R} {Q:R->Prop} (h:fu (M3 m) K Q):m.keys.length<=4398046511104/\∀ks,tt ks m.keys->K ks Q:=h
theorem a1H:Tryz.prog.underlying 109=some (.map 127 4):=aq
theorem a3p:QT Tryz.prog 109=some 1:=aq
theorem a3m:gx Tryz.prog 109=some false:=aq
theorem Xm:QT Tryz.prog 535=some 1:=aq
theorem a1F:gx Tryz.prog 535=some false:=aq
theorem a3o:QT Tryz.prog 127=some 1:=aq
theorem a1G:iA Tryz.prog 535=some 127:=aq
theorem M4 (b:Nat):QD Tryz.prog 407 [.map (some b)] [] [] (λv bo Hr=>∃g,v=.func (.func 414) #[] #[.pointer (some ⟨g,0,none⟩)]/\bo=[]/\Hr=[.blk g [.map (some b)] 109]):=by
 refine Qp Tryz.func407 rfl rfl rfl rfl λC=>?_;refine Q6 ?_;refine Qb ?_;refine vG rfl rfl rfl (Q0 rfl) rfl rfl rfl (λg=>?_);refine Qq rfl rfl rfl (Q0 rfl) rfl ?_;refine Q2 ?_;refine Qw ?_;refine Q6 ?_;refine Qb ?_;refine yW rfl rfl rfl (Q0 rfl) rfl rfl ?_;refine Qq (S':=[_,_,_]) rfl rfl rfl rfl rfl ?_;refine Q2 ?_;refine Qw ?_;refine Qm ?_;exact tA (Hr:=[_]) [0] Tryz.results407 (kd rfl) ⟨g,rfl,rfl,rfl⟩ (λ_ _ U=>ask [] rfl U) rfl rfl (.inl rfl)
abbrev ME (g:Nat) (ks:List Nat) (p:Option Addr) (c:Nat):List Fact:=[.blk g [.slice p ks.length c] 535,.own 127 1 j2 (.slice p ks.length c) ks]
variable {gk b:Nat}{m:MS Nat Bool}
theorem Ww {l fn D g:Nat} {tmps:Array Value} {assign body:Code} {ps:Array Tmp} (R1:ps.size=1)
  (rs:∀(ks:List Nat) (y:Nat) p c,ks.length<m.keys.length->zg Tryz.prog l fn ((ps.zip #[.pointer (some ⟨y,0,none⟩)]).foldl (λtmps (t,a)=>tmps.setIfInBounds t a) tmps) assign body [] (rR l {state:=.ready,pending:=none,fn:=fn,tmps:=tmps,params:=ps,assign:=assign,body:=body,defers:=D}::ME g ks p c) (λv bo Hr=>∃p' c',v=.bool true/\bo=[]/\Hr=rR l {state:=.ready,pending:=none,fn:=fn,tmps:=tmps,params:=ps,assign:=assign,body:=body,defers:=D}::ME g (ks++[y]) p' c')):
  QD Tryz.prog 414 [.func (.yield l) #[] #[],.pointer (some ⟨gk,0,none⟩)] [] (rR l {state:=.ready,pending:=none,fn:=fn,tmps:=tmps,params:=ps,assign:=assign,body:=body,defers:=D}::(ME g [] none 0++[.blk gk [.map (some b)] 109,QH QB false Qg b m]))
   (λ_ bo Hr=>∃rr Hx,rr.state≠.busy/\rr.pending=none/\Hr=rR l rr::Hx/\(∃ks p c,tt ks m.keys/\bo=[]/\Hx=ME g ks p c++[.blk gk [.map (some b)] 109,QH QB false Qg b m])):=by
 refine Qp Tryz.func414 rfl rfl rfl rfl λC=>?_;refine Q6 ?_;refine Qb ?_;refine O2 3 0 rfl rfl rfl (Q0 rfl) rfl rfl rfl (cs:=[_]) rfl a3p a3m rfl rfl ?_;refine OS 4 rfl rfl rfl (Q0 rfl) rfl rfl rfl a1H (λgi=>?_);refine Q2 ?_;refine Qw ?_;refine Qi ?_
 refine Ul (σ:=List Nat×Option Addr×Nat) (λ(ks,_,_)=>ks.Nodup/\∀y∈ks,y∈m.keys) (λ(ks,_,_)=>m.keys.length-ks.length) (λ_=>[(5,.pointer (some ⟨gi,0,none⟩)),(0,.func (.yield l) #[] #[])]) (λ_=>[])
  (λ(ks,p,c)=>dy m gi b ks none::rR l {state:=.ready,pending:=none,fn:=fn,tmps:=tmps,params:=ps,assign:=assign,body:=body,defers:=D}::(ME g ks p c++[.blk gk [.map (some b)] 109,QH QB false Qg b m])) ([],none,0) ⟨List.nodup_nil,λ_ h=>by cases h⟩ [5,0] rfl (λ_ _ U=>ask [] rfl U) rfl (λs_ hm=>?_)
 obtain⟨ks,p,c⟩:=s_;try dsimp only at hm⊢
 refine Q6 ?_;refine Qb ?_;refine OY 0 5 rfl rfl rfl (Q0 rfl) rfl rfl rfl rfl (λou=>?_) (λk kv hk F9=>?_)
 ·refine Qq rfl rfl rfl (Q0 rfl) rfl ?_;refine Q2 ?_;refine Qw ?_;refine Q6 ?_;refine Ed rfl ?_;refine iT ?_;refine Q8 ?_;refine Q8 ?_;refine Qt ?_;exact uW (Hr:=[_,_,_,_,_]) [1,2,3,4,5] Tryz.results414 ⟨_,_,ax,rfl,rfl,ks,p,c,⟨hm.1,λy=>⟨hm.2 y,λh=>ou y h⟩⟩,rfl,rfl⟩ (λ_ _ U=>ask [] rfl U) rfl rfl (.inr rfl)
 ·refine Qq rfl rfl rfl (Q0 rfl) rfl ?_;refine Q2 ?_;refine Qw ?_;refine Q6 ?_;refine O6 rfl ?_;refine QV ?_;refine Qw ?_;refine Qi ?_;refine Q6 ?_;refine Qb ?_;obtain⟨x,hx⟩:∃x,m.look k=some x:=ZP hk;refine OP (a:=x) NS 0 5 rfl rfl rfl (Q0 rfl) rfl rfl rfl rfl hx (u:=λ_=>.bool x) (λ_=>rfl) (v:=λ_=>.tuple #[.pointer (some ⟨k,0,none⟩),.bool x]) (λ_=>rfl) (λ_ _=>?_);refine Qq rfl rfl rfl (Q0 rfl) rfl ?_;refine Qq rfl rfl rfl (Q0 rfl) rfl ?_;refine Q2 ?_;refine Qw ?_;refine Q6 ?_;refine vE ?_;refine Sw (P:=Tryz.prog) (l2:=[_,_]) [_,_] rfl rfl ?_;refine Qq rfl rfl rfl (Q0 rfl) rfl ?_;refine Qq rfl rfl rfl (Q0 rfl) rfl ?_;refine Q2 ?_;refine Tw ?_;have bp:=Mh hm.1 hm.2 hk F9;refine yI [1,2,3] [0,4,5] rfl rfl rfl (Q0 rfl) rfl rfl rfl rfl R1.symm (rs ks k p c bp) (λ_ _ U=>ask [] rfl U) rfl rfl ?_;rintro _ _ _ ⟨p',c',rfl,rfl,rfl⟩;refine Sw (P:=Tryz.prog) (l2:=[]) [_] rfl rfl ?_;refine Qq rfl rfl rfl (Q0 rfl) rfl ?_;refine Q2 ?_;refine qN ?_;refine Qw ?_;refine Ed rfl ?_;refine QV ?_;refine Q7 ?_;refine Dk 3 rfl rfl ?_;refine Qh [3,0,1,2,4,5] rfl (H':=[_,_,_,_,_,_]) rfl ?_
  refine OO (ks++[k],p',c') (by simp only[List.length_append,k',F'];omega) ⟨Fo hm.1 F9,λy hy=>by
   rcases o'.1 hy with h|h;· exact hm.2 y h
   · rw[L'.1 h];exact hk⟩ [5,0] rfl (λ_ _ U=>ask [] rfl U) rfl
theorem a3n:jj Tryz.prog 127=some (.pointer none,1,8):=aq
theorem a3q:j1 Tryz.prog 127=some (.pointer none):=aq
theorem Kj (hlen:m.keys.length<=4398046511104):QD Tryz.prog 413 [.slice none 0 0,.func (.func 414) #[] #[.pointer (some ⟨gk,0,none⟩)]] [] [.blk gk [.map (some b)] 109,QH QB false Qg b m]
  (λv bo Hr=>∃ks p c,tt ks m.keys/\v=.slice p ks.length c/\bo=[]/\Hr=[.own 127 1 j2 (.slice p ks.length c) ks,.blk gk [.map (some b)] 109,QH QB false Qg b m]):=by
 refine CO Tryz.func413 rfl rfl rfl rfl λC=>?_;refine Q6 ?_;refine Qb ?_;refine vG rfl rfl rfl (Q0 rfl) rfl rfl rfl (λg=>?_);refine Qq rfl rfl rfl (Q0 rfl) rfl ?_;refine Q2 ?_;refine JX 127 1 j2 ?_;refine Qw ?_;refine Q6 ?_;refine Q6 ?_;refine Qb ?_;refine Qq rfl rfl rfl (Q0 rfl) rfl ?_;refine Q2 ?_;refine Qw ?_;refine Qi ?_;refine lM [6,2] (S':=[_,_]) rfl ?_;refine Di (Φf:=[]) (H':=[tC []]) [0,3,2,5,6] [1,4] rfl aq (λ_ _=>rfl) (λ_ _ bj=>ask [] rfl bj) rfl (λ_ _=>rfl) (λfn l D a hf=>Ww rfl λks y p c bp=>?_) (λD bo Hx hR=>?_)
 ·refine CI (Lf (k:=13) hf rfl rfl) λC=>?_
  ·refine QbV ?_;refine Sw (P:=Tryz.prog) (l2:=[]) [_] rfl rfl ?_;refine Qq rfl rfl rfl (Q0 rfl) rfl ?_;refine Q2 ?_;refine qN ?_;refine Dj 0 rfl rfl rfl ?_;refine yE ?_;refine QbV ?_;refine Sw (P:=Tryz.prog) (l2:=[]) [_,_,_,_,_] rfl rfl ?_;refine O2 1 0 rfl rfl rfl (Q0 rfl) rfl rfl rfl (cs:=[_]) rfl Xm a1F rfl rfl ?_;refine Qq rfl rfl rfl (Q0 rfl) rfl ?_;refine tz rfl rfl rfl (Q0 rfl) rfl a1G a3o a3q rfl (zs:=[.pointer none]) aq rfl (out:=[_]) rfl (λg2=>?_);refine HG [y] 3 0 rfl rfl rfl (Q0 rfl) rfl rfl rfl rfl rfl (λF w bj=>⟨[.pointer (some ⟨y,0,none⟩)],[],rfl,rfl,⟨(),rfl,QF⟩,rfl⟩) a1G a3n rfl rfl (by simp only[k',F'];omega) (by simp only[k',F'];omega) (H2:=λp' U=>[_,_,_,.own 127 1 j2 (.slice p' ((ks++[y]).length) U) (ks++[y])]) (λ_ _=>rfl) (λp' U=>?_);refine Dq 2 0 rfl rfl rfl rfl rfl rfl rfl Xm rfl rfl rfl (all':=[_]) rfl (H':=[_,_,_,_]) rfl ?_;refine Q2 ?_;refine qN ?_;refine Q7 ?_;refine Qh [1,2,3] rfl (H':=[_,_,_]) rfl ?_;exact rG 0 rfl rfl ⟨p',U,rfl,rfl,rfl⟩
 ·obtain⟨ks,p,c,hk,rfl,rfl⟩:=hR;refine Hv (Ds:=[]) (Es:=[D]) 5 4 rfl rfl rfl rfl ?_;refine Q7 ?_;refine Qw ?_;refine Q6 ?_;refine Qb ?_;refine O2 0 0 rfl rfl rfl (Q0 rfl) rfl rfl rfl (cs:=[_]) rfl Xm a1F rfl rfl ?_;refine Qq (S':=[_,_,_]) rfl rfl rfl rfl rfl ?_;refine Q2 ?_;refine Qw ?_;refine Qm ?_;refine Qh [4,1,2,3] rfl (H':=[tC [D],_,_,_]) rfl ?_;exact Dl (Ds:=[D]) (.inr rfl) rfl rfl (results_tmp Tryz.results413 rfl) ⟨ks,p,c,hk,rfl,rfl,rfl⟩
theorem xi (hlen:m.keys.length<=4398046511104):QD Tryz.prog 406 [.func (.func 414) #[] #[.pointer (some ⟨gk,0,none⟩)]] [] [.blk gk [.map (some b)] 109,QH QB false Qg b m]
  (λv bo Hr=>∃ks p c,tt ks m.keys/\v=.slice p ks.length c/\bo=[]/\Hr=[.own 127 1 j2 (.slice p ks.length c) ks,.blk gk [.map (some b)] 109,QH QB false Qg b m]):=by
 refine Qp Tryz.func406 rfl rfl rfl rfl λC=>?_;refine Q6 ?_;refine Qb ?_;refine Qq rfl rfl rfl (Q0 rfl) rfl ?_;refine Q2 ?_;refine Qw ?_;refine Q6 ?_;refine Qb ?_;refine Qq rfl rfl rfl (Q0 rfl) rfl ?_;refine Ax [0,1] [] rfl rfl rfl (Q0 rfl) rfl rfl aq rfl (Kj hlen) (λ_ _ U=>ask [] rfl U) rfl (H':=[]) rfl ?_;rintro _ _ _ ⟨ks,p,c,hk,rfl,rfl,rfl⟩;refine Qq (S':=[_,_,_]) rfl rfl rfl rfl rfl ?_;refine Q2 ?_;refine Qw ?_;refine Qm ?_;exact tA (Hr:=[_,_,_]) [0,1,2] Tryz.results406 (kd rfl) ⟨ks,p,c,hk,rfl,rfl,rfl⟩ (λ_ _ U=>ask [] rfl U) rfl rfl (.inl rfl)
end
section
open Go Go.RowKit
section
variable {P:Program} {C:Ctx} {n:FD} {Q:Exit->Act->World->Prop} {Φ Φ':List Fact} {H H':List Fact} {S S':List (Nat×Value)} {ops:Array Oper} {rest:List Oper} {o:Oper} {d:Nat}
def Mt (P:Program)(t:TypeId):Bool:=match P.underlying t with
 |some (.interface _)=>false
 |some _=>true
 |none=>false
theorem QbY {t:TypeId} {x:Operand} {v:Value} (hg:QM ops S o=some true)(hd:o.dst=some d)(hn:Nat.blt d n=true)(hS:ft d S=S')(ho:o.op=.makeInterface t x)(hx:da S x=some v)(U:Mt P t=true)
  (next:WL P C n Q Φ H ((d,.iface t v)::S') ops rest):WL P C n Q Φ H S ops (o::rest):=
 HT hg hd hn hS (λa w hf _=>by
  unfold Mt at U;unfold execOp;simp only[ho,hf.eval hx,Instr.makeInterface,Sem.run_bind];split at U;· cases U
  ·rename_i u de hu;simp only[run_underlying hu,Result.andThen_ok];rfl
  · cases U) next
end
end
end Go.Proofs.YtocfkfhdcnjklaaGreatDoor
