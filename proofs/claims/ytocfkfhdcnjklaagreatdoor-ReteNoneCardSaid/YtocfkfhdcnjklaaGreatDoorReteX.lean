import Derived.Test.YtocfkfhdcnjklaaGreatDoorReteJ
namespace Go.Proofs.YtocfkfhdcnjklaaGreatDoor
section
open Go Go.RowKit Classical
section
variable {S:fe} {I:ep->Prop} {C:fz} {T:bz} {ck:Option Nat} {loc:Loc} {s:Q7} {D:List Int}
theorem MM {N:Nat} {f:Qq} {Q:Q7->Prop} (hW:nZ C) (hT:il T D) (hD:D.length<=3518437208882) (hlen:C.rows.length<=9223372036854775806) (hsl:∀R∈C.rows,R.steps.length<9223372036854775807/\B0+D.length+R.steps.length+2<N) (Ys:4099<N) (cn:∀R∈C.rows,∀sc∈R.steps,wE S I C T sc) (hI:∀R∈C.rows,∀π e,fE S T R.steps (R.hs,R.vs) π=some e->I e)
  (hA:∀A∈C.als,A.args.length<N/\A.args.length<9223372036854775807/\(f.ty=A.kind->∀(j:Nat) (a:fl),A.args[j]? =some a->∃v,f.args[j]? =some v)) (hf:T f.id=some f) (hid:f.id≠0)
  (h:Inv S C T (λ_=>T) (λ_ _=>(T,T)) (λ_=>False) none loc s) (a0O:∀y r π,loc y=some (r,π)->f.id∉π) (hP:∀(r:Nat) (R:eO) (π:List Int),C.rows[r]? =some R->fI S T R.steps (R.hs,R.vs) π≠none->f.id∉π->∃y,loc y=some (r,π))
  (hQ:∀bf s',Inv S C T (λ_=>T) (λ_ _=>(T,T)) (λ_=>False) none bf s'->ke loc bf->(∀y r π,bf y=some (r,π)->loc y=none->f.id∈π)->(pX bf->wu S C T bf)->Q s'):E4 (λst σ=>Vf N st f.id f.ty f.args σ) C.g s Q:=by
 refine xo (E:=λr σ=>∃bf,Inv S C T (λ_=>T) (λ_ _=>(T,T)) (λ_=>False) none bf σ/\ke loc bf/\(∀y U π,bf y=some (U,π)->loc y=none->U<r/\f.id∈π)/\(pX bf->∀(U:Nat) (R:eO),U<r->C.rows[U]? =some R->iH S T bf U [] R.steps (R.hs,R.vs)))
  (J:=λr m σ=>∃bf,Inv S C T (λ_=>T) (λ_ _=>(T,T)) (λ_=>False) none bf σ/\ke loc bf/\(∀y U π,bf y=some (U,π)->loc y=none->(U<r/\f.id∈π)\/(U=r/\∃k,m<=k/\π[k]? =some f.id))/\(pX bf->(∀(U:Nat) (R:eO),U<r->C.rows[U]? =some R->iH S T bf U [] R.steps (R.hs,R.vs))/\∀(R:eO) (π:List Int),C.rows[r]? =some R->fI S T R.steps (R.hs,R.vs) π≠none->(∀k,k<m->π[k]? ≠some f.id)->∃y,bf y=some (r,π)))
  hlen (λR hR=>by have:=(hsl R hR).1;omega) (λr σ ⟨_,h1,_⟩=>h1.shape) (λr m σ ⟨_,h1,_⟩=>h1.shape) (λr R σ hr ⟨cz,h1,h2,hn,h3⟩=>⟨cz,h1,h2,λy U π e1 e2=>.inl (hn y U π e1 e2),λfS=>⟨h3 fS,λR' π cy hi hb=>?_⟩⟩) (λr R m sc σ Q' hr ⟨cz,h1,h2,hn,h3⟩ ez Jm=>?_) (λr σ ⟨cz,h1,h2,hn,h3⟩=>⟨cz,h1,h2,λy U π e1 e2=>?_,λfS U R cy hR=>?_⟩) ⟨loc,h,ke.refl _,(λy U π e1 e2=>by rw[e1]at e2;cases e2),λ_ U R cy=>absurd cy (Nat.not_lt_zero _)⟩ (λσ ⟨cz,h1,h2,hn,h3⟩=>hQ cz σ h1 h2 (λy r π e1 e2=>(hn y r π e1 e2).2) λfS U R hR=>h3 fS U R (List.getElem?_eq_some_iff.1 hR).1 hR)
 ·rw [hr]at cy;cases cy;obtain⟨e,he⟩:=Option.ne_none_iff_exists'.1 hi;have hl:=mw (LH he)
  obtain ⟨y,hy⟩:=hP r R π hr hi λhm=>by
   obtain⟨k,hk⟩:=List.mem_iff_getElem?.1 hm;have:=(List.getElem?_eq_some_iff.1 hk).1;exact hb k an hk
  exact⟨y,h2 _ _ hy⟩
 ·have ox:=List.mem_of_getElem? hr;obtain⟨Ge,Gf⟩:=hsl R ox;have sV:(∀a,sc.st≠.join a)->Q' σ:=λhnj=>Jm σ ⟨cz,h1,h2,λy U π e1 e2=>?_,λfS=>⟨(h3 fS).1,λR' π cy hi hb=>(h3 fS).2 R' π cy hi λk hk=>?_⟩⟩
  ·cases bw:sc.st with
   |nt a=>exact jH (QR (sV λa' e=>by rw[bw]at e;cases e))
   |test a=>exact jI (QR (sV λa' e=>by rw[bw]at e;cases e))
   | join a =>
     refine jG (QR ?_);refine Ah (I:=I) (M:=4097) hW hT hD hr ez bw Ge (cn R ox) (hI R ox) Gf an hA (λ_ _ _ hz=>hz) hf (λ_ _=>rfl) h1 h1.le (λy ρ PG hy=>?_) λeo s2 j2 ic mE tY=>?_
     ·cases hl:loc y with
      | some l=>
        have:=h2 _ _ hl;rw[hy]at this;cases this;exact a0O y _ _ hl ax
      | none=>
        rcases hn y _ _ hy hl with⟨e1,_⟩|⟨_,k,e1,e2⟩
        · exact Nat.lt_irrefl _ e1
        · have:=(List.getElem?_eq_some_iff.1 e2).1;simp only[List.length_append,List.length_cons,List.length_nil]at this;omega
     ·refine Jm s2 ⟨eo,j2,h2.trans ic,λy U π e1 e2=>?_,λfS=>?_⟩
      · cases hl:cz y with
        | some l=>
          have:=ic _ _ hl;rw[e1]at this;cases this;rcases hn y _ _ hl e2 with e3|⟨e3,k,e4,e5⟩
          · exact .inl e3
          · exact .inr ⟨e3,k,an,e5⟩
        | none=>
          obtain⟨q,ρ,τ,f1,f2,f3⟩:=mE y _ e1 hl;simp only[Prod.mk.injEq]at f3;obtain⟨rfl,rfl⟩:=f3;refine .inr ⟨rfl,m,Nat.le_refl _,?_⟩;rw[List.append_assoc,List.getElem?_append_right an,f2];simp
      · have TJ:=Xh h1.cnt ic fS j2.cnt;obtain⟨h4,h5⟩:=h3 TJ;refine⟨λU R' cy N9=>(h4 U R' cy N9).mono ic,λR' π cy hi hb=>?_⟩;rw[hr]at cy;cases cy;by_cases hm:π[m]? =some f.id
        · obtain⟨g1,g2⟩:=AY hm
          have gG:fI S T R.steps (R.hs,R.vs) (π.take m++(f.id::π.drop (m+1)))≠none:=by
            have:π.take m++(f.id::π.drop (m+1))=π:=by
              conv=>rhs;rw[g1]
              simp
            rw[this];exact hi
          rw[OW]at gG;cases ft:fI S T R.steps (R.hs,R.vs) (π.take m)with
          |none=>rw[ft]at gG;exact absurd rfl gG
          | some e'=>
            rw[ft,Option.bind_some,g2,OP ez]at gG;simp only[fI,iV,bw,hf,Option.bind_some]at gG;cases hmt:S.mt sc.c e'.1 e'.2 f with
            |none=>rw[hmt]at gG;exact absurd rfl gG
            | some e2=>
              rw[hmt,Option.bind_some]at gG
              obtain ⟨q,hq⟩:=h5 R (π.take m) hr (by rw[ft];simp) λk hk YQ=>by
               have bp:=(List.getElem?_eq_some_iff.1 YQ).1;rw[g2]at bp;refine hb k bp ?_;rw[List.getElem?_take_of_lt bp]at YQ;exact YQ
              obtain⟨y,hy⟩:=tY fS q (π.take m) e' e2 hq g2 (LH ft) hmt (π.drop (m+1)) gG;exact⟨y,by rw[hy,<-g1]⟩
        · obtain⟨y,hy⟩:=h5 R π hr hi λk hk=>by
            by_cases h6:k=m;· rw[h6];exact hm
            · exact hb k an
          exact⟨y,ic _ _ hy⟩
  ·rcases hn y U π e1 e2 with e3|⟨e3,k,e4,e5⟩
   · exact .inl e3
   · exact .inr ⟨e3,k,an,e5⟩
  ·rw[hr]at cy;cases cy;by_cases h6:k=m
   · subst h6;intro YQ;obtain⟨e,he⟩:=Option.ne_none_iff_exists'.1 hi;exact hid (og (LH he) ez hnj YQ)
   · exact hb k an
 ·rcases hn y U π e1 e2 with⟨e3,e4⟩|⟨e3,k,_,e5⟩
  · exact⟨an,e4⟩
  · exact⟨an,List.mem_of_getElem? e5⟩
 ·obtain ⟨h4,h5⟩:=h3 fS;by_cases hh:U<r;· exact h4 U R hh hR
  ·have:U=r:=an
   subst this;intro τ fT;obtain⟨y,hy⟩:=h5 R τ hR fT λk hk=>absurd hk (Nat.not_lt_zero _)
   exact⟨y,by simpa using hy⟩
end
end
section
open Go Go.RowKit Classical
structure VS (C:fz):Prop where
 ofKey:∀k a,C.alphas.look k=some a->∃A∈C.als,A.b=a
 key:∀A∈C.als,∃k,C.alphas.look k=some A.b
def kN (T:bz)(id:Int):bz:=λi=>if i=id then none else T i
section
variable {S:fe} {I:ep->Prop} {C:fz} {T T0 Tn:bz} {Ta:Nat->bz} {B:Nat->List Int->bz×bz} {Zo:Nat->Prop} {ck:Option Nat} {loc:Loc} {s:Q7} {D:List Int}
theorem N4 {N:Nat} {id:Int} {K:Q7->WM Q7} {Q:Q7->Prop} (hA:VS C)(hN:C.alphas.keys.length<N)(h:Inv S C T Ta B Zo none loc s)
  (ht:∀A∈C.als,∀i,kN (Ta A.b) id i=Tn i) (hg:∀i,kN (Ta C.g) id i=Tn i)
  (hQ:∀s',Inv S C T (λ_=>Tn) B Zo none loc s'->K s' Q):
  (Qr (gNet s C.g) λuM=>
 gP (cq s C.g (PO.net ({uM with facts:=MS.del uM.facts id}))) λs3=>
gP (cq s3 C.g (PO.net ({({uM with facts:=MS.del uM.facts id}:fk)with rows:=({uM with facts:=MS.del uM.facts id}:fk).rows}))) λs7=>
j1 (λ(I9:(Nat×(MS ByteArray Nat)×(List ByteArray)×Q7)->WM Q7) ((ae,ah,ab,aa))=>
 Qr (gNet aa C.g) λWh=>
 eS (Wh.alphas=ah/\Wh.alphasA=ae)<|
 jo Wh.alphas ab (
 K aa
 ) λk16=>(
 Qr (MS.look Wh.alphas k16) λLn=>
 Qr (tX aa Ln) λLo=>
 gP (cq aa Ln (PO.alpha ({Lo with facts:=MS.del Lo.facts id}))) λs8=>
 I9 (Wh.alphasA,Wh.alphas,ab++[k16],s8)
 )
) N ((({uM with facts:=MS.del uM.facts id}:fk).alphasA),(({uM with facts:=MS.del uM.facts id}:fk).alphas),([]:List ByteArray),s7)) Q:=by
  obtain⟨x,g1,g2,g3,g4,g5,g6,g7,g8,g9,_⟩:=h.gNet;refine Qh g1 (lR (lR ?_));rw[r8]
  have h1:=h.setNet (Tb:=Tn) (fm:=x.facts.del id) g2 (MS.nodup_del g9.1) λi=>by
    rw[MS.look_del,<-hg,g9.2];rfl
  refine wQ (λ(b,m,d,σ)=>b=C.alphasA/\m=C.alphas/\d.Nodup/\(∀k∈d,k∈C.alphas.keys)/\∃Tc:Nat->bz,Inv S C T Tc B Zo none loc σ/\Tc C.g=Tn/\(∀A∈C.als,Tc A.b=Tn\/(Tc A.b=Ta A.b/\∀k∈d,C.alphas.look k≠some A.b))) (λ(_,_,d,_)=>C.alphas.keys.length-d.length) ?_ N _ ⟨g8,g7,List.nodup_nil,(λk hk=>by cases hk),_,h1,if_pos rfl,λA ux=>?_⟩ (by show C.alphas.keys.length-0<N;omega)
  · rintro ⟨b,m,d,σ⟩ ag ⟨rfl,rfl,jY,mC,Tc,hi,Yt,Pq⟩ eY;dsimp only at jY mC eY⊢;obtain⟨y,q1,q2,_,_,_,_,q6,q7,_⟩:=hi.gNet;refine Qh q1 ?_;refine fR ⟨q6,q7⟩ ?_;rw[q6];refine OY (λej=>?_) λk hk D4=>?_
    · refine hQ σ (hi.congrTa Yt.symm λA ux=>?_);rcases Pq A ux with e|⟨_,e⟩
      · exact e.symm
      · obtain⟨k,hk⟩:=hA.key A ux;exact absurd hk (e k (ej k (MS.look_iff.2 ⟨_,hk⟩)))
    · obtain⟨a,ha⟩:=MS.look_iff.1 hk;obtain⟨A,pz,rfl⟩:=hA.ofKey k a ha;obtain⟨z,z1,z2,z3,z4,z5⟩:=hi.al A pz;refine Qh ha ?_;refine Qh (VD z1) ?_;refine lR ?_
      have bp:d.length<C.alphas.keys.length:=by
        have:=GV (List.nodup_cons.2 ⟨D4,jY⟩) (l:=C.alphas.keys) (by
          intro j U;rcases List.mem_cons.1 U with rfl|U;· exact hk
          · exact mC j U)
        simp only[List.length_cons]at this;omega
      have hAg:A.b≠C.g:=λe=>by rw[e,q2]at z1;cases z1
      have h2:=hi.setAlpha (Tb:=Tn) (fm:=z.facts.del id) pz z1 (MS.nodup_del z4) λi=>by
        rw[MS.look_del,z5]
        have e2:∀i,Tn i=kN (Tc A.b) id i:=λi=>by
          rcases Pq A pz with e|⟨e,_⟩
          · rw[e];have h5:=ht A pz i;unfold kN at h5⊢;by_cases ei:i=id;· rw[if_pos ei]at h5⊢;exact h5.symm
            · rw[if_neg ei]
          · rw[e,ht A pz i]
        rw[e2];unfold kN;by_cases ei:i=id<;>simp[ei]
      rw[q7];refine eY _ ⟨rfl,rfl,List.nodup_append.2 ⟨jY,ax,λy hy w hw e1=>D4 (by simp at hw;rw[<-hw,<-e1];exact hy)⟩,(λj U=>?_),_,h2,?_,λA' ux=>?_⟩ (by show C.alphas.keys.length-(d++[k]).length<C.alphas.keys.length-d.length;simp only[List.length_append,List.length_cons,List.length_nil];omega)
      · rcases List.mem_append.1 U with U|U;· exact mC j U
        · rw[List.mem_singleton.1 U];exact hk
      · exact(if_neg (Ne.symm hAg)).trans Yt
      · by_cases e:A'.b=A.b;· exact .inl (if_pos e)
        · rcases Pq A' ux with e1|⟨e1,e2⟩
          · exact .inl ((if_neg e).trans e1)
          · refine .inr ⟨(if_neg e).trans e1,λj U zO=>?_⟩;rcases List.mem_append.1 U with U|U;· exact e2 j U zO
            · rw[List.mem_singleton.1 U,ha]at zO;exact e (Option.some.inj zO).symm
  · refine .inr ⟨if_neg λe=>?_,λk hk=>by cases hk⟩;obtain⟨z,z1,_⟩:=h.al A ux;rw[e,g2]at z1;cases z1
end
end
section
open Go Go.RowKit Classical
def iF (T:bz)(f:Qq):bz:=λi=>if i=f.id then some f else T i
section
variable {S:fe} {I:ep->Prop} {C:fz} {T T0 Tn:bz} {B:Nat->List Int->bz×bz} {Zo:Nat->Prop} {ck:Option Nat} {loc:Loc} {s:Q7} {D:List Int}
theorem MJ {N:Nat} {f:Qq} {K:Q7->WM Q7} {Q:Q7->Prop} (hA:VS C)(hN:C.alphas.keys.length<N)(LY:T0 f.id=none)(Yp:∀A∈C.als,A.args.length<N/\A.args.length<9223372036854775807/\(f.ty=A.kind->∀(j:Nat)(a:fl),A.args[j]? =some a->∃v,f.args[j]? =some v))
  (h:Inv S C T (λ_=>T0) B Zo none loc s) (hQ:∀s',Inv S C T (λ_=>iF T0 f) B Zo none loc s'->K s' Q):
  (Qr (gNet s C.g) λuM=>
 gP (cq s C.g (PO.net ({uM with facts:=MS.put uM.facts f.id (⟨f.id,f.ty,f.args⟩:Qq)}))) λs3=>
gP (cq s3 C.g (PO.net ({({uM with facts:=MS.put uM.facts f.id (⟨f.id,f.ty,f.args⟩:Qq)}:fk)with rows:=({uM with facts:=MS.put uM.facts f.id (⟨f.id,f.ty,f.args⟩:Qq)}:fk).rows}))) λs7=>
j1 (λ(I9:(Nat×(MS ByteArray Nat)×(List ByteArray)×Q7)->WM Q7) ((ae,ah,ab,aa))=>
 Qr (gNet aa C.g) λLn=>
 eS (Ln.alphas=ah/\Ln.alphasA=ae)<|
 jo Ln.alphas ab (
 K aa
 ) λk18=>(
 Qr (MS.look Ln.alphas k18) λx20=>
 eG (Md N x20 f.id f.ty f.args aa) λv24=>
 ff (v24) (
  Qr (tX aa x20) λLo=>
  gP (cq aa x20 (PO.alpha ({Lo with facts:=MS.put Lo.facts f.id (⟨f.id,f.ty,f.args⟩:Qq)}))) λs8=>
  I9 (Ln.alphasA,Ln.alphas,ab++[k18],s8)
 ) (
  I9 (Ln.alphasA,Ln.alphas,ab++[k18],aa)
 )
 )
) N ((({uM with facts:=MS.put uM.facts f.id (⟨f.id,f.ty,f.args⟩:Qq)}:fk).alphasA),(({uM with facts:=MS.put uM.facts f.id (⟨f.id,f.ty,f.args⟩:Qq)}:fk).alphas),([]:List ByteArray),s7)) Q:=by
  obtain⟨x,g1,g2,g3,g4,g5,g6,g7,g8,g9,_⟩:=h.gNet;refine Qh g1 (lR (lR ?_));rw[r8]
  have h1:=h.setNet (Tb:=iF T0 f) (fm:=x.facts.put f.id ⟨f.id,f.ty,f.args⟩) g2 (MS.nodup_put g9.1) λi=>by
    rw[MS.look_put,g9.2];rfl
  refine wQ (λ(b,m,d,σ)=>b=C.alphasA/\m=C.alphas/\d.Nodup/\(∀k∈d,k∈C.alphas.keys)/\∃Tc:Nat->bz,Inv S C T Tc B Zo none loc σ/\Tc C.g=iF T0 f/\(∀A∈C.als,Tc A.b=iF T0 f\/(Tc A.b=T0/\∀k∈d,C.alphas.look k≠some A.b))) (λ(_,_,d,_)=>C.alphas.keys.length-d.length) ?_ N _ ⟨g8,g7,List.nodup_nil,(λk hk=>by cases hk),_,h1,if_pos rfl,λA ux=>?_⟩ (by show C.alphas.keys.length-0<N;omega)
  · rintro ⟨b,m,d,σ⟩ ag ⟨rfl,rfl,jY,mC,Tc,hi,Yt,Pq⟩ eY;dsimp only at jY mC eY⊢;obtain⟨y,q1,q2,_,_,_,_,q6,q7,_⟩:=hi.gNet;refine Qh q1 ?_;refine fR ⟨q6,q7⟩ ?_;rw[q6];refine OY (λej=>?_) λk hk D4=>?_
    · refine hQ σ (hi.congrTa Yt.symm λA ux=>?_);rcases Pq A ux with e|⟨_,e⟩
      · exact e.symm
      · obtain⟨k,hk⟩:=hA.key A ux;exact absurd hk (e k (ej k (MS.look_iff.2 ⟨_,hk⟩)))
    · obtain ⟨a,ha⟩:=MS.look_iff.1 hk;obtain⟨A,pz,rfl⟩:=hA.ofKey k a ha;obtain⟨z,z1,z2,z3,z4,z5⟩:=hi.al A pz;obtain⟨r1,r2,r3⟩:=Yp A pz;refine Qh ha ?_;refine QR ?_
      have bp:d.length<C.alphas.keys.length:=by
        have:=GV (List.nodup_cons.2 ⟨D4,jY⟩) (l:=C.alphas.keys) (by
          intro j U;rcases List.mem_cons.1 U with rfl|U;· exact hk
          · exact mC j U)
        simp only[List.length_cons]at this;omega
      have hAg:A.b≠C.g:=λe=>by rw[e,q2]at z1;cases z1
      rw[q7]
      have next:∀DV,Inv S C T (λb=>if b=A.b then iF T0 f else Tc b) B Zo none loc DV->ag (C.alphasA,C.alphas,d++[k],DV) Q:=λDV h2=>by
        refine eY _ ⟨rfl,rfl,List.nodup_append.2 ⟨jY,ax,λy hy w hw e1=>D4 (by simp at hw;rw[<-hw,<-e1];exact hy)⟩,(λj U=>?_),_,h2,?_,λA' ux=>?_⟩ (by show C.alphas.keys.length-(d++[k]).length<C.alphas.keys.length-d.length;simp only[List.length_append,List.length_cons,List.length_nil];omega)
        · rcases List.mem_append.1 U with U|U;· exact mC j U
          · rw[List.mem_singleton.1 U];exact hk
        · exact(if_neg (Ne.symm hAg)).trans Yt
        · by_cases e:A'.b=A.b;· exact .inl (if_pos e)
          · rcases Pq A' ux with e1|⟨e1,e2⟩
            · exact .inl ((if_neg e).trans e1)
            · refine .inr ⟨(if_neg e).trans e1,λj U zO=>?_⟩;rcases List.mem_append.1 U with U|U;· exact e2 j U zO
              · rw[List.mem_singleton.1 U,ha]at zO;exact e (Option.some.inj zO).symm
      have same:∀i,i≠f.id->Tc A.b i=T0 i:=λi ei=>by
        rcases Pq A pz with e|⟨e,_⟩
        · rw[e];exact if_neg ei
        · rw[e]
      refine Jo (hi.al A pz) r1 r2 r3 ?_;refine ig (λhb=>?_) (λhb=>?_)
      · refine Qh (VD z1) ?_;refine lR ?_;refine next _ (hi.setAlpha (Tb:=iF T0 f) (fm:=z.facts.put f.id ⟨f.id,f.ty,f.args⟩) pz z1 (MS.nodup_put z4) λi=>?_)
        rw[MS.look_put,z5];unfold iF;by_cases ei:i=f.id
        · rw[if_pos ei,if_pos ei];simp only[Option.filter,hb,if_true]
        · rw[if_neg ei,if_neg ei,same i ei]
      · refine next σ ?_
        have:=hi.setAlpha (Tb:=iF T0 f) (fm:=z.facts) pz z1 z4 λi=>by
          rw[z5];unfold iF;by_cases ei:i=f.id
          · rw[if_pos ei,ei];rcases Pq A pz with e|⟨e,_⟩
            · rw[e];unfold iF;rw[if_pos rfl]
            · rw[e,LY];simp[Option.filter,hb]
          · rw[if_neg ei,same i ei]
        rwa [tI z1]at this
  · refine .inr ⟨if_neg λe=>?_,λk hk=>by cases hk⟩;obtain⟨z,z1,_⟩:=h.al A ux;rw[e,g2]at z1;cases z1
end
end
section
open Go Go.RowKit Classical
section
variable {S:fe} {I:ep->Prop} {C:fz} {T T0:bz} {loc:Loc} {s:Q7} {D:List Int}
theorem kT {id:Int} (hT:T id=none)(hid:id≠0):∀{π:List Int} {l:List eL} {e U:ep},fE S T l e π=some U->id∉π
 |[],l,e,U,_=>ax
 |i::π,[],e,U,h=>by cases h
 | i ::π,sc::l,e,U,h=>by
   simp only[fE]at h;cases h1:fU S T sc e i with
   |none=>rw[h1]at h;cases h
   | some e1=>
     rw[h1]at h;have ih:=kT hT hid h;intro hm;rcases List.mem_cons.1 hm with e2|e2
     ·subst e2;unfold fU at h1;cases bw:sc.st with
      |join a=>rw[bw]at h1;simp only[hT]at h1;cases h1
      |nt a=>rw[bw]at h1;simp only[if_neg hid]at h1;cases h1
      |test a=>rw[bw]at h1;simp only[hid,false_and,if_false]at h1;cases h1
     · exact ih e2
theorem Jh {N:Nat} {id:Int} {Q:Q7->Prop} (hW:nZ C)(hA:VS C)(hT:il (kN T0 id) D)(hD:D.length<=3518437208882)(hlen:C.rows.length<=9223372036854775806)(hsl:∀R∈C.rows,R.steps.length<9223372036854775807/\B0+D.length+R.steps.length+R.steps.length+4099<N)(hAN:C.alphas.keys.length<N)(cn:∀R∈C.rows,∀sc∈R.steps,wE S I C (kN T0 id) sc)(hI:∀R∈C.rows,∀π e,fE S (kN T0 id) R.steps (R.hs,R.vs) π=some e->I e)(Ys:4099<N)(hid:id≠0)
  (h:Inv S C T0 (λ_=>T0) (λ_ _=>(T0,T0)) (λ_=>False) none loc s) (hP:∀(r:Nat) (R:eO) (π:List Int),C.rows[r]? =some R->fI S (kN T0 id) R.steps (R.hs,R.vs) π≠none->(∀k,¬HB S (kN T0 id) T0 id R π k)->∃y,loc y=some (r,π))
  (hQ:∀U s',Inv S C (kN T0 id) (λ_=>kN T0 id) (λ_ _=>(kN T0 id,kN T0 id)) (λ_=>False) none U s'->(∀y r π,loc y=some (r,π)->id∉π->U y=some (r,π))->(pX U->wu S C (kN T0 id) U)->Q s'):Vp N C.g id s Q:=by
 unfold Vp;refine N4 (K:=λj=>eG (E4 (λlH lG=>Vg N lH id lG) C.g j) λs5=>eG (E4 (λlH lG=>Vh N lH id lG) C.g s5) λs6=>eF s6) (Tn:=kN T0 id) hA hAN h (λ_ _ _=>rfl) (λ_=>rfl) λs3 h3=>?_
 refine QR ?_;refine N5 (M:=4097) hW hlen (λR hR=>⟨(hsl R hR).1,by have:=(hsl R hR).2;omega⟩) an hid h3 h3.le λcz s1 h4 iU=>?_;refine QR ?_
 have h5:=h4.congrT (T':=kN T0 id) (λp r π R e hp hr he=>by
  have hn:id∉π:=((iU p (r,π)).1 hp).2;exact(zp (T:=T0) (T':=kN T0 id) (id:=id) (λi hi=>if_neg hi) hn).trans he)
 refine N6 (I:=I) hW hT hD hlen (λR hR=>⟨(hsl R hR).1,by have:=(hsl R hR).2;omega⟩) Ys cn hI (if_pos rfl) (λi hi=>(if_neg hi).symm) h5 (λr R π hr hi hb=>?_) λU s' g1 g2 g3=>hQ U s' g1 (λy r π hy hn=>g2 _ _ ((iU y _).2 ⟨hy,hn⟩)) g3;obtain⟨y,hy⟩:=hP r R π hr hi hb;obtain⟨e,he⟩:=Option.ne_none_iff_exists'.1 hi;exact⟨y,(iU y _).2 ⟨hy,kT (T:=kN T0 id) (if_pos rfl) hid (LH he)⟩⟩
end
end
section
open Go Go.RowKit Classical
section
variable {S:fe} {I:ep->Prop} {C:fz} {T T0:bz} {loc:Loc} {s:Q7} {D:List Int}
theorem NW {f:Qq} {R:eO} {π:List Int} (hf:T f.id=some f)(hi:fI S T R.steps (R.hs,R.vs) π≠none):∀k,¬Fq S T f R π k:=λk ⟨e1,sc,a,e,e2,e3,e4,e5⟩=>by
 have U:fI S T R.steps (R.hs,R.vs) (π.take k++π.drop k)≠none:=by rw[List.take_append_drop];exact hi
 rw[OW]at U;cases ft:fI S T R.steps (R.hs,R.vs) (π.take k)with
 |none=>rw[ft]at U;exact U rfl
 | some e'=>
   have YD:e'=e:=by have:=LH ft;rw[e4]at this;exact(Option.some.inj this).symm
   subst YD;have hl:(π.take k).length=k:=by simp;omega
   rw[ft,Option.bind_some,hl,OP e2,List.drop_eq_getElem_cons e1]at U;simp only[fI,iV,e3]at U;rw[if_neg (λhh=>hh.2 f.id ⟨f,hf,e5⟩)]at U;exact U rfl
theorem Io {N:Nat} {f:Qq} {Q:Q7->Prop} (hW:nZ C)(hA:VS C)(hT:il (iF T0 f) D)(hD:D.length<=3518437208882)(hlen:C.rows.length<=9223372036854775806)(hsl:∀R∈C.rows,R.steps.length<9223372036854775807/\B0+D.length+R.steps.length+R.steps.length+4099<N)(hAN:C.alphas.keys.length<N)(cn:∀R∈C.rows,∀sc∈R.steps,wE S I C (iF T0 f) sc)(hI:∀R∈C.rows,∀π e,fE S (iF T0 f) R.steps (R.hs,R.vs) π=some e->I e)(hN0:B0+4099<N)(hid:f.id≠0)(LY:T0 f.id=none)
  (Yp:∀A∈C.als,A.args.length<N/\A.args.length<9223372036854775807/\(f.ty=A.kind->∀(j:Nat) (a:fl),A.args[j]? =some a->∃v,f.args[j]? =some v))
  (h:Inv S C T0 (λ_=>T0) (λ_ _=>(T0,T0)) (λ_=>False) none loc s) (hP:∀(r:Nat) (R:eO) (π:List Int),C.rows[r]? =some R->fI S (iF T0 f) R.steps (R.hs,R.vs) π≠none->f.id∉π->∃y,loc y=some (r,π))
  (hQ:∀bf s',Inv S C (iF T0 f) (λ_=>iF T0 f) (λ_ _=>(iF T0 f,iF T0 f)) (λ_=>False) none bf s'->(∀y r π,loc y=some (r,π)->(¬∃R k,C.rows[r]? =some R/\Fq S (iF T0 f) f R π k)->bf y=some (r,π))->(pX bf->wu S C (iF T0 f) bf)->Q s'):Rt N C.g f.id f.ty f.args s Q:=by
 have hf:iF T0 f f.id=some f:=if_pos rfl
 have gI:xa T0 (iF T0 f):=λi g hg=>by
  unfold iF;rw[if_neg (λe=>by rw[e,LY]at hg;cases hg)];exact hg
 have h1:=h.congrT (T':=iF T0 f) (λp r π R e _ _ he=>rZ gI he)
 have Nv:∀y r π,loc y=some (r,π)->f.id∉π:=λy r π hy=>by
  obtain⟨R,x,_,_,a3⟩:=h.part y r π hy;exact kT LY hid a3.env
 unfold Rt;refine MJ (K:=λj=>eG (E4 (λlH lG=>Ve N lH f.id f.ty f.args lG) C.g j) λs5=>eG (E4 (λlH lG=>Vf N lH f.id f.ty f.args lG) C.g s5) λs6=>eF s6) hA hAN LY Yp h1 λs3 h3=>?_
 refine QR ?_;refine ML (I:=I) hW hlen (λR U=>⟨(hsl R U).1,by have:=(hsl R U).2;omega⟩) an cn hI Yp hf LY (λi hi=>(if_neg hi).symm) h3 λcz s1 h4 iU=>?_;refine QR ?_;refine MM (I:=I) hW hT hD hlen (λR U=>⟨(hsl R U).1,by have:=(hsl R U).2;omega⟩) an cn hI Yp hf hid h4 (λy r π hy=>Nv y r π ((iU y r π).1 hy).1) (λr R π hr hi hn=>?_) λeo s2 h5 ic _ hc=>hQ eo s2 h5 (λy r π hy mF=>ic _ _ ((iU y r π).2 ⟨hy,mF⟩)) hc;obtain⟨y,hy⟩:=hP r R π hr hi hn;refine⟨y,(iU y r π).2 ⟨hy,λ⟨R',k,e1,e2⟩=>?_⟩⟩;rw[hr]at e1;cases e1;exact NW hf hi k e2
end
end
section
open Go Go.RowKit
structure E7 where
 mt:Qv->List Bool->List V->Qq->Option (List Bool×List V)
 ev:Qv->List V->Bool
 sm:Qv->List Bool->List V->Bool
section
variable (S:E7) (facts:List Qq)
def goN:List Qv->List Bool->List V->List Int->List (List Int×List V)
 |[],_,vs,ids=>[(ids,vs)]
 | c::cs,hs,vs,ids=>
   if c.kind=3 then(if S.ev c vs then goN cs hs vs ids else[])
   else if c.kind=2 then(if S.sm c hs vs then[]else goN cs hs vs ids)
   else facts.flatMap λf=>match S.mt c hs vs f with
    |some p=>goN cs p.1 p.2 (ids++[f.id])
    |none=>[]
def Cl:List Qv->List Bool->List V->Nat
 |[],_,_=>0
 | c::cs,hs,vs=>
   if c.kind=3 then(if S.ev c vs then 1+Cl cs hs vs else 0)
   else if c.kind=2 then(if S.sm c hs vs then 0 else 1+Cl cs hs vs)
   else (facts.map λf=>match S.mt c hs vs f with
    |some p=>1+Cl cs p.1 p.2
    |none=>0).sum
def ZP (c:Qv)(cs:List Qv)(hs:List Bool)(vs:List V)(ids:List Int)(f:Qq):List (List Int×List V):=match S.mt c hs vs f with
 |some p=>goN S facts cs p.1 p.2 (ids++[f.id])
 |none=>[]
def XV (c:Qv)(cs:List Qv)(hs:List Bool)(vs:List V)(f:Qq):Nat:=match S.mt c hs vs f with
 |some p=>1+Cl S facts cs p.1 p.2
 |none=>0
end
def R1 (r:Int)(x:List Int×List V):QB:=⟨r,x.1⟩
section
variable {S:E7} {facts:List Qq} {c:Qv} {cs:List Qv} {hs:List Bool} {vs:List V} {ids:List Int}
theorem XY (h:c.kind=3):Cl S facts (c::cs) hs vs=if S.ev c vs then 1+Cl S facts cs hs vs else 0:=by rw[Cl,if_pos h]
theorem XX (U:¬c.kind=3)(h:c.kind=2):Cl S facts (c::cs) hs vs=if S.sm c hs vs then 0 else 1+Cl S facts cs hs vs:=by rw[Cl,if_neg U,if_pos h]
theorem XW (U:¬c.kind=3)(h:¬c.kind=2):Cl S facts (c::cs) hs vs=(facts.map (XV S facts c cs hs vs)).sum:=by rw[Cl,if_neg U,if_neg h];rfl
theorem go3 (h:c.kind=3):goN S facts (c::cs) hs vs ids=if S.ev c vs then goN S facts cs hs vs ids else[]:=by rw[goN,if_pos h]
theorem go2 (U:¬c.kind=3)(h:c.kind=2):goN S facts (c::cs) hs vs ids=if S.sm c hs vs then[]else goN S facts cs hs vs ids:=by rw[goN,if_neg U,if_pos h]
theorem go1 (U:¬c.kind=3)(h:¬c.kind=2):goN S facts (c::cs) hs vs ids=facts.flatMap (ZP S facts c cs hs vs ids):=by rw[goN,if_neg U,if_neg h];rfl
end
end
section
open Go Go.RowKit Classical
def eE (facts:List Qq):bz:=λi=>facts.find? λf=>decide (f.id=i)
theorem Fu {facts:List Qq} (hn:(facts.map (·.id)).Nodup) {i:Int} {f:Qq}:eE facts i=some f↔f∈facts/\f.id=i:=by
 unfold eE;induction facts with
 |nil=>simp
 | cons g l ih=>
   rw[List.map_cons,List.nodup_cons]at hn;rw[List.find?_cons];by_cases hg:g.id=i
   ·rw [decide_eq_true hg];constructor;· intro h;cases h;exact⟨List.mem_cons_self,hg⟩
    ·rintro⟨h1,U⟩;rcases List.mem_cons.1 h1 with rfl|h1;· rfl
     · exact absurd (List.mem_map.2 ⟨f,h1,by rw[U,hg]⟩) hn.1
   ·rw [decide_eq_false hg];show l.find? _=some f↔_;rw[ih hn.2];constructor;· rintro⟨h1,U⟩;exact⟨List.mem_cons_of_mem _ h1,U⟩
    ·rintro⟨h1,U⟩;rcases List.mem_cons.1 h1 with rfl|h1;· exact absurd U hg
     · exact⟨h1,U⟩
theorem DI {facts:List Qq} {i:Int}:eE facts i=none↔∀f∈facts,f.id≠i:=by
 unfold eE;rw[List.find?_eq_none];simp
def nB (S:fe)(facts:List Qq):E7:=⟨S.mt,S.ev,λc hs vs=>facts.any λf=>(S.mt c hs vs f).isSome⟩
def FA (sc:eL):Prop:=match sc.st with
 | .join _=>sc.c.kind=1
 | .nt _=>sc.c.kind=2
 | .test _=>sc.c.kind=3
def E3 (facts:List Qq)(sc:eL):List Int:=match sc.st with
 | .join _=>facts.map (·.id)
 | .nt _=>[0]
 | .test _=>[0]
noncomputable section
def qO (S:fe)(facts:List Qq):List eL->ep->List (List Int)
 |[],_=>[]
 | sc::l,e=>(E3 facts sc).flatMap λi=>match iV S (eE facts) sc e i with
   |some U=>[i]::(qO S facts l U).map λπ=>i::π
   |none=>[]
def uK (S:fe)(facts:List Qq):List eL->ep->List (List Int)
 |[],_=>[[]]
 | sc::l,e=>(E3 facts sc).flatMap λi=>match iV S (eE facts) sc e i with
   |some U=>(uK S facts l U).map λπ=>i::π
   |none=>[]
end
section
variable {S:fe} {facts:List Qq}
theorem Ax (hn:(facts.map (·.id)).Nodup) {sc:eL} {e e':ep} {i:Int} (h:iV S (eE facts) sc e i=some e'):i∈E3 facts sc:=by
 unfold iV at h;unfold E3;cases bw:sc.st with
 | join a=>
   rw[bw]at h;simp only at h⊢;cases hT:eE facts i with
   |none=>rw[hT]at h;cases h
   | some f=>
     obtain⟨h1,h2⟩:=(Fu hn).1 hT;exact List.mem_map.2 ⟨f,h1,h2⟩
 | nt a=>
   rw[bw]at h;simp only at h⊢;split at h;· rename_i U;rw[U.1];simp
   · cases h
 | test a=>
   rw[bw]at h;simp only at h⊢;split at h;· rename_i U;rw[U.1];simp
   · cases h
theorem jD (hn:(facts.map (·.id)).Nodup):∀{l:List eL} {e:ep} {π:List Int},π∈qO S facts l e↔π≠[]/\fI S (eE facts) l e π≠none
 |[],e,[]=>by simp[qO]
 |[],e,i::π=>by simp[qO,fI]
 | sc::l,e,[]=>by
   simp only[qO,List.mem_flatMap,ne_eq,not_true_eq_false,false_and,iff_false,not_exists,not_and];intro i _ h;split at h
   ·rcases List.mem_cons.1 h with h|h;· cases h
    · obtain⟨_,_,h⟩:=List.mem_map.1 h;cases h
   · cases h
 | sc ::l,e,i::π=>by
   simp only[qO,List.mem_flatMap,fI];constructor
   ·rintro⟨j,_,h⟩;cases U:iV S (eE facts) sc e j with
    |none=>rw[U]at h;cases h
    | some e'=>
      rw[U]at h;simp only at h;rcases List.mem_cons.1 h with h|h
      ·cases h;rw[U];refine⟨ax,?_⟩;cases l<;>simp[fI]
      ·obtain⟨ρ,h1,h2⟩:=List.mem_map.1 h;cases h2;rw[U];exact⟨ax,((jD hn).1 h1).2⟩
   ·rintro⟨_,h⟩;cases U:iV S (eE facts) sc e i with
    |none=>rw[U]at h;exact absurd rfl h
    | some e'=>
      rw[U]at h;refine⟨i,Ax hn U,?_⟩;rw[U];simp only;by_cases hp:π=[]
      · subst hp;simp
      · exact List.mem_cons_of_mem _ (List.mem_map.2 ⟨π,(jD hn).2 ⟨hp,h⟩,rfl⟩)
theorem RV (hn:(facts.map (·.id)).Nodup):∀{l:List eL} {e:ep} {π:List Int},π∈uK S facts l e↔π.length=l.length/\fI S (eE facts) l e π≠none
 |[],e,[]=>by simp[uK,fI]
 |[],e,i::π=>by simp[uK]
 | sc::l,e,[]=>by
   simp only[uK,List.mem_flatMap,List.length_nil,List.length_cons];constructor
   ·rintro⟨i,_,h⟩;split at h;· obtain⟨_,_,h⟩:=List.mem_map.1 h;cases h
    · cases h
   · rintro⟨h,_⟩;cases h
 | sc ::l,e,i::π=>by
   simp only[uK,List.mem_flatMap,fI,List.length_cons,Nat.add_right_cancel_iff];constructor
   ·rintro⟨j,_,h⟩;cases U:iV S (eE facts) sc e j with
    |none=>rw[U]at h;cases h
    | some e'=>
      rw[U]at h;obtain⟨ρ,h1,h2⟩:=List.mem_map.1 h;cases h2;rw[U];exact(RV hn).1 h1
   ·rintro⟨h0,h⟩;cases U:iV S (eE facts) sc e i with
    |none=>rw[U]at h;exact absurd rfl h
    | some e'=>
      rw[U]at h;refine⟨i,Ax hn U,?_⟩;rw[U];exact List.mem_map.2 ⟨π,(RV hn).2 ⟨h0,h⟩,rfl⟩
theorem zi (U:(facts.map (·.id)).Nodup)(sc:eL):(E3 facts sc).Nodup:=by
 unfold E3;split;· exact U
 · simp
 · simp
theorem uD {i:Int} {L:List (List Int)} (h:L.Nodup):(L.map λπ=>i::π).Nodup:=by
 refine List.Pairwise.map _ (λa b U=>?_) h;intro e;exact U (List.cons.inj e).2
theorem vv (hn:(facts.map (·.id)).Nodup):∀{l:List eL} {e:ep},(qO S facts l e).Nodup
 |[],e=>by simp[qO]
 | sc ::l,e=>by
   unfold qO;refine List.pairwise_flatMap.2 ⟨λi _=>?_,List.Pairwise.imp (λBX=>?_) (zi hn sc)⟩
   ·cases hj:iV S (eE facts) sc e i with
    |none=>exact List.Pairwise.nil
    | some e'=>
      simp only;refine List.nodup_cons.2 ⟨λh=>?_,uD (vv hn)⟩;obtain⟨ρ,h1,h2⟩:=List.mem_map.1 h;cases h2;exact((jD hn).1 h1).1 rfl
   ·rename_i i j
    have hd:∀k x,(x∈match iV S (eE facts) sc e k with|some e'=>[k]::(qO S facts l e').map (λπ=>k::π)|none=>[])->x.head? =some k:=λk x U=>by
      split at U
      ·rcases List.mem_cons.1 U with rfl|U;· rfl
       · obtain⟨ρ,_,rfl⟩:=List.mem_map.1 U;rfl
      · cases U
    intro x U y hy Ht;have h1:=hd i x U;have h2:=hd j y hy;rw[Ht,h2]at h1;exact BX (Option.some.inj h1).symm
theorem Ed (U:(facts.map (·.id)).Nodup) {sc:eL} {e:ep}:(∀j,¬jx S sc e (eE facts) j)↔(facts.any λf=>(S.mt sc.c e.1 e.2 f).isSome)=false:=by
 rw[List.any_eq_false];constructor
 ·intro h f hf hs;exact h f.id ⟨f,(Fu U).2 ⟨hf,rfl⟩,hs⟩
 ·rintro h j ⟨f,h1,h2⟩;exact h f ((Fu U).1 h1).1 h2
theorem Ay (hn:(facts.map (·.id)).Nodup) {sc:eL} {e:ep} {a:Nat} (U:sc.st=.join a) {f:Qq} (hf:f∈facts):iV S (eE facts) sc e f.id=S.mt sc.c e.1 e.2 f:=by
 unfold iV;rw[U];simp only;rw[(Fu hn).2 ⟨hf,rfl⟩];rfl
theorem K7 (U:(facts.map (·.id)).Nodup) {sc:eL} {e:ep} {a:Nat} (bw:sc.st=.nt a):iV S (eE facts) sc e 0=if(facts.any λf=>(S.mt sc.c e.1 e.2 f).isSome)=true then none else some e:=by
 unfold iV;rw[bw];simp only;cases hx:(facts.any λf=>(S.mt sc.c e.1 e.2 f).isSome)with
 |false=>rw[if_pos ⟨ax,(Ed U).2 hx⟩,if_neg ax]
 |true=>rw[if_neg (λh=>by have:=(Ed U).1 h.2;rw[hx]at this;cases this),if_pos rfl]
theorem Az {sc:eL} {e:ep} {a:Nat} {T:bz} (U:sc.st=.test a):iV S T sc e 0=if S.ev sc.c e.2=true then some e else none:=by
 unfold iV;rw[U];simp only;cases S.ev sc.c e.2 with
 |false=>rw[if_neg ax,if_neg ax]
 |true=>rw[if_pos ⟨ax,ax⟩,if_pos rfl]
theorem Qbz {α β:Type}:∀{l:List α} {g h:α->List β},(∀x∈l,g x=h x)->l.flatMap g=l.flatMap h
 |[],_,_,_=>rfl
 |x::l,g,h,U=>by rw[List.flatMap_cons,List.flatMap_cons,U x List.mem_cons_self,Qbz λy hy=>U y (List.mem_cons_of_mem _ hy)]
theorem Ez (hn:(facts.map (·.id)).Nodup):∀{l:List eL} {e:ep},(∀sc∈l,FA sc)->(qO S facts l e).length=Cl (nB S facts) facts (l.map (·.c)) e.1 e.2
 |[],e,_=>by simp[qO,Cl]
 | sc::l,e,hk=>by
   have ih:=λe'=>Ez hn (l:=l) (e:=e') λs hs=>hk s (List.mem_cons_of_mem _ hs);have U:=hk sc List.mem_cons_self;unfold FA at U;rw[qO,List.length_flatMap,List.map_cons];cases bw:sc.st with
   | join a=>
     rw[bw]at U;simp only at U;rw[XW an an];unfold E3;rw[bw];simp only[List.map_map];congr 1;refine List.map_congr_left λf hf=>?_
     simp only[Function.comp_apply];rw[Ay hn bw hf];unfold XV nB;simp only;cases hm:S.mt sc.c e.1 e.2 f with
     |none=>rfl
     | some p=>
       simp only[List.length_cons,List.length_map];have:=ih p;unfold nB at this;omega
   | nt a=>
     rw[bw]at U;simp only at U;rw[XX an U];unfold E3;rw[bw];simp only[List.map_cons,List.map_nil,List.sum_cons,List.sum_nil,Nat.add_zero];rw[K7 hn bw];show _=if(facts.any λf=>(S.mt sc.c e.1 e.2 f).isSome)=true then _ else _
     by_cases hb:(facts.any λf=>(S.mt sc.c e.1 e.2 f).isSome)=true;· rw[if_pos hb,if_pos hb];rfl
     · rw[if_neg hb,if_neg hb];simp only[List.length_cons,List.length_map];have:=ih e;omega
   | test a=>
     rw[bw]at U;simp only at U;rw[XY U];unfold E3;rw[bw];simp only[List.map_cons,List.map_nil,List.sum_cons,List.sum_nil,Nat.add_zero];rw[Az bw];show _=if S.ev sc.c e.2=true then _ else _
     by_cases hb:S.ev sc.c e.2=true
     · rw[if_pos hb,if_pos hb];simp only[List.length_cons,List.length_map];have:=ih e;omega
     · rw[if_neg hb,if_neg hb];rfl
theorem Ep (hn:(facts.map (·.id)).Nodup)(gH:∀f∈facts,0<f.id):∀{l:List eL} {e:ep} {ids:List Int},(∀sc∈l,FA sc)->(goN (nB S facts) facts (l.map (·.c)) e.1 e.2 ids).map (·.1)=(uK S facts l e).map λπ=>ids++π.filter λi=>decide (0<i)
 |[],e,ids,_=>by simp[uK,goN]
 | sc::l,e,ids,hk=>by
   have ih:=λe' a0X=>Ep hn gH (l:=l) (e:=e') (ids:=a0X) λs hs=>hk s (List.mem_cons_of_mem _ hs);have U:=hk sc List.mem_cons_self;unfold FA at U;rw[uK,List.map_cons];cases bw:sc.st with
   | join a=>
     rw[bw]at U;simp only at U;rw[go1 an an];unfold E3;rw[bw];simp only[List.map_flatMap,List.flatMap_map];refine Qbz λf hf=>?_
     rw[Ay hn bw hf];unfold ZP;show List.map _ (match S.mt sc.c e.1 e.2 f with|some p=>_|none=>_)=_;cases hm:S.mt sc.c e.1 e.2 f with
     |none=>rfl
     | some p=>
       simp only[ih p (ids++[f.id]),List.map_map];refine List.map_congr_left λπ _=>?_
       simp only[Function.comp_apply];rw[List.filter_cons_of_pos (cw (gH f hf))];simp
   | nt a=>
     rw[bw]at U;simp only at U;rw[go2 an U];unfold E3;rw[bw];simp only[List.flatMap_cons,List.flatMap_nil,List.append_nil];rw[K7 hn bw];show List.map _ (if(facts.any λf=>(S.mt sc.c e.1 e.2 f).isSome)=true then _ else _)=_;by_cases hb:(facts.any λf=>(S.mt sc.c e.1 e.2 f).isSome)=true;· rw[if_pos hb,if_pos hb];rfl
     · rw[if_neg hb,if_neg hb];simp only[ih e ids,List.map_map];refine List.map_congr_left λπ _=>?_
       simp only[Function.comp_apply];rw[List.filter_cons_of_neg ax]
   | test a=>
     rw[bw]at U;simp only at U;rw[go3 U];unfold E3;rw[bw];simp only[List.flatMap_cons,List.flatMap_nil,List.append_nil];rw[Az bw];show List.map _ (if S.ev sc.c e.2=true then _ else _)=_;by_cases hb:S.ev sc.c e.2=true
     · rw[if_pos hb,if_pos hb];simp only[ih e ids,List.map_map];refine List.map_congr_left λπ _=>?_
       simp only[Function.comp_apply];rw[List.filter_cons_of_neg ax]
     · rw[if_neg hb,if_neg hb];rfl
end
end
section
open Go Go.RowKit Classical
section
variable {S:fe} {C:fz} {T:bz} {Ta:Nat->bz} {Zo:Nat->Prop} {ck:Option Nat} {loc:Loc} {s:Q7} {facts:List Qq}
theorem Inv.sound (h:Inv S C T Ta (λ_ _=>(T,T)) Zo ck loc s) {r:Nat} {R:eO} (hr:C.rows[r]? =some R):∀(n:Nat)(π:List Int)(p:Nat),π.length=n->loc p=some (r,π)->fI S T R.steps (R.hs,R.vs) π≠none:=by
 intro n;induction n with
 | zero=>
   intro π p hn hp;rw[List.length_eq_zero_iff.1 hn];cases R.steps<;>simp[fI]
 | succ n ih=>
   intro π p hn hp;rcases List.eq_nil_or_concat π with e|⟨ρ,i,e⟩
   · subst e;cases hn
   ·have e:π=ρ++[i]:=by simpa using e
    subst e;obtain⟨R',x,a1,_,a3⟩:=h.part p r _ hp;rw[hr]at a1;cases a1;obtain⟨_,q,_,hq⟩:=a3.up ρ i rfl;have PG:=ih ρ q (cw hn) hq;obtain⟨e',Et⟩:=Option.ne_none_iff_exists'.1 PG;obtain⟨R',z,b1,_,b3⟩:=h.part q r ρ hq;rw[hr]at b1;cases b1;have YD:e'=(z.has,z.vals):=by have:=LH Et;rw[b3.env]at this;exact(Option.some.inj this).symm
    have U:=a3.env;rw[Xr,b3.env,Option.bind_some]at U;cases ez:R.steps[ρ.length]? with
    |none=>rw[ez]at U;cases U
    | some sc=>
      rw[ez,Option.bind_some]at U;rw[OW,Et,Option.bind_some,List.drop_eq_getElem_cons (List.getElem?_eq_some_iff.1 ez).1,(List.getElem?_eq_some_iff.1 ez).2]
      have cn:iV S T sc e' i=some (x.has,x.vals):=by
       rw[YD];unfold fU at U;unfold iV;cases bw:sc.st with
       |join a=>rw[bw]at U;exact U
       | nt a=>
         rw[bw]at U;simp only at U⊢;split at U
         ·rename_i hi;rw[if_pos ⟨hi,b3.free sc a ez bw ⟨p,i,hp⟩⟩];exact U
         · cases U
       |test a=>rw[bw]at U;exact U
      simp only[fI,cn,Option.bind_some];cases R.steps.drop (ρ.length+1)<;>simp[fI]
noncomputable def xb (S:fe)(facts:List Qq):List eO->Nat->List (Nat×List Int)
 |[],_=>[]
 |R::l,k=>((qO S facts R.steps (R.hs,R.vs)).map λπ=>(k,π))++xb S facts l (k+1)
theorem ml (hn:(facts.map (·.id)).Nodup):∀{l:List eO} {k r:Nat} {π:List Int},(r,π)∈xb S facts l k↔∃R j,l[j]? =some R/\r=k+j/\π≠[]/\fI S (eE facts) R.steps (R.hs,R.vs) π≠none
 |[],k,r,π=>by simp[xb]
 | R::l,k,r,π=>by
   rw[xb,List.mem_append,ml hn (l:=l)];constructor
   ·rintro(h|⟨R',j,h1,U,h3⟩)
    · obtain⟨ρ,h1,U⟩:=List.mem_map.1 h;cases U;exact⟨R,0,rfl,rfl,(jD hn).1 h1⟩
    · exact⟨R',j+1,by simpa using h1,an,h3⟩
   ·rintro⟨R',j,h1,U,h3⟩;cases j with
    | zero=>
      left;simp only[List.getElem?_cons_zero,Option.some.injEq]at h1;subst h1;exact List.mem_map.2 ⟨π,(jD hn).2 h3,by rw[U];rfl⟩
    |succ j=>exact .inr ⟨R',j,by simpa using h1,an,h3⟩
theorem rG (U:(facts.map (·.id)).Nodup):∀{l:List eO} {k:Nat},(xb S facts l k).Nodup
 |[],k=>by simp[xb]
 | R::l,k=>by
   rw[xb];refine List.nodup_append.2 ⟨?_,rG U,λx hx y hy Ht=>?_⟩;· exact List.Pairwise.map _ (λa b BU e=>BU (Prod.mk.inj e).2) (vv U)
   ·obtain⟨ρ,_,rfl⟩:=List.mem_map.1 hx;subst Ht;obtain⟨_,j,_,h2,_⟩:=(ml U).1 hy;omega
noncomputable def fV (S:fe)(facts:List Qq)(l:List eO):Nat:=(l.map λR=>(qO S facts R.steps (R.hs,R.vs)).length).sum
theorem rF:∀{l:List eO} {k:Nat},(xb S facts l k).length=fV S facts l
 |[],k=>rfl
 | R::l,k=>by
   rw[xb,List.length_append,List.length_map,rF (l:=l)];rfl
theorem Inv.cnt_le (hn:(facts.map (·.id)).Nodup)(h:Inv S C (eE facts) Ta (λ_ _=>(eE facts,eE facts)) Zo ck loc s) {n:Nat} (hc:gX loc n):n<=fV S facts C.rows:=by
 obtain⟨L,a1,a2,rfl⟩:=hc;rw[<-rF (k:=0),<-List.length_map (f:=λp=>(loc p).getD (0,[]))];refine GV ?_ λz hz=>?_
 ·refine List.Pairwise.map _ (λa b BU e=>?_) (List.Pairwise.and_mem.1 a1);obtain⟨ha,hb,BU⟩:=BU;obtain⟨r,π,h1,_⟩:=(a2 a).1 ha;obtain⟨r',fc,U,_⟩:=(a2 b).1 hb;rw[h1,U]at e;simp only[Option.getD_some]at e;rw[<-e]at U;exact BU (h.inj _ _ _ h1 U)
 ·obtain⟨p,hp,rfl⟩:=List.mem_map.1 hz;obtain⟨r,π,h1,U⟩:=(a2 p).1 hp;rw[h1];obtain⟨R,x,b1,_,_⟩:=h.part p r π h1;exact(ml hn).2 ⟨R,r,b1,ax,U,h.sound b1 _ _ _ rfl h1⟩
theorem Sc (U:(facts.map (·.id)).Nodup)(hC:wu S C (eE facts) loc) {n:Nat} (hc:gX loc n):fV S facts C.rows<=n:=by
 obtain⟨L,a1,a2,rfl⟩:=hc;rw[<-rF (k:=0),show L.length=(L.map λp=>(loc p).getD (0,[])).length from(List.length_map _).symm];refine GV (rG U) λz hz=>?_;obtain⟨r,π⟩:=z;obtain⟨R,j,h1,h2,h3,h4⟩:=(ml U).1 hz;obtain rfl:r=j:=an
 obtain⟨y,hy⟩:=hC r R h1 π h4;rw[List.nil_append]at hy;exact List.mem_map.2 ⟨y,(a2 y).2 ⟨r,π,hy,h3⟩,by rw[hy];rfl⟩
theorem Inv.notFull (hn:(facts.map (·.id)).Nodup)(h:Inv S C (eE facts) Ta (λ_ _=>(eE facts,eE facts)) Zo ck loc s)(hC:pX loc->wu S C (eE facts) loc):pX loc↔fV S facts C.rows<=4096:=by
 constructor
 ·intro hf;refine Nat.le_of_not_lt λbp=>?_
  obtain⟨n,U⟩:=h.cnt;have:=hf n U;have:=Sc hn (hC hf) U;omega
 · exactλhf n U=>Nat.le_trans (h.cnt_le hn U) hf
end
def gB (f:Qq):List Qq->List Qq
 |[]=>[f]
 |g::l=>if f.id<g.id then f::g::l else g::gB f l
def jg (id:Int)(l:List Qq):List Qq:=l.filter λg=>decide (g.id≠id)
section
variable {f g:Qq} {facts:List Qq} {id:Int}
theorem mI:∀{l:List Qq},g∈gB f l↔g=f\/g∈l
 |[]=>by simp[gB]
 | x ::l=>by
   rw[gB];split;· simp
   ·rw [List.mem_cons,mI,List.mem_cons];constructor
    ·rintro(h|h|h);· exact .inr (.inl h)
     · exact .inl h
     · exact .inr (.inr h)
    ·rintro(h|h|h);· exact .inr (.inl h)
     · exact .inl h
     · exact .inr (.inr h)
theorem zk {l:List Qq}:g∈jg id l↔g∈l/\g.id≠id:=by
 unfold jg;rw[List.mem_filter];simp
abbrev uq (l:List Qq):Prop:=l.Pairwise λa b=>a.id<b.id
theorem uq.nodup {l:List Qq} (h:uq l):(l.map (·.id)).Nodup:=List.Pairwise.map _ (λ_ _ U=>Int.ne_of_lt U) h
theorem uq.ins:∀{l:List Qq},uq l->(∀g∈l,g.id≠f.id)->uq (gB f l)
 |[],_,_=>by simp[gB]
 | x::l,h,hn=>by
   obtain⟨h1,h2⟩:=List.pairwise_cons.1 h;rw[gB];have hx:=hn x List.mem_cons_self;split
   ·rename_i U;refine List.pairwise_cons.2 ⟨λy hy=>?_,h⟩;rcases List.mem_cons.1 hy with rfl|hy;· exact U
    · have:=h1 y hy;omega
   ·rename_i U;refine List.pairwise_cons.2 ⟨λy hy=>?_,uq.ins h2 λg hg=>hn g (List.mem_cons_of_mem _ hg)⟩;rcases mI.1 hy with rfl|hy;· omega
    · exact h1 y hy
theorem uq.del {l:List Qq} (h:uq l):uq (jg id l):=h.filter _
theorem Ol (h:uq facts)(hn:∀g∈facts,g.id≠f.id):eE (gB f facts)=iF (eE facts) f:=by
 funext i;refine Option.ext λx=>?_
 rw[Fu (h.ins hn).nodup,mI];unfold iF;by_cases hi:i=f.id
 ·rw [if_pos hi];constructor
  ·rintro⟨rfl|h1,U⟩;· rfl
   · exact absurd (U.trans hi) (hn x h1)
  · intro h1;cases h1;exact⟨.inl rfl,hi.symm⟩
 ·rw [if_neg hi,Fu h.nodup];constructor
  ·rintro⟨rfl|h1,U⟩;· exact absurd U.symm hi
   · exact⟨h1,U⟩
  · rintro⟨h1,U⟩;exact⟨.inr h1,U⟩
theorem Oj (h:uq facts):eE (jg id facts)=kN (eE facts) id:=by
 funext i;refine Option.ext λx=>?_
 rw[Fu (h.del).nodup,zk];unfold kN;by_cases hi:i=id
 ·rw[if_pos hi];constructor
  ·rintro⟨⟨_,h1⟩,U⟩;exact absurd (U.trans hi) h1
  · intro h1;cases h1
 ·rw[if_neg hi,Fu h.nodup];constructor;· rintro⟨⟨h1,_⟩,U⟩;exact⟨h1,U⟩
  · rintro⟨h1,U⟩;exact⟨⟨h1,λe=>hi (U.symm.trans e)⟩,U⟩
theorem Ab:∀{l:List Qq},(gB f l).length=l.length+1
 |[]=>rfl
 | x::l=>by
   rw[gB];split;· rfl
   · rw[List.length_cons,Ab];rfl
theorem Is {l:List Qq}:(jg id l).length<=l.length:=List.length_filter_le _ _
end
end
section
open Go Go.RowKit Classical
theorem ll {A R:Type} {Q:R->Prop} {f:A->WM R} {g:(A->WM R)->WM R} (h:∀k,k=f->g k Q):jU f g Q:=h f rfl
section
variable {S:fe} {T T':bz}
theorem K6 {sc:eL} {e:ep} {i id:Int} (hs:xa T T')(hi:∀j,j≠id->T j=T' j)(hn:i≠id) {U:ep} (h:iV S T' sc e i=some U):iV S T sc e i=some U:=by
 unfold iV at h⊢;cases bw:sc.st with
 |join a=>rw[bw]at h;simp only at h⊢;rw[hi i hn];exact h
 | nt a=>
   rw[bw]at h;simp only at h⊢;split at h
   ·rename_i hh;rw[if_pos ⟨hh.1,λj ⟨f,h1,h2⟩=>hh.2 j ⟨f,hs j f h1,h2⟩⟩];exact h
   · cases h
 |test a=>rw[bw]at h;exact h
theorem zX {id:Int} (hs:xa T T')(hi:∀j,j≠id->T j=T' j):∀{π:List Int} {l:List eL} {e:ep},id∉π->fI S T' l e π≠none->fI S T l e π≠none
 |[],l,e,_,_=>by cases l<;>simp[fI]
 |i::π,[],e,_,h=>by simp[fI]at h
 | i ::π,sc::l,e,hn,h=>by
   simp only[fI]at h⊢;cases h1:iV S T' sc e i with
   |none=>rw[h1]at h;exact absurd rfl h
   | some e1=>
     rw[h1]at h;rw[K6 hs hi (λU=>hn (by rw[U];simp)) h1];exact zX hs hi (λU=>hn (List.mem_cons_of_mem _ U)) h
theorem JR (hs:xa T T') {l:List eL} {e:ep} {π:List Int} (hb:∀n sc a e1,n<π.length->l[n]? =some sc->sc.st=.nt a->fI S T l e (π.take n)=some e1->∀j,jx S sc e1 T' j->jx S sc e1 T j) (h:fI S T l e π≠none):∀n,n<=π.length->∃e1,fI S T l e (π.take n)=some e1/\fI S T' l e (π.take n)=some e1:=by
 intro n;induction n with
 |zero=>intro _;exact⟨e,by rw[List.take_zero];cases l<;>rfl,by rw[List.take_zero];cases l<;>rfl⟩
 | succ n ih=>
   intro hn;obtain⟨e1,h1,h2⟩:=ih an;have hx:fI S T l e (π.take (n+1)++π.drop (n+1))≠none:=by rw[List.take_append_drop];exact h
   rw[OW]at hx
   obtain ⟨e2,U⟩:∃e2,fI S T l e (π.take (n+1))=some e2:=by
     cases hh:fI S T l e (π.take (n+1))with
     |none=>rw[hh]at hx;exact absurd rfl hx
     |some e2=>exact⟨e2,rfl⟩
   refine⟨e2,U,?_⟩;have ki:π[n]? =some π[n]:=List.getElem?_eq_getElem an;have hlen:(π.take n).length=n:=by simp;omega
   rw[List.take_add_one,ki,Option.toList_some,OW]at U⊢;rw[h1,Option.bind_some,hlen]at U;rw[h2,Option.bind_some,hlen];cases hd:l.drop n with
   |nil=>rw[hd]at U;cases U
   | cons sc l'=>
     rw[hd]at U
     have ez:l[n]? =some sc:=by
       have:=congrArg (λx=>x[0]?) hd;simpa using this
     simp only[fI]at U⊢;cases ho:iV S T sc e1 π[n]with
     |none=>rw[ho]at U;cases U
     | some e3=>
       rw[ho,Option.bind_some]at U
       have ho2:iV S T' sc e1 π[n]=some e3:=by
        unfold iV at ho⊢;cases bw:sc.st with
        | join a=>
          rw[bw]at ho;simp only at ho⊢;cases hT:T π[n]with
          |none=>rw[hT]at ho;cases ho
          |some f=>rw[hT]at ho;rw[hs _ _ hT];exact ho
        | nt a=>
          rw[bw]at ho;simp only at ho⊢;split at ho
          ·rename_i hh;rw[if_pos ⟨hh.1,λj hj=>hh.2 j (hb n sc a e1 an ez bw h1 j hj)⟩];exact ho
          · cases ho
        |test a=>rw[bw]at ho;exact ho
       rw[ho2,Option.bind_some];exact U
end
structure ru (S:fe) (I:ep->Prop) (P:Qq->Prop) (C:fz):Prop where
 W:nZ C
 A:VS C
 rP:C.rP.isNone=false
 rows:C.rows.length<=1000
 steps:∀R∈C.rows,R.steps.length<=1000
 alk:C.alphas.keys.length<=1000000
 ok:∀T:bz,(∀i f,T i=some f->P f)->∀R∈C.rows,∀sc∈R.steps,wE S I C T sc
 I0:∀R∈C.rows,I (R.hs,R.vs)
 ar:∀A∈C.als,A.args.length<=1000000/\∀f,P f->f.ty=A.kind->A.args.length<=f.args.length
structure pV (S:fe) (P:Qq->Prop) (C:fz) (facts:List Qq) (loc:Loc) (s:Q7):Prop where
 inv:Inv S C (eE facts) (λ_=>eE facts) (λ_ _=>(eE facts,eE facts)) (λ_=>False) none loc s
 comp:wu S C (eE facts) loc
 ris:uq facts
 fr:∀f∈facts,P f/\1<=f.id/\f.id<=1099511627776
 le:fV S facts C.rows<=4096
section
variable {S:fe} {I:ep->Prop} {P:Qq->Prop} {C:fz} {loc:Loc} {s:Q7} {facts:List Qq} {f:Qq} {id:Int}
theorem XH (hr:uq facts)(hf:∀f∈facts,P f/\1<=f.id/\f.id<=1099511627776)(hl:facts.length<=1000001):il (eE facts) (facts.map (·.id)):=
 ⟨λi f h=>by
  obtain⟨h1,U⟩:=(Fu hr.nodup).1 h;obtain⟨_,h3,h4⟩:=hf f h1;exact⟨List.mem_map.2 ⟨f,h1,U⟩,U,an,an⟩,by rw[List.length_map];omega⟩
theorem nA (hr:uq facts)(U:∀f∈facts,P f/\1<=f.id/\f.id<=1099511627776):∀i f,eE facts i=some f->P f:=λi f h=>(U f ((Fu hr.nodup).1 h).1).1
theorem ru.hI (U:ru S I P C)(hr:uq facts)(hf:∀f∈facts,P f/\1<=f.id/\f.id<=1099511627776)(hl:facts.length<=1000001):∀R∈C.rows,∀π e,fE S (eE facts) R.steps (R.hs,R.vs) π=some e->I e:=
 λR hR _ _ he=>Iz (XH hr hf hl) (U.ok _ (nA hr hf) R hR) (U.I0 R hR) he
theorem ru.hsl (U:ru S I P C) {N:Nat} {D:List Int} (hN:B0+4000000<=N)(hl:D.length<=1000001):∀R∈C.rows,R.steps.length<9223372036854775807/\B0+D.length+R.steps.length+R.steps.length+4099<N:=λR hR=>by
 have:=U.steps R hR;omega
theorem Og (hn:eE facts f.id=none):xa (eE facts) (iF (eE facts) f):=λi g U=>by
 unfold iF;rw[if_neg (λe=>by rw[e,hn]at U;cases U)];exact U
theorem MP {T:bz} (U:T f.id=none):kN (iF T f) f.id=T:=by
 funext i;unfold kN iF;by_cases hi:i=f.id;· rw[if_pos hi,hi,U]
 · rw[if_neg hi,if_neg hi]
theorem O7 {T:bz} (U:T f.id=some f):iF (kN T f.id) f=T:=by
 funext i;unfold iF;by_cases hi:i=f.id;· rw[if_pos hi,hi,U]
 ·rw[if_neg hi];exact if_neg hi
theorem FW {T:bz} {R:eO} {π:List Int} {k:Nat} (hn:T f.id=none)(hi:fI S T R.steps (R.hs,R.vs) π≠none)(h:Fq S (iF T f) f R π k):HB S T (iF T f) f.id R π k:=by
 obtain⟨h1,sc,a,e,h2,h3,h4,h5⟩:=h
 have gI:xa T (iF T f):=λi g U=>by
   unfold iF;rw[if_neg (λe=>by rw[e,hn]at U;cases U)];exact U
 have hx:fI S T R.steps (R.hs,R.vs) (π.take k++π.drop k)≠none:=by rw[List.take_append_drop];exact hi
 rw[OW]at hx;cases hh:fI S T R.steps (R.hs,R.vs) (π.take k)with
 |none=>rw[hh]at hx;exact absurd rfl hx
 | some e'=>
   have h6:=LH hh;have h7:=rZ gI h6;rw[h4]at h7;cases h7;exact⟨h1,sc,a,e,h2,h3,h6,f,if_pos rfl,h5⟩
noncomputable def addN (S:fe)(rt:Qq->Bool)(C:fz)(facts:List Qq)(f:Qq):List Qq×Nat:=
 if rt f=true then(if(eE facts f.id).isSome=true then(facts,7)else if fV S (gB f facts) C.rows<=4096 then(gB f facts,0)else(facts,204))else(facts,2)
noncomputable def rX (S:fe)(C:fz)(facts:List Qq)(id:Int):List Qq×Nat:=
 if(eE facts id).isSome=true then(if fV S (jg id facts) C.rows<=4096 then(jg id facts,0)else(facts,204))else(facts,6)
def BK (vb:V->Bool)(types:List Q9)(f:Qq):Bool:=
 decide (1<=f.id/\f.id<=1099511627776)&&(decide (0<=f.ty)&&((match types[f.ty.toNat]? with
  |some t=>t.fields==((f.args.length:Nat):Int)
  |none=>false)&&f.args.all vb))
theorem r6 {N:Nat} {R:Type} {K:Bool->WM R} {Q:R->Prop} (hG:ru S I P C)(h:pV S P C facts loc s)(hQ:K true Q):eG (OD N C.g s) K Q:=by
 obtain⟨x,h1,_,_,_,U,_⟩:=h.inv.gNet;refine QR ?_;unfold OD;refine Qh h1 ?_;show K (!Option.isNone x.rowsP) Q;rw[U,hG.rP];exact hQ
theorem Wn {N:Nat} {Q:Nat->Prop} (hG:ru S I P C)(h:pV S P C facts loc s)(hQ:Q facts.length):X6 N C.g s Q:=by
 unfold X6;refine r6 hG h ?_;refine z6 rfl ?_;obtain⟨x,h1,_,_,_,_,_,_,_,U,_⟩:=h.inv.gNet;refine Qh h1 ?_
 have e:x.facts.es.length=facts.length:=by
  have e1:x.facts.keys.length=x.facts.es.length:=by unfold MS.keys;rw[List.length_map]
  have e2:(facts.map (·.id)).length=facts.length:=List.length_map _
  have hk:∀i,i∈x.facts.keys↔i∈facts.map (·.id):=λi=>by
   rw[MS.look_iff];constructor
   ·rintro⟨f,hf⟩;rw[U.2]at hf;obtain⟨g1,g2⟩:=(Fu h.ris.nodup).1 hf;exact List.mem_map.2 ⟨f,g1,g2⟩
   ·intro hi;obtain⟨f,g1,g2⟩:=List.mem_map.1 hi;exact⟨f,by rw[U.2];exact(Fu h.ris.nodup).2 ⟨g1,g2⟩⟩
  rw[<-e1,<-e2];exact Nat.le_antisymm (GV U.1 λz hz=>(hk z).1 hz) (GV h.ris.nodup λz hz=>(hk z).2 hz)
 show Q x.facts.es.length;rw[e];exact hQ
theorem pV.parts (h:Inv S C (eE facts) (λ_=>eE facts) (λ_ _=>(eE facts,eE facts)) (λ_=>False) none loc s)(hr:uq facts)(hc:pX loc->wu S C (eE facts) loc):∃x,gNet s C.g=some x/\(x.parts>4096↔¬fV S facts C.rows<=4096):=by
 obtain⟨x,h1,_,_,_,_,_,_,_,_,n,h4,h5⟩:=h.gNet;refine⟨x,h1,?_⟩;rw[h4];have h6:=h.notFull hr.nodup hc;rw[<-h6];constructor
 ·intro hn U;have:=U n h5;omega
 ·intro U;refine Int.not_le.1 λhn=>U λm hm=>?_
  have:=hm.unique h5;omega
theorem Wi {N:Nat} {Q:Nat×Q7->Prop} {vb:V->Bool} (hN:B0+4000000<=N)(hG:ru S I P C)(h:pV S P C facts loc s)(hl:facts.length<=1000000)(hC:UZ N f.args=some (!(f.args.all vb)))(eM:BK vb C.types f=true->P f)(G2:f.args.length<=4398046511104)
  (hQ:∀bf s',pV S P C (addN S (BK vb C.types) C facts f).1 bf s'->Q ((addN S (BK vb C.types) C facts f).2,s')):X5 N C.g f.id f.ty f.args s Q:=by
 obtain⟨x,W8,_,Gg,_,_,_,_,_,Zm,_⟩:=h.inv.gNet;unfold X5;refine r6 hG h ?_;refine z6 rfl ?_;refine ll λkj G6=>?_
 have iI:BK vb C.types f=false->kj true Q:=λhr=>by
  subst G6;refine jj rfl ?_;have:=hQ loc s;unfold addN at this;rw[if_neg (by rw[hr];simp)]at this;exact this h
 have YK:BK vb C.types f=true->kj false Q:=λhr=>by
  subst G6;refine z6 rfl ?_;refine ll λkj2 Nt=>?_
  refine Qh W8 ?_;refine xW (λmF=>?_) (λg hg=>?_)
  ·subst Nt;refine z6 rfl ?_;refine fR G2 ?_;rw[Zm.2]at mF;have hid:=hr;unfold BK at hid;simp only[Bool.and_eq_true,decide_eq_true_eq]at hid;have hnm:∀g∈facts,g.id≠f.id:=DI.1 mF;have oz:=h.ris.ins hnm
   have kY:∀g∈gB f facts,P g/\1<=g.id/\g.id<=1099511627776:=λg hg=>by
    rcases mI.1 hg with rfl|hg;· exact⟨eM hr,hid.1⟩
    · exact h.fr g hg
   have hlen:(gB f facts).length<=1000001:=by rw[Ab];omega
   have et:=Ol h.ris hnm;have hTo:=XH oz kY hlen;refine QR ?_;show Rt N C.g f.id f.ty f.args s _
   refine Io (I:=I) (T0:=eE facts) (D:=(gB f facts).map (·.id)) hG.W hG.A (by rw[<-et];exact hTo) (by rw[List.length_map];omega) (by have:=hG.rows;omega) (hG.hsl hN (by rw[List.length_map];exact hlen)) (by have:=hG.alk;omega) (by rw[<-et];exact hG.ok _ (nA oz kY)) (by rw[<-et];exact hG.hI oz kY hlen) an an mF
    (λA hA=>⟨by have:=(hG.ar A hA).1;omega,by have:=(hG.ar A hA).1;omega,λTS j a hj=>by
     have h1:=(hG.ar A hA).2 f (eM hr) TS;have h2:=(List.getElem?_eq_some_iff.1 hj).1;exact⟨_,List.getElem?_eq_getElem an⟩⟩) h.inv (λr R π hR hi hn=>?_) λbf s' h1 h2 h3=>?_
   ·have:=h.comp r R hR π (zX (id:=f.id) (Og mF) (λj hj=>by unfold iF;rw[if_neg hj]) hn hi);simpa using this
   ·rw [<-et]at h1 h3;obtain⟨z,hz1,NC⟩:=pV.parts h1 oz h3;refine Qh hz1 ?_;refine ig (λU=>?_) (λU=>?_)
    ·
     have JF:=NC.1 (of_decide_eq_true U);refine QR ?_;rw[et]at h1;have ed:kN (iF (eE facts) f) f.id=eE facts:=MP mF;refine Jh (I:=I) (T0:=iF (eE facts) f) (D:=facts.map (·.id)) hG.W hG.A (by rw[ed];exact XH h.ris h.fr an) (by rw[List.length_map];omega) (by have:=hG.rows;omega) (hG.hsl hN (by rw[List.length_map];omega)) (by have:=hG.alk;omega) (by rw[ed];exact hG.ok _ (nA h.ris h.fr)) (by rw[ed];exact hG.hI h.ris h.fr an) an an h1 (λr R π hR hi U=>?_) λeo s2 g1 _ g3=>?_
     ·rw [ed]at hi U;obtain⟨y,hy⟩:=h.comp r R hR π hi;rw[List.nil_append]at hy
      exact ⟨y,h2 y r π hy λ⟨R',k,e1,e2⟩=>by
       rw[hR]at e1;cases e1;exact U k (FW mF hi e2)⟩
     ·rw[ed]at g1 g3;have hq:=hQ eo s2;unfold addN at hq;rw[if_pos hr,mF,if_neg ax,if_neg JF]at hq;exact hq ⟨g1,g3 ((g1.notFull h.ris.nodup g3).2 h.le),h.ris,h.fr,h.le⟩
    ·have D3:fV S (gB f facts) C.rows<=4096:=Classical.byContradiction λhh=>(of_decide_eq_false U) (NC.2 hh)
     have hq:=hQ bf s';unfold addN at hq;rw[if_pos hr,mF,if_neg ax,if_pos D3]at hq;exact hq ⟨h1,h3 ((h1.notFull oz.nodup h3).2 D3),oz,kY,D3⟩
  ·subst Nt;refine jj rfl ?_;rw[Zm.2]at hg;have hq:=hQ loc s;unfold addN at hq;rw[if_pos hr,hg,if_pos ax]at hq;exact hq h
 refine Qh W8 ?_;refine ig (λU=>iI ?_) (λh1=>ig (λU=>iI ?_) (λh2=>ig (λU=>iI ?_) (λh3=>ig (λU=>iI ?_) (λh4=>?_))))
 ·have:=of_decide_eq_true U;unfold BK;rw[decide_eq_false an,Bool.false_and]
 ·have:=of_decide_eq_true U;unfold BK;rw[decide_eq_false an,Bool.false_and]
 ·have:=of_decide_eq_true U;unfold BK;rw[decide_eq_false (show¬0<=f.ty by omega),Bool.false_and,Bool.and_false]
 ·have:=of_decide_eq_true U;rw[Gg]at this;unfold BK;rw[List.getElem?_eq_none an];simp
 ·have h1:=of_decide_eq_false h1;have h2:=of_decide_eq_false h2;have h3:=of_decide_eq_false h3;have h4:=of_decide_eq_false h4;rw[Gg]at h4;have bp:f.ty.toNat<C.types.length:=an
  refine fR an ?_;refine Qh (a:=C.types[f.ty.toNat]) (by rw[Gg];exact List.getElem?_eq_getElem bp) ?_
  have er:BK vb C.types f=((C.types[f.ty.toNat].fields==((f.args.length:Nat):Int))&&f.args.all vb):=by
   unfold BK;rw[decide_eq_true (show 1<=f.id/\f.id<=1099511627776 by omega),decide_eq_true (show 0<=f.ty by omega),List.getElem?_eq_getElem bp,Bool.true_and,Bool.true_and]
  refine ig (λU=>iI ?_) (λU=>?_)
  ·rw [er]
   have:(C.types[f.ty.toNat].fields==((f.args.length:Nat):Int))=false:=by
    rw[bne_iff_ne]at U;exact beq_eq_false_iff_ne.2 (Ne.symm U)
   rw[this,Bool.false_and]
  ·refine Qh hC ?_
   have:(C.types[f.ty.toNat].fields==((f.args.length:Nat):Int))=true:=by
    have ku:¬((((f.args.length:Nat):Int) !=C.types[f.ty.toNat].fields)=true):=by rw[U];simp
    rw[bne_iff_ne,ne_eq,Classical.not_not]at ku;rw[ku];simp
   rw[this,Bool.true_and]at er;cases ha:f.args.all vb with
   |true=>exact YK (by rw[er,ha])
   |false=>exact iI (by rw[er,ha])
theorem Rb {N:Nat} {Q:Nat×Q7->Prop} (hN:B0+4000000<=N)(U:ru S I P C)(h:pV S P C facts loc s)(hl:facts.length<=1000000)
  (hQ:∀bf s',pV S P C (rX S C facts id).1 bf s'->Q ((rX S C facts id).2,s')):X8 N C.g id s Q:=by
 obtain⟨x,W8,_,Gg,_,_,_,_,_,Zm,_⟩:=h.inv.gNet;unfold X8;refine r6 U h ?_;refine z6 rfl ?_;refine ll λkj G6=>?_;refine Qh W8 ?_;refine xW (λmF=>?_) (λf hf=>?_)
 ·subst G6;refine jj rfl ?_;rw[Zm.2]at mF;have hq:=hQ loc s;unfold rX at hq;rw[mF,if_neg ax]at hq;exact hq h
 ·subst G6;refine z6 rfl ?_;rw[Zm.2]at hf;obtain⟨hm,rfl⟩:=(Fu h.ris.nodup).1 hf;have oz:uq (jg f.id facts):=h.ris.del;have kY:∀g∈jg f.id facts,P g/\1<=g.id/\g.id<=1099511627776:=λg hg=>h.fr g (zk.1 hg).1
  have hlen:(jg f.id facts).length<=1000001:=by have:=Is (id:=f.id) (l:=facts);omega
  have et:eE (jg f.id facts)=kN (eE facts) f.id:=Oj h.ris;have hid:=(h.fr f hm).2
  have gI:xa (kN (eE facts) f.id) (eE facts):=λi g hg=>by
   unfold kN at hg;split at hg;· cases hg
   · exact hg
  refine QR ?_;refine Jh (I:=I) (T0:=eE facts) (D:=(jg f.id facts).map (·.id)) U.W U.A (by rw[<-et];exact XH oz kY hlen) (by rw[List.length_map];omega) (by have:=U.rows;omega) (U.hsl hN (by rw[List.length_map];exact hlen)) (by have:=U.alk;omega) (by rw[<-et];exact U.ok _ (nA oz kY)) (by rw[<-et];exact U.hI oz kY hlen) an an h.inv (λr R π hR hi hb=>?_) λbf s' h1 h2 h3=>?_
  ·obtain ⟨e1,_,he⟩:=JR (S:=S) gI (l:=R.steps) (e:=(R.hs,R.vs)) (π:=π) (λn sc a e1 hn ez bw he j ⟨g,BW,mE⟩=>by
    by_cases hj:j=f.id
    ·subst hj;exact absurd ⟨hn,sc,a,e1,ez,bw,LH he,g,BW,mE⟩ (hb n)
    · exact⟨g,by unfold kN;rw[if_neg hj];exact BW,mE⟩) hi π.length (Nat.le_refl _)
   rw[List.take_length]at he;have:=h.comp r R hR π (by rw[he];simp);simpa using this
  ·rw [<-et]at h1 h3;obtain⟨z,hz1,NC⟩:=pV.parts h1 oz h3;refine Qh hz1 ?_;refine ig (λhb=>?_) (λhb=>?_)
   ·have JF:=NC.1 (of_decide_eq_true hb);refine QR ?_;rw[et]at h1;have ed:iF (kN (eE facts) f.id) f=eE facts:=O7 hf
    refine Io (I:=I) (T0:=kN (eE facts) f.id) (D:=facts.map (·.id)) U.W U.A (by rw[ed];exact XH h.ris h.fr an) (by rw[List.length_map];omega) (by have:=U.rows;omega) (U.hsl hN (by rw[List.length_map];omega)) (by have:=U.alk;omega) (by rw[ed];exact U.ok _ (nA h.ris h.fr)) (by rw[ed];exact U.hI h.ris h.fr an) an an (if_pos rfl)
     (λA hA=>⟨by have:=(U.ar A hA).1;omega,by have:=(U.ar A hA).1;omega,λTS j a hj=>by
      have h1:=(U.ar A hA).2 f (h.fr f hm).1 TS;have h2:=(List.getElem?_eq_some_iff.1 hj).1;exact⟨_,List.getElem?_eq_getElem an⟩⟩) h1 (λr R π hR hi hn=>?_) λeo s2 g1 _ g3=>?_
    ·rw[ed]at hi;obtain⟨y,hy⟩:=h.comp r R hR π hi;rw[List.nil_append]at hy;exact⟨y,h2 y r π hy hn⟩
    ·rw[ed]at g1 g3;have hq:=hQ eo s2;unfold rX at hq;rw[hf,if_pos ax,if_neg JF]at hq;exact hq ⟨g1,g3 ((g1.notFull h.ris.nodup g3).2 h.le),h.ris,h.fr,h.le⟩
   ·have D3:fV S (jg f.id facts) C.rows<=4096:=Classical.byContradiction λhh=>(of_decide_eq_false hb) (NC.2 hh)
    have hq:=hQ bf s';unfold rX at hq;rw[hf,if_pos ax,if_pos D3]at hq;exact hq ⟨h1,h3 ((h1.notFull oz.nodup h3).2 D3),oz,kY,D3⟩
end
end
section
open Go Go.RowKit Classical
def fO:List Int->List Int->Int
 |[],[]=>0
 |[],_::_=>-1
 |_::_,[]=>1
 |a::l,b::m=>if a<b then-1 else if b<a then 1 else fO l m
theorem oC:∀l:List Int,fO l l=0
 |[]=>rfl
 |a::l=>by rw[fO,if_neg an,if_neg an];exact oC l
theorem Qc1:∀l m:List Int,fO m l=-fO l m
 |[],[]=>rfl
 |[],_::_=>rfl
 |_::_,[]=>rfl
 | a::l,b::m=>by
   simp only[fO];by_cases h1:a<b;· rw[if_pos h1,if_neg (by omega:¬b<a),if_pos h1];decide
   ·by_cases U:b<a;· rw[if_pos U,if_neg h1,if_pos U]
    · rw[if_neg h1,if_neg U,if_neg U,if_neg h1];exact Qc1 l m
theorem oD:∀l m:List Int,fO l m=0->l=m
 |[],[],_=>rfl
 |[],_::_,h=>by cases h
 |_::_,[],h=>by cases h
 | a::l,b::m,h=>by
   simp only[fO]at h;split at h;· cases h
   ·split at h;· cases h
    ·rw[oD l m h];congr 1;omega
theorem ln:∀l m n:List Int,fO l m<0->fO m n<0->fO l n<0
 |[],[],n,h,_=>by simp[fO]at h
 |_::_,[],n,h,_=>by simp[fO]at h
 |l,_::_,[],_,h=>by simp[fO]at h
 |[],b::m,c::n,_,_=>by simp[fO]
 | a ::l,b::m,c::n,h1,U=>by
   simp only[fO]at h1 U⊢;by_cases e1:a<b
   ·by_cases e2:b<c;· rw[if_pos an];decide
    ·rw[if_neg e2]at U;by_cases e3:c<b;· rw[if_pos e3]at U;omega
     · rw[if_pos an];decide
   ·rw [if_neg e1]at h1;by_cases e4:b<a;· rw[if_pos e4]at h1;omega
    ·rw [if_neg e4]at h1;by_cases e2:b<c;· rw[if_pos an];decide
     ·rw[if_neg e2]at U;by_cases e3:c<b;· rw[if_pos e3]at U;omega
      ·rw[if_neg e3]at U;rw[if_neg an,if_neg an];exact ln l m n h1 U
theorem Cw {N:Nat} {l m:List Int} (hl:l.length<1000000) (hN:1000000<=N):Q4O N l m=some (fO l m):=by
 have key:∀(k i fuel:Nat),i+k=l.length->i<=m.length->k<fuel->(j7 (fF (Oz N l m) fuel i) λ_=>if(decide (l.length<m.length))=true then some (-1)else some 0)=some (fO (l.drop i) (m.drop i)):=by
  intro k;induction k with
  | zero=>
    intro i fuel hi him hf;obtain⟨fuel,rfl⟩:∃q,fuel=q+1:=⟨fuel-1,an⟩
    rw[ua (o:=.inl ()) (by unfold Oz;rw[if_neg (by simp;omega)]),rv,List.drop_eq_nil_of_le (by omega:l.length<=i)];by_cases h:l.length<m.length;· rw[br h,List.drop_eq_getElem_cons (by omega:i<m.length)];rfl
    · rw[bs h,List.drop_eq_nil_of_le (by omega:m.length<=i)];rfl
  | succ k ih=>
    intro i fuel hi him hf;obtain⟨fuel,rfl⟩:∃q,fuel=q+1:=⟨fuel-1,an⟩
    have h1:i<l.length:=an
    rw[List.drop_eq_getElem_cons h1];by_cases h2:m.length<=i
    ·rw[ua (o:=.inr 1) (by unfold Oz;rw[br h1,List.getElem?_eq_getElem h1,Q1,br h2]),H3,List.drop_eq_nil_of_le h2];rfl
    ·have h3:i<m.length:=an
     rw[List.drop_eq_getElem_cons h3,fO]
     have hc:WS N l[i] m[i]=some (if l[i]<m[i]then-1 else if m[i]<l[i]then 1 else 0):=by
      unfold WS X7;rw[Q1,Q1,if_neg ax,if_neg ax];by_cases U:l[i]<m[i];· rw[br U,if_pos U]
      ·rw[bs U,if_neg U];by_cases q2:m[i]<l[i];· rw[br q2,if_pos q2]
       · rw[bs q2,if_neg q2]
     have hs:Oz N l m i=if l[i]<m[i]then some (.inr (.inr (-1)))else if m[i]<l[i]then some (.inr (.inr 1))else some (.inl (i+1)):=by
      unfold Oz;rw[br h1,List.getElem?_eq_getElem h1,Q1,bs h3,List.getElem?_eq_getElem h3,Q1,hc,Q1];by_cases U:l[i]<m[i];· simp only[if_pos U];rfl
      ·by_cases q2:m[i]<l[i];· simp only[if_neg U,if_pos q2];rfl
       ·simp only[if_neg U,if_neg q2];rw[if_neg bj,QY an]
     by_cases U:l[i]<m[i]
     ·rw[if_pos U]at hs⊢;rw[ua hs,H3]
     ·by_cases q2:m[i]<l[i]
      ·rw[if_neg U,if_pos q2]at hs⊢;rw[ua hs,H3]
      ·rw[if_neg U,if_neg q2]at hs⊢;rw[Lz hs];exact ih (i+1) fuel an an an
 have:=key l.length 0 N an an an;rw[List.drop_zero,List.drop_zero]at this;exact this
theorem La {N:Nat} {k:Int} {l l':List QB} (hN:1000000<=N)(hk:∀t∈l,t.rule=k/\t.ids.length<1000000)(hl:l.length<4611686018427387904)(hp:l'.Perm l)(hs:l'.Pairwise λa b=>fO a.ids b.ids<0):
  pJ (λx_ y_=>OB N x_.rule x_.ids y_.rule y_.ids) l=some l':=by
 have cm:∀x∈l,∀y:QB,OB N x.rule x.ids y.rule y.ids=some (fO x.ids y.ids):=λx U y=>by
  unfold OB;rw[Cw (hk x U).2 hN];rfl
 have cf:∀x∈l,∀y:QB,BR (λx_ y_=>OB N x_.rule x_.ids y_.rule y_.ids) x y=fO x.ids y.ids:=λx U y=>by
  show(OB N x.rule x.ids y.rule y.ids).getD 0=_;rw[cm x U y];rfl
 refine Kx ⟨λx U y _=>⟨_,cm x U y⟩,λx U=>?_,λx U y hy z _ h1 h2=>?_,λx U y hy z _ h1 h2=>?_,λx U y hy h1 h2=>?_,hl⟩ hp ?_;· rw[cf x U,oC];decide
 ·rw[cf x U]at h1⊢;rw[cf y hy]at h2;exact ln _ _ _ h1 h2
 ·rw [cf x U]at h1⊢;rw[cf y hy]at h2;intro h3;by_cases h4:fO x.ids y.ids=0;· rw[oD _ _ h4]at h3;exact h2 h3
  ·have h5:fO y.ids x.ids<0:=by rw[Qc1];omega
   exact h2 (ln _ _ _ h5 h3)
 ·rw[cf x U]at h1;rw[cf y hy,Qc1]at h2;have h3:=oD _ _ (show fO x.ids y.ids=0 by omega);obtain⟨r1,i1⟩:=x;obtain⟨r2,i2⟩:=y;have h4:=(hk _ U).1;have h5:=(hk _ hy).1;simp only at h3 h4 h5;rw[h3,h4,h5]
 ·refine(List.Pairwise.and_mem.1 hs).imp λ{a b} h=>?_;rw[cf b (hp.mem_iff.1 h.2.1),Qc1];omega
def oJ (π:List Int):List Int:=π.filter λi=>decide (0<i)
section
variable {S:fe} {facts:List Qq}
theorem lL (hr:facts.Pairwise λa b=>a.id<b.id)(gH:∀f∈facts,0<f.id):∀{l:List eL} {e:ep},(uK S facts l e).Pairwise λa b=>fO (oJ a) (oJ b)<0
 |[],e=>by simp[uK]
 | sc ::l,e=>by
   unfold uK;have ih:=λU=>lL hr gH (l:=l) (e:=U)
   refine List.pairwise_flatMap.2 ⟨λi _=>?_,?_⟩
   ·cases hj:iV S (eE facts) sc e i with
    |none=>exact List.Pairwise.nil
    | some U=>
      simp only;refine List.Pairwise.map _ (λa b BU=>?_) (ih U);unfold oJ;by_cases hi:0<i
      ·rw[List.filter_cons_of_pos (cw hi),List.filter_cons_of_pos (cw hi),fO,if_neg an,if_neg an];exact BU
      ·rw[List.filter_cons_of_neg (cw hi),List.filter_cons_of_neg (cw hi)];exact BU
   ·have hd:∀k x,(x∈match iV S (eE facts) sc e k with|some U=>(uK S facts l U).map (λπ=>k::π)|none=>[])->∃ρ,x=k::ρ:=λk x hx=>by
      split at hx;· obtain⟨ρ,_,rfl⟩:=List.mem_map.1 hx;exact⟨ρ,rfl⟩
      · cases hx
    unfold E3;cases bw:sc.st with
    |nt a=>simp
    |test a=>simp
    | join a=>
      simp only;refine List.Pairwise.map _ (λf g hfg=>?_) (List.Pairwise.and_mem.1 hr);intro x hx y hy;obtain⟨ρ,rfl⟩:=hd _ x hx;obtain⟨σ,rfl⟩:=hd _ y hy;obtain⟨h1,h2,h3⟩:=hfg;unfold oJ;rw[List.filter_cons_of_pos (cw (gH f h1)),List.filter_cons_of_pos (cw (gH g h2)),fO,if_pos h3];decide
theorem wi (hr:facts.Pairwise λa b=>a.id<b.id)(U:∀f∈facts,0<f.id) {l:List eL} {e:ep}:(uK S facts l e).Nodup:=
 (lL hr U).imp λ{a b} h e=>by subst e;rw[oC]at h;omega
end
def DL (k:Nat)(π:List Int):QB:=⟨((k:Nat):Int),oJ π⟩
noncomputable def E5 (S:fe)(facts:List Qq):List eO->Nat->List QB
 |[],_=>[]
 |R::l,k=>(uK S facts R.steps (R.hs,R.vs)).map (DL k)++E5 S facts l (k+1)
section
variable {S:fe} {I:ep->Prop} {P:Qq->Prop} {C:fz} {loc:Loc} {s:Q7} {facts:List Qq} {T:bz} {Ta:Nat->bz} {B:Nat->List Int->bz×bz} {Zo:Nat->Prop} {ck:Option Nat}
theorem si {R:eO}:∀{l:List eO} {k:Nat},E5 S facts (l++[R]) k=E5 S facts l k++(uK S facts R.steps (R.hs,R.vs)).map (DL (k+l.length))
 |[],k=>by simp[E5]
 | x::l,k=>by
   rw[List.cons_append,E5,E5,si,List.append_assoc,List.length_cons,show k+1+l.length=k+(l.length+1) by omega]
theorem Fi (U:uq facts)(gH:∀f∈facts,0<f.id) {l:List eL} {e:ep}:(uK S facts l e).length<=(qO S facts l e).length+1:=by
 rw[<-List.length_cons (a:=([]:List Int))];refine GV (wi U gH) λπ jb=>?_
 by_cases h:π=[]
 · subst h;simp
 · exact List.mem_cons_of_mem _ ((jD U.nodup).2 ⟨h,((RV U.nodup).1 jb).2⟩)
theorem tG {l m:List eO}:fV S facts (l++m)=fV S facts l+fV S facts m:=by
 unfold fV;rw[List.map_append,List.sum_append]
theorem vn (hr:uq facts)(U:∀f∈facts,0<f.id):∀{l:List eO} {k:Nat},(E5 S facts l k).length<=fV S facts l+l.length
 |[],k=>by simp[E5]
 | R::l,k=>by
   have h1:=vn hr U (l:=l) (k:=k+1);have h2:=Fi (S:=S) hr U (l:=R.steps) (e:=(R.hs,R.vs));have h3:fV S facts (R::l)=(qO S facts R.steps (R.hs,R.vs)).length+fV S facts l:=rfl;rw[E5,List.length_append,List.length_map,List.length_cons];omega
theorem Qc2 {ρ:List Int} {i:Int}:oJ (ρ++[i])=if 0<i then oJ ρ++[i]else oJ ρ:=by
 unfold oJ;rw[List.filter_append];by_cases hi:0<i;· rw[if_pos hi,List.filter_cons_of_pos (cw hi)];rfl
 · rw[if_neg hi,List.filter_cons_of_neg (cw hi)];simp
theorem tc {π:List Int}:(oJ π).length<=π.length:=List.length_filter_le _ _
theorem TW (h:Inv S C T Ta B Zo ck loc s):∀(n:Nat)(π:List Int)(p r N:Nat)(Q:List Int->Prop),π.length=n->n<N->n<=1000->loc p=some (r,π)->Q (oJ π)->Rn N (some p) s Q:=by
 intro n;induction n with
 | zero=>
   intro π p r N Q hn hN _ hp U;obtain⟨N,rfl⟩:∃M,N=M+1:=⟨N-1,an⟩
   obtain rfl:=List.length_eq_zero_iff.1 hn;obtain⟨R,x,a1,a2,_,a3⟩:=h.gPart hp;show Rq N (Rn N) (some p) s Q;unfold Rq;refine Qh rfl (Qh a2 (jj (by rw[(a3.top rfl).1];rfl) ?_));exact U
 | succ n ih=>
   intro π p r N Q hn hN Pp hp U;obtain⟨N,rfl⟩:∃M,N=M+1:=⟨N-1,an⟩
   rcases List.eq_nil_or_concat π with e|⟨ρ,i,e⟩
   · subst e;cases hn
   ·have e:π=ρ++[i]:=by simpa using e
    subst e;have PG:ρ.length=n:=by simpa using hn
    obtain⟨R,x,a1,a2,_,a3⟩:=h.gPart hp;obtain⟨b1,q,b2,b3⟩:=a3.up ρ i rfl;show Rq N (Rn N) (some p) s Q;unfold Rq;refine Qh rfl (Qh a2 (z6 (by rw[b2];rfl) (Qh rfl (Qh a2 (QR ?_)))));rw[b2];refine ih ρ q r N _ PG an an b3 ?_;refine ll λkj G6=>?_;refine Qh rfl (Qh a2 (ig (λhb=>?_) (λhb=>?_)))
    ·have hi:0<i:=by have:=of_decide_eq_true hb;rw[b1]at this;exact this
     refine Qh rfl (Qh a2 (fR ?_ ?_))
     ·have:=tc (π:=ρ);simp only[List.length_cons,List.length_nil];omega
     ·subst G6;rw[Qc2,if_pos hi]at U;rw[b1];exact U
    ·have hi:¬0<i:=by have:=of_decide_eq_false hb;rw[b1]at this;exact this
     subst G6;rw[Qc2,if_neg hi]at U;exact U
theorem Zv (h:Inv S C T Ta B Zo ck loc s) {π:List Int} {p r N:Nat} {Q:List Int->Prop} (hN:1000<N)(Pp:π.length<=1000)(hp:loc p=some (r,π))(U:Q (oJ π)):X9 N p s Q:=by
 obtain⟨R,x,a1,a2,_,a3⟩:=h.gPart hp;unfold X9;refine Qh a2 ?_;rcases List.eq_nil_or_concat π with e|⟨ρ,i,e⟩
 ·subst e;refine jj (by rw[(a3.top rfl).1];rfl) ?_;exact U
 ·have e:π=ρ++[i]:=by simpa using e
  subst e;obtain⟨b1,q,b2,b3⟩:=a3.up ρ i rfl;have hl:ρ.length+1<=1000:=by simpa using Pp
  refine z6 (by rw[b2];rfl) (QR ?_);rw[b2];refine TW h _ ρ q r N _ rfl an an b3 ?_;refine ll λkj G6=>?_;refine ig (λhb=>?_) (λhb=>?_)
  ·have hi:0<i:=by have:=of_decide_eq_true hb;rw[b1]at this;exact this
   refine fR ?_ ?_
   ·have:=tc (π:=ρ);simp only[List.length_cons,List.length_nil];omega
   ·subst G6;rw[Qc2,if_pos hi]at U;rw[b1];exact U
  ·have hi:¬0<i:=by have:=of_decide_eq_false hb;rw[b1]at this;exact this
   subst G6;rw[Qc2,if_neg hi]at U;exact U
def FC (loc:Loc)(y:Nat):List Int:=((loc y).getD (0,[])).2
theorem I5 {N:Nat} {Q:List QB->Prop} (hN:B0+4000000<=N)(hG:ru S I P C)(h:pV S P C facts loc s)(hQ:Q (E5 S facts C.rows 0)):WT N C.g s Q:=by
 have gH:∀f∈facts,0<f.id:=λf hf=>by have:=(h.fr f hf).2;omega
 have hn:=h.ris.nodup;obtain⟨x,W8,_,_,Gg,_⟩:=h.inv.gNet;have W9:x.rows.length=C.rows.length:=by rw[Gg,List.length_map]
 have PB:=hG.rows;unfold WT;refine r6 hG h ?_;refine z6 rfl ?_;refine ll λkj G6=>?_;refine Qh W8 ?_;refine wQ (λ(u,l)=>u<=C.rows.length/\l=E5 S facts (C.rows.take u) 0) (λ(u,_)=>C.rows.length-u) ?_ N (0,[]) ⟨Nat.zero_le _,by simp[E5]⟩ (by dsimp only;omega);rintro⟨u,l⟩ ag ⟨hu,hl⟩ eY;dsimp only at hu hl eY⊢;refine ig (λhb=>?_) (λhb=>?_)
 ·have bp:u<C.rows.length:=by have:=of_decide_eq_true hb;omega
  obtain⟨R,hR⟩:∃R,C.rows[u]? =some R:=⟨_,List.getElem?_eq_getElem bp⟩
  have ox:=List.mem_of_getElem? hR;have bw:=hG.steps R ox;refine Qh (a:=R.b) (by rw[Gg,List.getElem?_map,hR];rfl) ?_;refine ll λkj2 Nt=>?_;obtain⟨y,Wa,_,_,_,_,_,hy2⟩:=h.inv.gRow hR;refine Qh Wa ?_;have PE:=Fi (S:=S) h.ris gH (l:=R.steps) (e:=(R.hs,R.vs));have sJ:C.rows.take (u+1)=C.rows.take u++[R]:=by rw[List.take_add_one,hR];rfl
  have a1s:(qO S facts R.steps (R.hs,R.vs)).length<=4096:=by
   have h1:=h.le;rw[<-List.take_append_drop (u+1) C.rows,sJ,tG,tG]at h1;have h2:fV S facts [R]=(qO S facts R.steps (R.hs,R.vs)).length+0:=rfl;omega
  have zP:∀z,z∈y.whole.keys↔∃π,loc z=some (u,π)/\π.length=R.steps.length:=λz=>by
   rw[hy2 z];constructor;· rintro⟨h1,_⟩;exact h1
   · exactλh1=>⟨h1,ax⟩
  have W7:∀z,z∈y.whole.keys->loc z=some (u,FC loc z)/\FC loc z∈uK S facts R.steps (R.hs,R.vs):=λz U=>by
   obtain⟨π,h1,h2⟩:=(zP z).1 U;have h3:FC loc z=π:=by unfold FC;rw[h1];rfl
   rw[h3];exact⟨h1,(RV hn).2 ⟨h2,h.inv.sound hR _ _ _ rfl h1⟩⟩
  have uy:∀d:List Nat,d.Nodup->(∀z∈d,z∈y.whole.keys)->(d.map (FC loc)).Nodup:=λd hd hk=>by
   refine List.Pairwise.map _ (λa b BU e=>?_) (List.Pairwise.and_mem.1 hd);obtain⟨h1,h2,h3⟩:=BU;have q1:=(W7 a (hk a h1)).1;have q2:=(W7 b (hk b h2)).1;rw[<-e]at q2;exact h3 (h.inv.inj _ _ _ q1 q2)
  have Nj:∀d:List Nat,d.Nodup->(∀z∈d,z∈y.whole.keys)->d.length<=4097:=λd hd hk=>by
   have h1:=GV (uy d hd hk) λz U=>by
    obtain⟨w,hw,rfl⟩:=List.mem_map.1 U;exact(W7 w (hk w hw)).2
   rw[List.length_map]at h1;omega
  refine wQ (λ(d,t)=>d.Nodup/\(∀z∈d,z∈y.whole.keys)/\t=d.map λz=>DL u (FC loc z)) (λ(d,_)=>4097-d.length) ?_ N (([]:List Nat),[]) ⟨List.nodup_nil,(λ_ h=>by cases h),rfl⟩ (by dsimp only;omega);rintro⟨d,t⟩ ag2 ⟨CT,tY,VW⟩ G1;dsimp only at CT tY VW G1⊢;have a1l:=Nj d CT tY;refine OY (λej=>?_) (λz U hzd=>?_)
  ·subst Nt
   have YZ:(d.map (FC loc)).Perm (uK S facts R.steps (R.hs,R.vs)):=(List.perm_ext_iff_of_nodup (uy d CT tY) (wi h.ris gH)).2 λπ=>by
    constructor
    ·intro jb;obtain⟨w,hw,rfl⟩:=List.mem_map.1 jb;exact(W7 w (tY w hw)).2
    ·intro jb;obtain⟨h1,h2⟩:=(RV hn).1 jb;obtain⟨w,hw⟩:=h.comp u R hR π h2;rw[List.nil_append]at hw;have h3:FC loc w=π:=by unfold FC;rw[hw];rfl
     exact List.mem_map.2 ⟨w,ej w ((zP w).2 ⟨π,hw,h1⟩),h3⟩
   have gS:((uK S facts R.steps (R.hs,R.vs)).map (DL u)).Perm t:=by
    rw[VW];have:=(YZ.map (DL u)).symm;rw[List.map_map]at this;exact this
   have htl:t.length=d.length:=by rw[VW,List.length_map]
   refine Qh (La (k:=((u:Nat):Int)) an (λw hw=>?_) an gS ?_) ?_
   ·rw[VW]at hw;obtain⟨z,U,rfl⟩:=List.mem_map.1 hw;have h1:=((RV hn).1 (W7 z (tY z U)).2).1;have h2:=tc (π:=FC loc z);exact⟨rfl,by show(oJ _).length<_;omega⟩
   · exact List.Pairwise.map _ (λa b BU=>BU) (lL h.ris gH)
   ·have hfl:=vn (S:=S) h.ris gH (l:=C.rows.take u) (k:=0)
    have htu:fV S facts (C.rows.take u)<=4096:=by
     have h1:=h.le;rw[<-List.take_append_drop u C.rows,tG]at h1;omega
    have hul:(C.rows.take u).length=u:=by rw[List.length_take];omega
    refine fR (by rw[hl,List.length_map];omega) ?_;refine fR an ?_;refine eY (u+1,l++(uK S facts R.steps (R.hs,R.vs)).map (DL u)) ⟨an,?_⟩ an;rw[sJ,si,hl,hul,Nat.zero_add]
  ·obtain ⟨v,hv⟩:=MS.look_iff.1 U;refine Qh hv (QR ?_);obtain⟨w1,w2⟩:=W7 z U;have w3:=((RV hn).1 w2).1;refine Zv h.inv an an w1 ?_
   have Ps:(d++[z]).Nodup:=by
    rw[List.nodup_append];refine⟨CT,ax,λa ha b hb e=>?_⟩;rw[List.mem_singleton.1 hb]at e;exact hzd (e▸ha)
   have dx:∀w∈d++[z],w∈y.whole.keys:=λw hw=>by
    rcases List.mem_append.1 hw with hw|hw;· exact tY w hw
    · rw[List.mem_singleton.1 hw];exact U
   have a0z:=Nj _ Ps dx;rw[List.length_append,List.length_singleton]at a0z;have htl:t.length=d.length:=by rw[VW,List.length_map]
   refine fR (by rw[List.length_singleton];omega) ?_;refine G1 (d++[z],t++[DL u (FC loc z)]) ⟨Ps,dx,?_⟩ (by dsimp only;rw[List.length_append,List.length_singleton];omega);rw[VW,List.map_append];rfl
 ·subst G6;have:C.rows.take u=C.rows:=List.take_of_length_le (by have:=of_decide_eq_false hb;omega);rw[this]at hl;rw[hl];exact hQ
end
end
section
open Go Go.RowKit
def BJ {α:Type} (p:α->Bool):List α->Nat->Int
 |[],_=>-1
 |x::l,i=>if p x then((i:Nat):Int)else BJ p l (i+1)
theorem Xs {α:Type} {p:α->Bool}:∀(l:List α)(i:Nat),decide (BJ p l i>=0)=l.any p
 |[],_=>by simp[BJ]
 | x::l,i=>by
   unfold BJ;cases h:p x with
   |true=>simp[h]
   |false=>simp[h];exact(Xs l (i+1))
theorem Vx {α:Type} {l:List α} {f:Nat->Option (Nat⊕(Unit⊕Int))} {p:α->Bool} (step:∀i (h:i<l.length),f i=if p l[i]=true then some (.inr (.inr ((i:Nat):Int)))else some (.inl (i+1)))(stop:f l.length=some (.inr (.inl ()))):
   ∀(m i fuel:Nat),i+m=l.length->m<fuel->j7 (fF f fuel i) (λ_=>some (-1))=some (BJ p (l.drop i) i):=by
 intro m;induction m with
 | zero=>
   intro i fuel hi U;obtain⟨fuel,rfl⟩:∃q,fuel=q+1:=⟨fuel-1,an⟩
   obtain rfl:i=l.length:=an
   rw[ua stop,rv,List.drop_length];rfl
 | succ m ih=>
   intro i fuel hi U;obtain⟨fuel,rfl⟩:∃q,fuel=q+1:=⟨fuel-1,an⟩
   have h:i<l.length:=an
   rw[List.drop_eq_getElem_cons h];unfold BJ;by_cases hp:p l[i]=true;· rw[if_pos hp,ua (by rw[step i h,if_pos hp]),H3]
   ·rw[if_neg hp,Lz (by rw[step i h,if_neg hp])];exact ih (i+1) fuel an an
noncomputable def pZ (v:V):Bool:=@decide (Hb v) (Classical.propDecidable _)
noncomputable def kB (s:ByteArray):Bool:=@decide (MC s.data.toList) (Classical.propDecidable _)
theorem AR {m:Option Bool} {p:Prop} (h:jW m p):m=some (@decide p (Classical.propDecidable _)):=by
 obtain⟨b,h1,U⟩:=h;rw[h1];congr 1;rw[Bool.eq_iff_iff,U,@decide_eq_true_iff _ (Classical.propDecidable _)]
theorem Qc3 (N:Nat)(v:V):yC N v.k v.n v.s=some (pZ v):=AR (mY N v)
theorem Ar (N:Nat)(s:ByteArray):Vs N s=some (kB s):=by
 unfold Vs;have h:=mY N (⟨2,0,s⟩:V);have U:jW (yC N 2 0 s) (MC s.data.toList):=h.iff (by unfold Hb;simp);rw[AR U,Q1];rfl
def wX:V:=⟨0,0,⟨#[]⟩⟩
mutual
noncomputable def kp (vars:Int):Q4->Bool
 | ⟨k,v,x,op,kids⟩=>
   if k=1 then decide (x=0/\op=0/\kids.length=0)&&pZ v
   else if k=2 then decide (v=wX/\op=0/\kids.length=0/\0<=x/\x<vars)
   else if k=3 then decide (v=wX/\x=0/\1<=op/\op<=11/\kids.length=(if op=4\/op=11 then 1 else 2))&&MA vars kids
   else false
noncomputable def MA (vars:Int):List Q4->Bool
 |[]=>true
 |x::l=>kp vars x&&MA vars l
end
theorem kU (vars:Int):∀l:List Q4,MA vars l=!(l.any λx=> !kp vars x)
 |[]=>by simp[MA]
 |x::l=>by rw[MA,kU vars l,List.any_cons];cases kp vars x<;>simp
theorem mU (N:Nat)(k a b:Int)(s:ByteArray)(x op:Int)(kids:List Q4)(p q r:Bool):
  OI N k a b s x op kids p q r=some ((p||decide ((⟨a,b,s⟩:V)=wX))&&((q||decide (x=0))&&(r||(decide (op=0)&&decide (kids.length=0))))):=by
 unfold OI Q87 wX;have U:(x==0)=decide (x=0):=by rw[Bool.eq_iff_iff];simp
 have e2:(op==0)=decide (op=0):=by rw[Bool.eq_iff_iff];simp
 have e3:(kids.length==0)=decide (kids.length=0):=by rw[Bool.eq_iff_iff];simp
 rw[U,e2,e3];cases p<;>cases q<;>cases r<;>cases decide ((⟨a,b,s⟩:V)=⟨0,0,⟨#[]⟩⟩)<;>cases decide (x=0)<;>cases decide (op=0)<;>cases decide (kids.length=0)<;>rfl
theorem Ei {types:List Q9} {rules:List Qb} {vars facts:Int}:∀(m N:Nat) (e:Q4),nodes e<=m->m<=1000000->9223372036854775808+m<=N->
    OE N types rules vars facts e.kind e.value.k e.value.n e.value.s e.var e.op e.kids=some (kp vars e):=by
  intro m;induction m with
  |zero=>intro N e h;rw[Mq]at h;omega
  | succ m ih =>
    intro N e h hm hN;obtain⟨N,rfl⟩:∃q,N=q+1:=⟨N-1,an⟩
    obtain⟨k,v,x,op,kids⟩:=e;have hk:Ha kids<=m:=by rw[Mq]at h;simp only at h;omega
    show WK N (OE N) types rules vars facts k v.k v.n v.s x op kids=_;unfold WK;rw[kp];by_cases h1:k=1
    · rw[br h1,if_pos h1,mU,Q1];simp only[Bool.true_or,Bool.true_and,Bool.false_or];by_cases U:(decide (x=0)&&(decide (op=0)&&decide (kids.length=0)))=true
      · rw[if_pos U,Qc3,Q1];congr 1;simp at U;simp[U]
      · rw[if_neg U];congr 1;simp at U;symm;rw[Bool.and_eq_false_iff];left;simpa using U
    · rw [bs h1,if_neg h1];by_cases U:k=2
      · rw[br U,if_pos U,mU,Q1];simp only[Bool.true_or,Bool.true_and,Bool.false_or];have ev:(⟨v.k,v.n,v.s⟩:V)=v:=rfl;rw[ev];by_cases h3:(decide (v=wX)&&(decide (op=0)&&decide (kids.length=0)))=true
        · rw[if_pos h3];simp at h3;by_cases h4:0<=x
          · rw[br h4];congr 1;simp[h3,h4]
          · rw[bs h4];congr 1;simp[h4]
        · rw[if_neg h3];congr 1;simp at h3;simp;intro a b c;exact absurd c (h3 a b)
      · rw [bs U,if_neg U];by_cases h3:k=3
        · rw [br h3,if_pos h3]
          have hw:Q4G N op=some (if op=4\/op=11 then 1 else 2):=by
            unfold Q4G;by_cases a:op=4;· rw[br a,Q1,if_pos rfl,if_pos (.inl a)]
            · rw[bs a,Q1];by_cases b:op=11;· rw[br b,if_pos (.inr b)]
              · rw[bs b,if_neg an]
          have hex:WB N (OE N) types rules vars facts kids=some (MA vars kids):=by
            unfold WB Q2u Q31;have hl:=Vz kids;rw[Vx (l:=kids) (p:=λy=>!kp vars y) (λi hi=>by
              unfold Wt Q3F;have hn:=RC (List.getElem_mem hi);rw[br hi,List.getElem?_eq_getElem hi,Q1,ih N kids[i] an an an,Q1,Q1];by_cases hb:(!kp vars kids[i])=true;· rw[if_pos hb,if_pos hb]
              · rw[if_neg hb,if_neg hb,QY an]) (by
              unfold Wt;rw[if_neg ax]) kids.length 0 N an an,Q1,Q1,List.drop_zero,Xs,kU]
          rw[hw,Q1];unfold Q5U;rw[mU,Q1];simp only[Bool.true_or,Bool.false_or,Bool.and_true];have ev:(⟨v.k,v.n,v.s⟩:V)=v:=rfl;rw[ev];by_cases c1:v=wX/\x=0
          · rw [if_pos (by simp[c1])];by_cases c2:1<=op
            · rw[br c2];by_cases c3:op<=11
              · rw[br c3];by_cases c4:kids.length=(if op=4\/op=11 then 1 else 2)
                · rw[br c4,hex,Q1,Q1];congr 1;rw[decide_eq_true ⟨c1.1,c1.2,c2,c3,c4⟩,Bool.true_and]
                · rw[bs c4,Q1,decide_eq_false (λh=>c4 h.2.2.2.2),Bool.false_and]
              · rw[bs c3,Q1,decide_eq_false (λh=>c3 h.2.2.2.1),Bool.false_and]
            · rw[bs c2,Q1,decide_eq_false (λh=>c2 h.2.2.1),Bool.false_and]
          · rw[bs c1,Q1,decide_eq_false (λh=>c1 ⟨h.1,h.2.1⟩),Bool.false_and]
        · rw[bs h3,if_neg h3]
end
section
open Go Go.RowKit Classical
theorem XI {n:Int}:(if n<0 then 45::jf 20 n.natAbs else jf 20 n.toNat)=(ui n).data.toList:=by
 unfold ui;simp
def Ld (l:List UInt8):Nat:=l.foldl (λa b=>a*10+(b.toNat-48)) 0
theorem qH (u:Nat)(h:u<10):(UInt8.ofNat (48+u)).toNat=48+u:=by
 rw[UInt8.toNat_ofNat'];omega
theorem mu:∀(f u:Nat),u<10^(f+1)->Ld (jf (f+1) u)=u
 | f,u,hu=>by
   unfold jf;by_cases h:u<10
   ·rw[if_pos h];simp only[Ld,List.foldl_cons,List.foldl_nil,qH u h];omega
   ·rw[if_neg h];cases f with
    |zero=>simp at hu;omega
    | succ f=>
      have U:=mu f (u/10) (by rw[Nat.pow_succ]at hu;omega);unfold Ld at U⊢;rw[List.foldl_append,U];simp only[List.foldl_cons,List.foldl_nil,qH _ (Nat.mod_lt u (by omega:0<10))];omega
theorem mr:∀(f u:Nat),∀b∈jf f u,48<=b.toNat/\b.toNat<=57
 |0,_,b,h=>by simp[jf]at h
 | f+1,u,b,h=>by
   unfold jf at h;split at h
   ·rename_i hu;rw[List.mem_singleton]at h;subst h;have:=qH u hu;rw[this];omega
   ·rcases List.mem_append.1 h with h|h;· exact mr f _ b h
    ·rw[List.mem_singleton]at h;subst h;have:=qH (u%10) (Nat.mod_lt u an);rw[this];omega
theorem Sd (f u:Nat):jf (f+1) u≠[]:=by
 unfold jf;split<;>simp
theorem Ag {n m:Int} (hn:-9223372036854775808<=n/\n<=9223372036854775807)(hm:-9223372036854775808<=m/\m<=9223372036854775807)(h:(ui n).data.toList=(ui m).data.toList):n=m:=by
 have hp:(10:Nat)^20=100000000000000000000:=bj
 rw[<-XI,<-XI]at h;by_cases h1:n<0<;>by_cases U:m<0
 ·rw[if_pos h1,if_pos U]at h;have h3:=congrArg Ld (List.cons.inj h).2;rw[mu 19 _ (by rw[hp];omega),mu 19 _ (by rw[hp];omega)]at h3;omega
 ·rw[if_pos h1,if_neg U]at h;have:=mr 20 m.toNat 45 (by rw[<-h];simp);exact absurd this.1 bj
 ·rw[if_neg h1,if_pos U]at h;have:=mr 20 n.toNat 45 (by rw[h];simp);exact absurd this.1 bj
 ·rw[if_neg h1,if_neg U]at h;have h3:=congrArg Ld h;rw[mu 19 _ (by rw[hp];omega),mu 19 _ (by rw[hp];omega)]at h3;omega
theorem mK {n:Int}:∀b∈(ui n).data.toList,b≠44/\b≠39:=by
 rw[<-XI];intro b U;split at U
 ·rcases List.mem_cons.1 U with rfl|U;· exact⟨bj,bj⟩
  ·have:=mr _ _ b U;exact⟨λe=>by subst e;exact absurd this.1 bj,λe=>by subst e;exact absurd this.1 bj⟩
 ·have:=mr _ _ b U;exact⟨λe=>by subst e;exact absurd this.1 bj,λe=>by subst e;exact absurd this.1 bj⟩
theorem NJ {n:Int}:(ui n).data.toList≠[]:=by
 rw[<-XI];split;· simp
 · exact Sd 19 _
theorem xj:∀(f u:Nat),(jf f u).length<=f
 |0,_=>by simp[jf]
 | f+1,u=>by
   unfold jf;split;· simp
   ·have:=xj f (u/10);rw[List.length_append,List.length_singleton];omega
theorem vw {n:Int}:(ui n).size<=21:=by
 have h:(ui n).size=(ui n).data.toList.length:=rfl;rw[h,<-XI];split
 ·have:=xj 20 n.natAbs;rw[List.length_cons];omega
 ·have:=xj 20 n.toNat
  omega
def Bw:fl:=⟨1,0,⟨0,0,⟨#[]⟩⟩⟩
def iP (l:List fl):List fl:=l.map λa=>if a.k=4 then a else Bw
theorem tk {v:V} (h:pZ v=true):Hb v:=@of_decide_eq_true _ (Classical.propDecidable _) h
noncomputable def wV (v:V):ByteArray:=if pZ v=true then(if v.k=2 then(⟨#[39]⟩:ByteArray)++v.s else ui v.n)else⟨#[]⟩
theorem Om (N:Nat) {v:V} (h:du v.n)(hs:v.s.size<=140737488351232):Xg N v.k v.n v.s=some (wV v):=by
 unfold Xg wV;rw[Qc3,Q1];cases hr:pZ v with
 |false=>rfl
 | true=>
   rw[if_neg ax,if_pos rfl];by_cases U:v.k=2
   ·have e1:(⟨#[39]⟩:ByteArray).size=1:=rfl;rw[br U,if_pos U,QY (by rw[e1];omega)]
   · rw[bs U,if_neg U,QY (show-9223372036854775808<=v.n/\v.n<=9223372036854775807 from h)]
theorem GI {v:V} (hs:v.s.size<=140737488351232):(wV v).size<=140737488351233:=by
 unfold wV;split
 ·split
  ·have U:(⟨#[39]⟩:ByteArray).size=1:=rfl;rw[ByteArray.size_append,U];omega
  · have:=vw (n:=v.n);omega
 · show 0<=_;omega
theorem Qc6 {v:V} (U:pZ v=true):(wV v).data.toList=if v.k=2 then 39::v.s.data.toList else(ui v.n).data.toList:=by
 unfold wV;rw[if_pos U];split;· simp[ByteArray.data_append]
 · rfl
theorem Fe {v:V}:∀b∈(wV v).data.toList,b≠44:=by
 intro b U;cases hr:pZ v with
 |false=>unfold wV at U;rw[hr]at U;cases U
 | true=>
   rw[Qc6 hr]at U;split at U
   ·rename_i h2;rcases List.mem_cons.1 U with rfl|U;· decide
    ·have hp:Hb v:=tk hr;rcases hp with⟨h1,_⟩|⟨_,_,_,_,_,h3⟩
     · omega
     ·have:=h3 b U;intro e;subst e;unfold De uC at this;revert this;decide
   · exact(mK b U).1
theorem L8 {v w:V} (hv:pZ v=true)(hw:pZ w=true)(iv:du v.n)(iw:du w.n)(h:(wV v).data.toList=(wV w).data.toList):v=w:=by
 rw[Qc6 hv,Qc6 hw]at h;have pv:Hb v:=tk hv;have pw:Hb w:=tk hw;obtain⟨k1,n1,⟨⟨s1⟩⟩⟩:=v;obtain⟨k2,n2,⟨⟨s2⟩⟩⟩:=w;unfold Hb at pv pw;simp only at pv pw h iv iw;rcases pv with⟨U,a2⟩|⟨U,a2,a3⟩<;>rcases pw with⟨b1,b2⟩|⟨b1,b2,b3⟩
 ·rw[if_neg an,if_neg an]at h;have:=Ag iv iw h;rw[U,b1,a2,b2,this]
 ·rw[if_neg an,if_pos b1]at h;exact absurd rfl (mK 39 (by rw[h];simp)).2
 ·rw[if_pos U,if_neg an]at h;exact absurd rfl (mK 39 (by rw[<-h];simp)).2
 ·rw[if_pos U,if_pos b1]at h;rw[U,b1,a2,b2,(List.cons.inj h).2]
theorem Bf {v:V} (U:pZ v=true):(wV v).data.toList≠[]:=by
 rw[Qc6 U];split;· simp
 · exact NJ
theorem wb:(wV Bw.v).data.toList=[]:=by
 unfold wV
 have:pZ Bw.v=false:=by
  unfold pZ;refine @decide_eq_false _ (Classical.propDecidable _) λh=>?_
  rcases h with⟨h,_⟩|⟨h,_⟩
  · exact absurd h bj
  · exact absurd h bj
 rw[this];rfl
theorem yf:∀{a b r U:List UInt8},(∀x∈a,x≠44)->(∀x∈b,x≠44)->(r=[]\/∃t,r=44::t)->(U=[]\/∃t,U=44::t)->a++r=b++U->a=b/\r=U
 |[],[],_,_,_,_,_,_,h=>⟨rfl,h⟩
 | [],y::b,r,U,_,hb,hr,_,h=>by
   rcases hr with rfl|⟨t,rfl⟩
   · cases h
   · exact absurd (List.cons.inj h).1.symm (hb y List.mem_cons_self)
 | x::a,[],r,U,ha,_,_,cy,h=>by
   rcases cy with rfl|⟨t,rfl⟩
   · cases h
   · exact absurd (List.cons.inj h).1 (ha x List.mem_cons_self)
 | x::a,y::b,r,U,ha,hb,hr,cy,h=>by
   obtain⟨h1,h2⟩:=List.cons.inj h;obtain⟨h3,h4⟩:=yf (λz hz=>ha z (List.mem_cons_of_mem _ hz)) (λz hz=>hb z (List.mem_cons_of_mem _ hz)) hr cy h2;exact⟨by rw[h1,h3],h4⟩
def rp (a:fl):Prop:=a=Bw\/(a.k=4/\a.var=0/\pZ a.v=true/\du a.v.n)
noncomputable def iY (l:List fl):List UInt8:=l.flatMap λa=>44::(wV a.v).data.toList
noncomputable def Al (kind:Int)(l:List fl):List UInt8:=(ui kind).data.toList++iY l
theorem QaT:∀l:List fl,iY l=[]\/∃t,iY l=44::t
 |[]=>.inl rfl
 |a::l=>.inr ⟨_,rfl⟩
theorem Be:∀{l m:List fl},(∀a∈l,rp a)->(∀a∈m,rp a)->iY l=iY m->l=m
 |[],[],_,_,_=>rfl
 |[],b::m,_,_,h=>by cases h
 |a::l,[],_,_,h=>by cases h
 | a::l,b::m,ha,hb,h=>by
   have h1:=(List.cons.inj (show 44::((wV a.v).data.toList++iY l)=44::((wV b.v).data.toList++iY m)from h)).2;obtain⟨U,h3⟩:=yf Fe Fe (QaT l) (QaT m) h1;rw[Be (λx hx=>ha x (List.mem_cons_of_mem _ hx)) (λx hx=>hb x (List.mem_cons_of_mem _ hx)) h3];congr 1;rcases ha a List.mem_cons_self with e1|⟨p1,p2,p3,p4⟩<;>rcases hb b List.mem_cons_self with e2|⟨q1,q2,q3,q4⟩
   · rw[e1,e2]
   ·subst e1;rw[wb]at U;exact absurd U.symm (Bf q3)
   ·subst e2;rw[wb]at U;exact absurd U (Bf p3)
   ·have h4:=L8 p3 q3 p4 q4 U;obtain⟨k1,v1,x1⟩:=a;obtain⟨k2,v2,x2⟩:=b;simp only at p1 p2 q1 q2 h4;rw[p1,p2,q1,q2,h4]
theorem key_inj {k k':Int} {l m:List fl} (hk:du k)(dx:du k')(hl:∀a∈l,rp a)(hm:∀a∈m,rp a)(h:Al k l=Al k' m):k=k'/\l=m:=by
 obtain⟨h1,h2⟩:=yf (λb U=>(mK b U).1) (λb U=>(mK b U).1) (QaT l) (QaT m) h;exact⟨Ag hk dx h1,Be hl hm h2⟩
end
section
open Go Go.RowKit
def ug (types:List Q9)(kind fields:Int):Bool:=match types[kind.toNat]? with
 |some t=>decide (0<=kind)&&t.fields==fields
 |none=>false
theorem Bg (N:Nat)(types:List Q9)(rules:List Qb)(a b kind fields:Int):Vk N types rules a b kind fields=some (ug types kind fields):=by
 unfold Vk ug;by_cases h:0<=kind
 ·rw [br h];by_cases h2:kind<((types.length:Nat):Int)
  ·have U:kind.toNat<types.length:=an
   rw[br h2,QY h,List.getElem?_eq_getElem U,Q1];simp[h]
  · rw[bs h2,List.getElem?_eq_none an]
 ·rw[bs h];split;· simp[h]
  · rfl
noncomputable def jX (binds:Bool)(vars:Int)(a:fl):Bool×Int:=
 if a.k=1 then(decide (a.var=0/\a.v=wX),vars)
 else if a.k=2 then(binds&&decide (a.var=vars/\a.v=wX),vars+1)
 else if a.k=3 then(decide (0<=a.var/\a.var<vars/\a.v=wX),vars)
 else if a.k=4 then(decide (a.var=0)&&pZ a.v,vars)
 else(false,vars)
theorem RZ (N:Nat)(types:List Q9)(rules:List Qb) {vars:Int} (hv:0<=vars/\vars<=1000000000)(b:Int)(a:fl)(binds:Bool):X3 N types rules vars b a.k a.var a.v.k a.v.n a.v.s binds=some (jX binds vars a):=by
 unfold X3 jX;have ev:(⟨a.v.k,a.v.n,a.v.s⟩:V)=a.v:=rfl;rw[ev];by_cases h1:a.k=1
 ·rw[br h1,if_pos h1];by_cases h:a.var=0;· rw[br h];simp[h,wX]
  · rw[bs h];simp[h]
 ·rw [bs h1,if_neg h1];by_cases U:a.k=2
  ·rw[br U,if_pos U,QY an];cases binds with
   |false=>rw[if_neg ax];simp
   | true=>
     rw[if_pos rfl,QY an,show vars+1-1=vars from by omega];by_cases h:a.var=vars;· rw[br h];simp[h,wX]
     · rw[bs h];simp[h]
  ·rw [bs U,if_neg U];by_cases h3:a.k=3
   · rw[br h3,if_pos h3];by_cases h:0<=a.var
     ·rw[br h];by_cases h':a.var<vars;· rw[br h'];simp[h,h',wX]
      · rw[bs h'];simp[h']
     · rw[bs h];simp[h]
   · rw[bs h3,if_neg h3];by_cases h4:a.k=4
     ·rw[br h4,if_pos h4];by_cases h:a.var=0;· rw[br h,Qc3,Q1];simp[h]
      · rw[bs h];simp[h]
     · rw[bs h4,if_neg h4]
theorem ze (binds:Bool)(vars:Int)(a:fl):(jX binds vars a).2=vars\/(jX binds vars a).2=vars+1:=by
 unfold jX;split;· exact .inl rfl
 ·split;· exact .inr rfl
  ·split;· exact .inl rfl
   · split<;>exact .inl rfl
noncomputable def BM (binds:Bool):List fl->Int->Bool×Int
 |[],vars=>(true,vars)
 |a::l,vars=>if(jX binds vars a).1=true then BM binds l (jX binds vars a).2 else(false,(jX binds vars a).2)
theorem vd (binds:Bool):∀(l:List fl)(vars:Int),vars<=(BM binds l vars).2/\(BM binds l vars).2<=vars+((l.length:Nat):Int)
 |[],vars=>by simp[BM]
 | a::l,vars=>by
   unfold BM;have h:=ze binds vars a;split
   ·have:=vd binds l (jX binds vars a).2;simp only[List.length_cons];omega
   · simp only[List.length_cons];omega
theorem FK {N:Nat} {types:List Q9} {rules:List Qb} {facts kind:Int} {l:List fl} (hl:l.length<=1000000):
   ∀ (m i fuel:Nat) (vars:Int),i+m=l.length->m<fuel->0<=vars->vars+((m:Nat):Int)<=1000000000->
     fF (Rp N l types rules facts kind) fuel (i,vars)=some (if(BM (kind==1) (l.drop i) vars).1=true then .inl (BM (kind==1) (l.drop i) vars).2 else .inr (false,(BM (kind==1) (l.drop i) vars).2,facts)):=by
 intro m;induction m with
 | zero=>
   intro i fuel vars hi hf U hv;obtain⟨fuel,rfl⟩:∃q,fuel=q+1:=⟨fuel-1,an⟩
   obtain rfl:i=l.length:=an
   rw[ua (o:=.inl vars) (by unfold Rp;simp only;rw[if_neg ax]),List.drop_length];simp[BM]
 | succ m ih=>
   intro i fuel vars hi hf U hv;obtain⟨fuel,rfl⟩:∃q,fuel=q+1:=⟨fuel-1,an⟩
   have h:i<l.length:=an
   have hs:Rp N l types rules facts kind (i,vars)=if(jX (kind==1) vars l[i]).1=true then some (.inl (i+1,(jX (kind==1) vars l[i]).2))else some (.inr (.inr (false,(jX (kind==1) vars l[i]).2,facts))):=by
     unfold Rp;simp only;rw[br h,List.getElem?_eq_getElem h,Q1,RZ N types rules an facts l[i] (kind==1),Q1];by_cases hb:(jX (kind==1) vars l[i]).1=true
     ·simp only[hb,Bool.not_true,Bool.false_eq_true,if_false,if_true];rw[QY an]
     ·simp only[Bool.not_eq_true]at hb;simp only[hb,Bool.not_false,if_true,Bool.false_eq_true,if_false]
   rw[List.drop_eq_getElem_cons h];rw[BM];have hv2:=ze (kind==1) vars l[i];by_cases hb:(jX (kind==1) vars l[i]).1=true
   · rw[if_pos hb]at hs⊢;rw[Lz hs];exact ih (i+1) fuel _ an an an an
   · rw[if_neg hb]at hs⊢;rw[ua hs];simp
def wo (e:Q4):Bool:=decide (e.kind=0/\e.value=wX/\e.var=0/\e.op=0/\e.kids.length=0)
noncomputable def rz (types:List Q9)(vars facts:Int)(c:Qv):Bool×Int×Int:=
 if c.kind=1\/c.kind=2 then
  if ug types c.type ((c.args.length:Nat):Int)&&wo c.test then
   (if(BM (c.kind==1) c.args vars).1=true then(true,(BM (c.kind==1) c.args vars).2,if c.kind=1 then facts+1 else facts)else(false,(BM (c.kind==1) c.args vars).2,facts))
  else(false,vars,facts)
 else if c.kind=3 then(decide (c.type=0/\c.args.length=0)&&kp vars c.test,vars,facts)
 else(false,vars,facts)
theorem MO {N:Nat} {types:List Q9} {rules:List Qb} {vars facts:Int} {c:Qv} (hN:9223372036854775808+1000000<=N)(ha:c.args.length<=1000000)(ht:nodes c.test<=1000000)(hv:0<=vars/\vars<=1000000)(hf:0<=facts/\facts<=1000000):
  WQ N types rules vars facts c.kind c.type c.args c.test.kind c.test.value.k c.test.value.n c.test.value.s c.test.var c.test.op c.test.kids=some (rz types vars facts c):=by
 unfold WQ rz
 have e12:(if(c.kind==1)=true then some (c.kind==1)else some (c.kind==2))=some (decide (c.kind=1\/c.kind=2)):=by
  by_cases h:c.kind=1;· simp[h]
  · rw[bs h];congr 1;rw[Bool.eq_iff_iff];simp[h]
 rw[e12,Q1];by_cases U:c.kind=1\/c.kind=2
 ·rw [br U,if_pos U]
  have Ng:Q4F N types rules vars facts c.type c.args c.test.kind c.test.value.k c.test.value.n c.test.value.s c.test.var c.test.op c.test.kids=some (!(ug types c.type ((c.args.length:Nat):Int)&&wo c.test)):=by
   unfold Q4F;rw[Bg,Q1];cases ht:ug types c.type ((c.args.length:Nat):Int)with
   |false=>simp
   | true=>
     rw[if_neg ax];by_cases hk:c.test.kind=0
     ·rw[bs hk,mU,Q1];congr 1;unfold wo;have ev:(⟨c.test.value.k,c.test.value.n,c.test.value.s⟩:V)=c.test.value:=rfl;rw[ev,Bool.eq_iff_iff];simp[hk]
     ·rw[br hk];congr 1;unfold wo;simp[hk]
  rw[Ng,Q1];by_cases hg:(ug types c.type ((c.args.length:Nat):Int)&&wo c.test)=true
  ·rw[if_neg (by rw[hg];simp),if_pos hg,FK ha c.args.length 0 N vars an an hv.1 an,List.drop_zero];by_cases hb:(BM (c.kind==1) c.args vars).1=true
   · rw[if_pos hb,if_pos hb,rv];by_cases h1:c.kind=1;· rw[br h1,QY an,Q1,if_pos h1]
     · rw[bs h1,Q1,if_neg h1]
   · rw[if_neg hb,if_neg hb,H3]
  ·have hgf:(ug types c.type ((c.args.length:Nat):Int)&&wo c.test)=false:=by simpa only[Bool.not_eq_true]using hg
   rw[hgf,if_pos Ic,if_neg ax]
 ·rw [bs U,if_neg U];by_cases h3:c.kind=3
  ·rw[br h3,if_pos h3];by_cases h4:c.type=0
   · rw[br h4];by_cases h5:c.args.length=0
     ·rw[br h5,Ei 1000000 N c.test ht an an,Q1];congr 1;rw[decide_eq_true ⟨h4,h5⟩,Bool.true_and]
     · rw[bs h5,decide_eq_false (λh=>h5 h.2),Bool.false_and]
   · rw[bs h4,decide_eq_false (λh=>h4 h.1),Bool.false_and]
  · rw[bs h3,if_neg h3]
end
end Go.Proofs.YtocfkfhdcnjklaaGreatDoor
