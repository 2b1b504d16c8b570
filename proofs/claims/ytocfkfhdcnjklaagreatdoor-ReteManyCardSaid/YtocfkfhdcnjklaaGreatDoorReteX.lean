import Derived.Test.YtocfkfhdcnjklaaGreatDoorReteJ
namespace Go.Proofs.YtocfkfhdcnjklaaGreatDoor
section
open Go Go.RowKit Classical
section
variable {S:fh} {I:ew->Prop} {C:fC} {T:bx} {cj:Option Nat} {loc:Loc} {s:Q8} {D:List Int}
theorem N7 {N:Nat} {f:Qq} {Q:Q8->Prop} (hW:oi C) (hT:iy T D) (hD:D.length<=3518437208882) (hlen:C.rows.length<=9223372036854775806) (hsl:∀R∈C.rows,R.steps.length<9223372036854775807/\B0+D.length+R.steps.length+2<N) (YJ:4099<N) (cn:∀R∈C.rows,∀sc∈R.steps,wR S I C T sc) (hI:∀R∈C.rows,∀π e,fF S T R.steps (R.hs,R.vs) π=some e->I e)
  (hA:∀A∈C.als,A.args.length<N/\A.args.length<9223372036854775807/\(f.ty=A.kind->∀(j:Nat) (a:eN),A.args[j]? =some a->∃v,f.args[j]? =some v)) (hf:T f.id=some f) (hid:f.id≠0)
  (h:Inv S C T (λ_=>T) (λ_ _=>(T,T)) (λ_=>False) none loc s) (a16:∀y r π,loc y=some (r,π)->f.id∉π) (hP:∀(r:Nat) (R:eQ) (π:List Int),C.rows[r]? =some R->fH S T R.steps (R.hs,R.vs) π≠none->f.id∉π->∃y,loc y=some (r,π))
  (hQ:∀bg s',Inv S C T (λ_=>T) (λ_ _=>(T,T)) (λ_=>False) none bg s'->kz loc bg->(∀y r π,bg y=some (r,π)->loc y=none->f.id∈π)->(qd bg->wH S C T bg)->Q s'):Ep (λst σ=>VA N st f.id f.ty f.args σ) C.g s Q:=by
 refine xC (E:=λr σ=>∃bg,Inv S C T (λ_=>T) (λ_ _=>(T,T)) (λ_=>False) none bg σ/\kz loc bg/\(∀y U π,bg y=some (U,π)->loc y=none->U<r/\f.id∈π)/\(qd bg->∀(U:Nat) (R:eQ),U<r->C.rows[U]? =some R->iL S T bg U [] R.steps (R.hs,R.vs)))
  (J:=λr m σ=>∃bg,Inv S C T (λ_=>T) (λ_ _=>(T,T)) (λ_=>False) none bg σ/\kz loc bg/\(∀y U π,bg y=some (U,π)->loc y=none->(U<r/\f.id∈π)\/(U=r/\∃k,m<=k/\π[k]? =some f.id))/\(qd bg->(∀(U:Nat) (R:eQ),U<r->C.rows[U]? =some R->iL S T bg U [] R.steps (R.hs,R.vs))/\∀(R:eQ) (π:List Int),C.rows[r]? =some R->fH S T R.steps (R.hs,R.vs) π≠none->(∀k,k<m->π[k]? ≠some f.id)->∃y,bg y=some (r,π)))
  hlen (λR hR=>by have:=(hsl R hR).1;omega) (λr σ ⟨_,h1,_⟩=>h1.shape) (λr m σ ⟨_,h1,_⟩=>h1.shape) (λr R σ hr ⟨da,h1,h2,hn,h3⟩=>⟨da,h1,h2,λy U π e1 e2=>.inl (hn y U π e1 e2),λfS=>⟨h3 fS,λR' π cy hi hb=>?_⟩⟩) (λr R m sc σ Q' hr ⟨da,h1,h2,hn,h3⟩ eE JB=>?_) (λr σ ⟨da,h1,h2,hn,h3⟩=>⟨da,h1,h2,λy U π e1 e2=>?_,λfS U R cy hR=>?_⟩) ⟨loc,h,kz.refl _,(λy U π e1 e2=>by rw[e1]at e2;cases e2),λ_ U R cy=>absurd cy (Nat.not_lt_zero _)⟩ (λσ ⟨da,h1,h2,hn,h3⟩=>hQ da σ h1 h2 (λy r π e1 e2=>(hn y r π e1 e2).2) λfS U R hR=>h3 fS U R (List.getElem?_eq_some_iff.1 hR).1 hR)
 ·rw [hr]at cy;cases cy;obtain⟨e,he⟩:=Option.ne_none_iff_exists'.1 hi;have hl:=my (M0 he)
  obtain ⟨y,hy⟩:=hP r R π hr hi λhm=>by
   obtain⟨k,hk⟩:=List.mem_iff_getElem?.1 hm;have:=(List.getElem?_eq_some_iff.1 hk).1;exact hb k an hk
  exact⟨y,h2 _ _ hy⟩
 ·have oE:=List.mem_of_getElem? hr;obtain⟨GG,GH⟩:=hsl R oE;have tk:(∀a,sc.st≠.join a)->Q' σ:=λhnj=>JB σ ⟨da,h1,h2,λy U π e1 e2=>?_,λfS=>⟨(h3 fS).1,λR' π cy hi hb=>(h3 fS).2 R' π cy hi λk hk=>?_⟩⟩
  ·cases bw:sc.st with
   |nt a=>exact jR (QS (tk λa' e=>by rw[bw]at e;cases e))
   |test a=>exact jS (QS (tk λa' e=>by rw[bw]at e;cases e))
   | join a =>
     refine jQ (QS ?_);refine Aw (I:=I) (M:=4097) hW hT hD hr eE bw GG (cn R oE) (hI R oE) GH an hA (λ_ _ _ hz=>hz) hf (λ_ _=>rfl) h1 h1.le (λy ρ R1 hy=>?_) λeu s2 iN iq mI uj=>?_
     ·cases hl:loc y with
      | some l=>
        have:=h2 _ _ hl;rw[hy]at this;cases this;exact a16 y _ _ hl ax
      | none=>
        rcases hn y _ _ hy hl with⟨e1,_⟩|⟨_,k,e1,e2⟩
        · exact Nat.lt_irrefl _ e1
        · have:=(List.getElem?_eq_some_iff.1 e2).1;simp only[List.length_append,List.length_cons,List.length_nil]at this;omega
     ·refine JB s2 ⟨eu,iN,h2.trans iq,λy U π e1 e2=>?_,λfS=>?_⟩
      · cases hl:da y with
        | some l=>
          have:=iq _ _ hl;rw[e1]at this;cases this;rcases hn y _ _ hl e2 with e3|⟨e3,k,e4,e5⟩
          · exact .inl e3
          · exact .inr ⟨e3,k,an,e5⟩
        | none=>
          obtain⟨q,ρ,τ,f1,f2,f3⟩:=mI y _ e1 hl;simp only[Prod.mk.injEq]at f3;obtain⟨rfl,rfl⟩:=f3;refine .inr ⟨rfl,m,Nat.le_refl _,?_⟩;rw[List.append_assoc,List.getElem?_append_right an,f2];simp
      · have U2:=Xw h1.cnt iq fS iN.cnt;obtain⟨h4,h5⟩:=h3 U2;refine⟨λU R' cy Ny=>(h4 U R' cy Ny).mono iq,λR' π cy hi hb=>?_⟩;rw[hr]at cy;cases cy;by_cases hm:π[m]? =some f.id
        · obtain⟨g1,g2⟩:=Bb hm
          have gI:fH S T R.steps (R.hs,R.vs) (π.take m++(f.id::π.drop (m+1)))≠none:=by
            have:π.take m++(f.id::π.drop (m+1))=π:=by
              conv=>rhs;rw[g1]
              simp
            rw[this];exact hi
          rw[Pf]at gI;cases fy:fH S T R.steps (R.hs,R.vs) (π.take m)with
          |none=>rw[fy]at gI;exact absurd rfl gI
          | some e'=>
            rw[fy,Option.bind_some,g2,P8 eE]at gI;simp only[fH,iY,bw,hf,Option.bind_some]at gI;cases hmt:S.mt sc.c e'.1 e'.2 f with
            |none=>rw[hmt]at gI;exact absurd rfl gI
            | some e2=>
              rw[hmt,Option.bind_some]at gI
              obtain ⟨q,hq⟩:=h5 R (π.take m) hr (by rw[fy];simp) λk hk Z6=>by
               have bq:=(List.getElem?_eq_some_iff.1 Z6).1;rw[g2]at bq;refine hb k bq ?_;rw[List.getElem?_take_of_lt bq]at Z6;exact Z6
              obtain⟨y,hy⟩:=uj fS q (π.take m) e' e2 hq g2 (M0 fy) hmt (π.drop (m+1)) gI;exact⟨y,by rw[hy,<-g1]⟩
        · obtain⟨y,hy⟩:=h5 R π hr hi λk hk=>by
            by_cases h6:k=m;· rw[h6];exact hm
            · exact hb k an
          exact⟨y,iq _ _ hy⟩
  ·rcases hn y U π e1 e2 with e3|⟨e3,k,e4,e5⟩
   · exact .inl e3
   · exact .inr ⟨e3,k,an,e5⟩
  ·rw[hr]at cy;cases cy;by_cases h6:k=m
   · subst h6;intro Z6;obtain⟨e,he⟩:=Option.ne_none_iff_exists'.1 hi;exact hid (ov (M0 he) eE hnj Z6)
   · exact hb k an
 ·rcases hn y U π e1 e2 with⟨e3,e4⟩|⟨e3,k,_,e5⟩
  · exact⟨an,e4⟩
  · exact⟨an,List.mem_of_getElem? e5⟩
 ·obtain ⟨h4,h5⟩:=h3 fS;by_cases hh:U<r;· exact h4 U R hh hR
  ·have:U=r:=an
   subst this;intro τ fT;obtain⟨y,hy⟩:=h5 R τ hR fT λk hk=>absurd hk (Nat.not_lt_zero _)
   exact⟨y,by simpa using hy⟩
end
end
section
open Go Go.RowKit Classical
structure Wf (C:fC):Prop where
 ofKey:∀k a,C.alphas.look k=some a->∃A∈C.als,A.b=a
 key:∀A∈C.als,∃k,C.alphas.look k=some A.b
def kR (T:bx)(id:Int):bx:=λi=>if i=id then none else T i
section
variable {S:fh} {I:ew->Prop} {C:fC} {T T0 Tn:bx} {Ta:Nat->bx} {B:Nat->List Int->bx×bx} {Zo:Nat->Prop} {cj:Option Nat} {loc:Loc} {s:Q8} {D:List Int}
theorem Nt {N:Nat} {id:Int} {K:Q8->WM Q8} {Q:Q8->Prop} (hA:Wf C)(hN:C.alphas.keys.length<N)(h:Inv S C T Ta B Zo none loc s)
  (ht:∀A∈C.als,∀i,kR (Ta A.b) id i=Tn i) (hg:∀i,kR (Ta C.g) id i=Tn i)
  (hQ:∀s',Inv S C T (λ_=>Tn) B Zo none loc s'->K s' Q):
  (Qu (gNet s C.g) λuV=>
 gR (cq s C.g (PO.net ({uV with facts:=MS.del uV.facts id}))) λs3=>
gR (cq s3 C.g (PO.net ({({uV with facts:=MS.del uV.facts id}:fo)with rows:=({uV with facts:=MS.del uV.facts id}:fo).rows}))) λs7=>
j6 (λ(Iq:(Nat×(MS ByteArray Nat)×(List ByteArray)×Q8)->WM Q8) ((ae,ah,ab,aa))=>
 Qu (gNet aa C.g) λWA=>
 eU (WA.alphas=ah/\WA.alphasA=ae)<|
 jw WA.alphas ab (
 K aa
 ) λk16=>(
 Qu (MS.look WA.alphas k16) λLD=>
 Qu (uh aa LD) λLF=>
 gR (cq aa LD (PO.alpha ({LF with facts:=MS.del LF.facts id}))) λs8=>
 Iq (WA.alphasA,WA.alphas,ab++[k16],s8)
 )
) N ((({uV with facts:=MS.del uV.facts id}:fo).alphasA),(({uV with facts:=MS.del uV.facts id}:fo).alphas),([]:List ByteArray),s7)) Q:=by
  obtain⟨x,g1,g2,g3,g4,g5,g6,g7,g8,g9,_⟩:=h.gNet;refine Qi g1 (lV (lV ?_));rw[ry]
  have h1:=h.setNet (Tb:=Tn) (fm:=x.facts.del id) g2 (MS.nodup_del g9.1) λi=>by
    rw[MS.look_del,<-hg,g9.2];rfl
  refine wX (λ(b,m,d,σ)=>b=C.alphasA/\m=C.alphas/\d.Nodup/\(∀k∈d,k∈C.alphas.keys)/\∃Tc:Nat->bx,Inv S C T Tc B Zo none loc σ/\Tc C.g=Tn/\(∀A∈C.als,Tc A.b=Tn\/(Tc A.b=Ta A.b/\∀k∈d,C.alphas.look k≠some A.b))) (λ(_,_,d,_)=>C.alphas.keys.length-d.length) ?_ N _ ⟨g8,g7,List.nodup_nil,(λk hk=>by cases hk),_,h1,if_pos rfl,λA uH=>?_⟩ (by show C.alphas.keys.length-0<N;omega)
  · rintro ⟨b,m,d,σ⟩ ag ⟨rfl,rfl,kp,mG,Tc,hi,YK,PH⟩ fa;dsimp only at kp mG fa⊢;obtain⟨y,q1,q2,_,_,_,_,q6,q7,_⟩:=hi.gNet;refine Qi q1 ?_;refine fQ ⟨q6,q7⟩ ?_;rw[q6];refine Ph (λef=>?_) λk hk Dn=>?_
    · refine hQ σ (hi.congrTa YK.symm λA uH=>?_);rcases PH A uH with e|⟨_,e⟩
      · exact e.symm
      · obtain⟨k,hk⟩:=hA.key A uH;exact absurd hk (e k (ef k (MS.look_iff.2 ⟨_,hk⟩)))
    · obtain⟨a,ha⟩:=MS.look_iff.1 hk;obtain⟨A,pH,rfl⟩:=hA.ofKey k a ha;obtain⟨z,z1,z2,z3,z4,z5⟩:=hi.al A pH;refine Qi ha ?_;refine Qi (W0 z1) ?_;refine lV ?_
      have bq:d.length<C.alphas.keys.length:=by
        have:=Hm (List.nodup_cons.2 ⟨Dn,kp⟩) (l:=C.alphas.keys) (by
          intro j U;rcases List.mem_cons.1 U with rfl|U;· exact hk
          · exact mG j U)
        simp only[List.length_cons]at this;omega
      have hAg:A.b≠C.g:=λe=>by rw[e,q2]at z1;cases z1
      have h2:=hi.setAlpha (Tb:=Tn) (fm:=z.facts.del id) pH z1 (MS.nodup_del z4) λi=>by
        rw[MS.look_del,z5]
        have e2:∀i,Tn i=kR (Tc A.b) id i:=λi=>by
          rcases PH A pH with e|⟨e,_⟩
          · rw[e];have h5:=ht A pH i;unfold kR at h5⊢;by_cases eo:i=id;· rw[if_pos eo]at h5⊢;exact h5.symm
            · rw[if_neg eo]
          · rw[e,ht A pH i]
        rw[e2];unfold kR;by_cases eo:i=id<;>simp[eo]
      rw[q7];refine fa _ ⟨rfl,rfl,List.nodup_append.2 ⟨kp,ax,λy hy w hw e1=>Dn (by simp at hw;rw[<-hw,<-e1];exact hy)⟩,(λj U=>?_),_,h2,?_,λA' uH=>?_⟩ (by show C.alphas.keys.length-(d++[k]).length<C.alphas.keys.length-d.length;simp only[List.length_append,List.length_cons,List.length_nil];omega)
      · rcases List.mem_append.1 U with U|U;· exact mG j U
        · rw[List.mem_singleton.1 U];exact hk
      · exact(if_neg (Ne.symm hAg)).trans YK
      · by_cases e:A'.b=A.b;· exact .inl (if_pos e)
        · rcases PH A' uH with e1|⟨e1,e2⟩
          · exact .inl ((if_neg e).trans e1)
          · refine .inr ⟨(if_neg e).trans e1,λj U A7=>?_⟩;rcases List.mem_append.1 U with U|U;· exact e2 j U A7
            · rw[List.mem_singleton.1 U,ha]at A7;exact e (Option.some.inj A7).symm
  · refine .inr ⟨if_neg λe=>?_,λk hk=>by cases hk⟩;obtain⟨z,z1,_⟩:=h.al A uH;rw[e,g2]at z1;cases z1
end
end
section
open Go Go.RowKit Classical
def iJ (T:bx)(f:Qq):bx:=λi=>if i=f.id then some f else T i
section
variable {S:fh} {I:ew->Prop} {C:fC} {T T0 Tn:bx} {B:Nat->List Int->bx×bx} {Zo:Nat->Prop} {cj:Option Nat} {loc:Loc} {s:Q8} {D:List Int}
theorem N5 {N:Nat} {f:Qq} {K:Q8->WM Q8} {Q:Q8->Prop} (hA:Wf C)(hN:C.alphas.keys.length<N)(Mh:T0 f.id=none)(YD:∀A∈C.als,A.args.length<N/\A.args.length<9223372036854775807/\(f.ty=A.kind->∀(j:Nat)(a:eN),A.args[j]? =some a->∃v,f.args[j]? =some v))
  (h:Inv S C T (λ_=>T0) B Zo none loc s) (hQ:∀s',Inv S C T (λ_=>iJ T0 f) B Zo none loc s'->K s' Q):
  (Qu (gNet s C.g) λuV=>
 gR (cq s C.g (PO.net ({uV with facts:=MS.put uV.facts f.id (⟨f.id,f.ty,f.args⟩:Qq)}))) λs3=>
gR (cq s3 C.g (PO.net ({({uV with facts:=MS.put uV.facts f.id (⟨f.id,f.ty,f.args⟩:Qq)}:fo)with rows:=({uV with facts:=MS.put uV.facts f.id (⟨f.id,f.ty,f.args⟩:Qq)}:fo).rows}))) λs7=>
j6 (λ(Iq:(Nat×(MS ByteArray Nat)×(List ByteArray)×Q8)->WM Q8) ((ae,ah,ab,aa))=>
 Qu (gNet aa C.g) λLD=>
 eU (LD.alphas=ah/\LD.alphasA=ae)<|
 jw LD.alphas ab (
 K aa
 ) λk18=>(
 Qu (MS.look LD.alphas k18) λx20=>
 eH (Mw N x20 f.id f.ty f.args aa) λv24=>
 fj (v24) (
  Qu (uh aa x20) λLF=>
  gR (cq aa x20 (PO.alpha ({LF with facts:=MS.put LF.facts f.id (⟨f.id,f.ty,f.args⟩:Qq)}))) λs8=>
  Iq (LD.alphasA,LD.alphas,ab++[k18],s8)
 ) (
  Iq (LD.alphasA,LD.alphas,ab++[k18],aa)
 )
 )
) N ((({uV with facts:=MS.put uV.facts f.id (⟨f.id,f.ty,f.args⟩:Qq)}:fo).alphasA),(({uV with facts:=MS.put uV.facts f.id (⟨f.id,f.ty,f.args⟩:Qq)}:fo).alphas),([]:List ByteArray),s7)) Q:=by
  obtain⟨x,g1,g2,g3,g4,g5,g6,g7,g8,g9,_⟩:=h.gNet;refine Qi g1 (lV (lV ?_));rw[ry]
  have h1:=h.setNet (Tb:=iJ T0 f) (fm:=x.facts.put f.id ⟨f.id,f.ty,f.args⟩) g2 (MS.nodup_put g9.1) λi=>by
    rw[MS.look_put,g9.2];rfl
  refine wX (λ(b,m,d,σ)=>b=C.alphasA/\m=C.alphas/\d.Nodup/\(∀k∈d,k∈C.alphas.keys)/\∃Tc:Nat->bx,Inv S C T Tc B Zo none loc σ/\Tc C.g=iJ T0 f/\(∀A∈C.als,Tc A.b=iJ T0 f\/(Tc A.b=T0/\∀k∈d,C.alphas.look k≠some A.b))) (λ(_,_,d,_)=>C.alphas.keys.length-d.length) ?_ N _ ⟨g8,g7,List.nodup_nil,(λk hk=>by cases hk),_,h1,if_pos rfl,λA uH=>?_⟩ (by show C.alphas.keys.length-0<N;omega)
  · rintro ⟨b,m,d,σ⟩ ag ⟨rfl,rfl,kp,mG,Tc,hi,YK,PH⟩ fa;dsimp only at kp mG fa⊢;obtain⟨y,q1,q2,_,_,_,_,q6,q7,_⟩:=hi.gNet;refine Qi q1 ?_;refine fQ ⟨q6,q7⟩ ?_;rw[q6];refine Ph (λef=>?_) λk hk Dn=>?_
    · refine hQ σ (hi.congrTa YK.symm λA uH=>?_);rcases PH A uH with e|⟨_,e⟩
      · exact e.symm
      · obtain⟨k,hk⟩:=hA.key A uH;exact absurd hk (e k (ef k (MS.look_iff.2 ⟨_,hk⟩)))
    · obtain ⟨a,ha⟩:=MS.look_iff.1 hk;obtain⟨A,pH,rfl⟩:=hA.ofKey k a ha;obtain⟨z,z1,z2,z3,z4,z5⟩:=hi.al A pH;obtain⟨r1,r2,r3⟩:=YD A pH;refine Qi ha ?_;refine QS ?_
      have bq:d.length<C.alphas.keys.length:=by
        have:=Hm (List.nodup_cons.2 ⟨Dn,kp⟩) (l:=C.alphas.keys) (by
          intro j U;rcases List.mem_cons.1 U with rfl|U;· exact hk
          · exact mG j U)
        simp only[List.length_cons]at this;omega
      have hAg:A.b≠C.g:=λe=>by rw[e,q2]at z1;cases z1
      rw[q7]
      have next:∀E9,Inv S C T (λb=>if b=A.b then iJ T0 f else Tc b) B Zo none loc E9->ag (C.alphasA,C.alphas,d++[k],E9) Q:=λE9 h2=>by
        refine fa _ ⟨rfl,rfl,List.nodup_append.2 ⟨kp,ax,λy hy w hw e1=>Dn (by simp at hw;rw[<-hw,<-e1];exact hy)⟩,(λj U=>?_),_,h2,?_,λA' uH=>?_⟩ (by show C.alphas.keys.length-(d++[k]).length<C.alphas.keys.length-d.length;simp only[List.length_append,List.length_cons,List.length_nil];omega)
        · rcases List.mem_append.1 U with U|U;· exact mG j U
          · rw[List.mem_singleton.1 U];exact hk
        · exact(if_neg (Ne.symm hAg)).trans YK
        · by_cases e:A'.b=A.b;· exact .inl (if_pos e)
          · rcases PH A' uH with e1|⟨e1,e2⟩
            · exact .inl ((if_neg e).trans e1)
            · refine .inr ⟨(if_neg e).trans e1,λj U A7=>?_⟩;rcases List.mem_append.1 U with U|U;· exact e2 j U A7
              · rw[List.mem_singleton.1 U,ha]at A7;exact e (Option.some.inj A7).symm
      have same:∀i,i≠f.id->Tc A.b i=T0 i:=λi eo=>by
        rcases PH A pH with e|⟨e,_⟩
        · rw[e];exact if_neg eo
        · rw[e]
      refine JD (hi.al A pH) r1 r2 r3 ?_;refine iu (λhb=>?_) (λhb=>?_)
      · refine Qi (W0 z1) ?_;refine lV ?_;refine next _ (hi.setAlpha (Tb:=iJ T0 f) (fm:=z.facts.put f.id ⟨f.id,f.ty,f.args⟩) pH z1 (MS.nodup_put z4) λi=>?_)
        rw[MS.look_put,z5];unfold iJ;by_cases eo:i=f.id
        · rw[if_pos eo,if_pos eo];simp only[Option.filter,hb,if_true]
        · rw[if_neg eo,if_neg eo,same i eo]
      · refine next σ ?_
        have:=hi.setAlpha (Tb:=iJ T0 f) (fm:=z.facts) pH z1 z4 λi=>by
          rw[z5];unfold iJ;by_cases eo:i=f.id
          · rw[if_pos eo,eo];rcases PH A pH with e|⟨e,_⟩
            · rw[e];unfold iJ;rw[if_pos rfl]
            · rw[e,Mh];simp[Option.filter,hb]
          · rw[if_neg eo,same i eo]
        rwa [tW z1]at this
  · refine .inr ⟨if_neg λe=>?_,λk hk=>by cases hk⟩;obtain⟨z,z1,_⟩:=h.al A uH;rw[e,g2]at z1;cases z1
end
end
section
open Go Go.RowKit Classical
section
variable {S:fh} {I:ew->Prop} {C:fC} {T T0:bx} {loc:Loc} {s:Q8} {D:List Int}
theorem kX {id:Int} (hT:T id=none)(hid:id≠0):∀{π:List Int} {l:List eM} {e U:ew},fF S T l e π=some U->id∉π
 |[],l,e,U,_=>ax
 |i::π,[],e,U,h=>by cases h
 | i ::π,sc::l,e,U,h=>by
   simp only[fF]at h;cases h1:fU S T sc e i with
   |none=>rw[h1]at h;cases h
   | some e1=>
     rw[h1]at h;have ih:=kX hT hid h;intro hm;rcases List.mem_cons.1 hm with e2|e2
     ·subst e2;unfold fU at h1;cases bw:sc.st with
      |join a=>rw[bw]at h1;simp only[hT]at h1;cases h1
      |nt a=>rw[bw]at h1;simp only[if_neg hid]at h1;cases h1
      |test a=>rw[bw]at h1;simp only[hid,false_and,if_false]at h1;cases h1
     · exact ih e2
theorem Jw {N:Nat} {id:Int} {Q:Q8->Prop} (hW:oi C)(hA:Wf C)(hT:iy (kR T0 id) D)(hD:D.length<=3518437208882)(hlen:C.rows.length<=9223372036854775806)(hsl:∀R∈C.rows,R.steps.length<9223372036854775807/\B0+D.length+R.steps.length+R.steps.length+4099<N)(hAN:C.alphas.keys.length<N)(cn:∀R∈C.rows,∀sc∈R.steps,wR S I C (kR T0 id) sc)(hI:∀R∈C.rows,∀π e,fF S (kR T0 id) R.steps (R.hs,R.vs) π=some e->I e)(YJ:4099<N)(hid:id≠0)
  (h:Inv S C T0 (λ_=>T0) (λ_ _=>(T0,T0)) (λ_=>False) none loc s) (hP:∀(r:Nat) (R:eQ) (π:List Int),C.rows[r]? =some R->fH S (kR T0 id) R.steps (R.hs,R.vs) π≠none->(∀k,¬HV S (kR T0 id) T0 id R π k)->∃y,loc y=some (r,π))
  (hQ:∀U s',Inv S C (kR T0 id) (λ_=>kR T0 id) (λ_ _=>(kR T0 id,kR T0 id)) (λ_=>False) none U s'->(∀y r π,loc y=some (r,π)->id∉π->U y=some (r,π))->(qd U->wH S C (kR T0 id) U)->Q s'):VL N C.g id s Q:=by
 unfold VL;refine Nt (K:=λj=>eH (Ep (λlJ lI=>VB N lJ id lI) C.g j) λs5=>eH (Ep (λlJ lI=>VC N lJ id lI) C.g s5) λs6=>eG s6) (Tn:=kR T0 id) hA hAN h (λ_ _ _=>rfl) (λ_=>rfl) λs3 h3=>?_
 refine QS ?_;refine Nu (M:=4097) hW hlen (λR hR=>⟨(hsl R hR).1,by have:=(hsl R hR).2;omega⟩) an hid h3 h3.le λda s1 h4 iX=>?_;refine QS ?_
 have h5:=h4.congrT (T':=kR T0 id) (λp r π R e hp hr he=>by
  have hn:id∉π:=((iX p (r,π)).1 hp).2;exact(zH (T:=T0) (T':=kR T0 id) (id:=id) (λi hi=>if_neg hi) hn).trans he)
 refine Nv (I:=I) hW hT hD hlen (λR hR=>⟨(hsl R hR).1,by have:=(hsl R hR).2;omega⟩) YJ cn hI (if_pos rfl) (λi hi=>(if_neg hi).symm) h5 (λr R π hr hi hb=>?_) λU s' g1 g2 g3=>hQ U s' g1 (λy r π hy hn=>g2 _ _ ((iX y _).2 ⟨hy,hn⟩)) g3;obtain⟨y,hy⟩:=hP r R π hr hi hb;obtain⟨e,he⟩:=Option.ne_none_iff_exists'.1 hi;exact⟨y,(iX y _).2 ⟨hy,kX (T:=kR T0 id) (if_pos rfl) hid (M0 he)⟩⟩
end
end
section
open Go Go.RowKit Classical
section
variable {S:fh} {I:ew->Prop} {C:fC} {T T0:bx} {loc:Loc} {s:Q8} {D:List Int}
theorem Oc {f:Qq} {R:eQ} {π:List Int} (hf:T f.id=some f)(hi:fH S T R.steps (R.hs,R.vs) π≠none):∀k,¬FR S T f R π k:=λk ⟨e1,sc,a,e,e2,e3,e4,e5⟩=>by
 have U:fH S T R.steps (R.hs,R.vs) (π.take k++π.drop k)≠none:=by rw[List.take_append_drop];exact hi
 rw[Pf]at U;cases fy:fH S T R.steps (R.hs,R.vs) (π.take k)with
 |none=>rw[fy]at U;exact U rfl
 | some e'=>
   have YU:e'=e:=by have:=M0 fy;rw[e4]at this;exact(Option.some.inj this).symm
   subst YU;have hl:(π.take k).length=k:=by simp;omega
   rw[fy,Option.bind_some,hl,P8 e2,List.drop_eq_getElem_cons e1]at U;simp only[fH,iY,e3]at U;rw[if_neg (λhh=>hh.2 f.id ⟨f,hf,e5⟩)]at U;exact U rfl
theorem ID {N:Nat} {f:Qq} {Q:Q8->Prop} (hW:oi C)(hA:Wf C)(hT:iy (iJ T0 f) D)(hD:D.length<=3518437208882)(hlen:C.rows.length<=9223372036854775806)(hsl:∀R∈C.rows,R.steps.length<9223372036854775807/\B0+D.length+R.steps.length+R.steps.length+4099<N)(hAN:C.alphas.keys.length<N)(cn:∀R∈C.rows,∀sc∈R.steps,wR S I C (iJ T0 f) sc)(hI:∀R∈C.rows,∀π e,fF S (iJ T0 f) R.steps (R.hs,R.vs) π=some e->I e)(hN0:B0+4099<N)(hid:f.id≠0)(Mh:T0 f.id=none)
  (YD:∀A∈C.als,A.args.length<N/\A.args.length<9223372036854775807/\(f.ty=A.kind->∀(j:Nat) (a:eN),A.args[j]? =some a->∃v,f.args[j]? =some v))
  (h:Inv S C T0 (λ_=>T0) (λ_ _=>(T0,T0)) (λ_=>False) none loc s) (hP:∀(r:Nat) (R:eQ) (π:List Int),C.rows[r]? =some R->fH S (iJ T0 f) R.steps (R.hs,R.vs) π≠none->f.id∉π->∃y,loc y=some (r,π))
  (hQ:∀bg s',Inv S C (iJ T0 f) (λ_=>iJ T0 f) (λ_ _=>(iJ T0 f,iJ T0 f)) (λ_=>False) none bg s'->(∀y r π,loc y=some (r,π)->(¬∃R k,C.rows[r]? =some R/\FR S (iJ T0 f) f R π k)->bg y=some (r,π))->(qd bg->wH S C (iJ T0 f) bg)->Q s'):RL N C.g f.id f.ty f.args s Q:=by
 have hf:iJ T0 f f.id=some f:=if_pos rfl
 have gK:xi T0 (iJ T0 f):=λi g hg=>by
  unfold iJ;rw[if_neg (λe=>by rw[e,Mh]at hg;cases hg)];exact hg
 have h1:=h.congrT (T':=iJ T0 f) (λp r π R e _ _ he=>sw gK he)
 have NO:∀y r π,loc y=some (r,π)->f.id∉π:=λy r π hy=>by
  obtain⟨R,x,_,_,a3⟩:=h.part y r π hy;exact kX Mh hid a3.env
 unfold RL;refine N5 (K:=λj=>eH (Ep (λlJ lI=>Vz N lJ f.id f.ty f.args lI) C.g j) λs5=>eH (Ep (λlJ lI=>VA N lJ f.id f.ty f.args lI) C.g s5) λs6=>eG s6) hA hAN Mh YD h1 λs3 h3=>?_
 refine QS ?_;refine N6 (I:=I) hW hlen (λR U=>⟨(hsl R U).1,by have:=(hsl R U).2;omega⟩) an cn hI YD hf Mh (λi hi=>(if_neg hi).symm) h3 λda s1 h4 iX=>?_;refine QS ?_;refine N7 (I:=I) hW hT hD hlen (λR U=>⟨(hsl R U).1,by have:=(hsl R U).2;omega⟩) an cn hI YD hf hid h4 (λy r π hy=>NO y r π ((iX y r π).1 hy).1) (λr R π hr hi hn=>?_) λeu s2 h5 iq _ hc=>hQ eu s2 h5 (λy r π hy mJ=>iq _ _ ((iX y r π).2 ⟨hy,mJ⟩)) hc;obtain⟨y,hy⟩:=hP r R π hr hi hn;refine⟨y,(iX y r π).2 ⟨hy,λ⟨R',k,e1,e2⟩=>?_⟩⟩;rw[hr]at e1;cases e1;exact Oc hf hi k e2
end
end
section
open Go Go.RowKit
structure Er where
 mt:Qp->List Bool->List V->Qq->Option (List Bool×List V)
 ev:Qp->List V->Bool
 sm:Qp->List Bool->List V->Bool
section
variable (S:Er) (facts:List Qq)
def goN:List Qp->List Bool->List V->List Int->List (List Int×List V)
 |[],_,vs,ids=>[(ids,vs)]
 | c::cs,hs,vs,ids=>
   if c.kind=3 then(if S.ev c vs then goN cs hs vs ids else[])
   else if c.kind=2 then(if S.sm c hs vs then[]else goN cs hs vs ids)
   else facts.flatMap λf=>match S.mt c hs vs f with
    |some p=>goN cs p.1 p.2 (ids++[f.id])
    |none=>[]
def yR:List Qp->List Bool->List V->Nat
 |[],_,_=>0
 | c::cs,hs,vs=>
   if c.kind=3 then(if S.ev c vs then 1+yR cs hs vs else 0)
   else if c.kind=2 then(if S.sm c hs vs then 0 else 1+yR cs hs vs)
   else (facts.map λf=>match S.mt c hs vs f with
    |some p=>1+yR cs p.1 p.2
    |none=>0).sum
def UA (c:Qp)(cs:List Qp)(hs:List Bool)(vs:List V)(ids:List Int)(f:Qq):List (List Int×List V):=match S.mt c hs vs f with
 |some p=>goN S facts cs p.1 p.2 (ids++[f.id])
 |none=>[]
def Sw (c:Qp)(cs:List Qp)(hs:List Bool)(vs:List V)(f:Qq):Nat:=match S.mt c hs vs f with
 |some p=>1+yR S facts cs p.1 p.2
 |none=>0
end
def Rm (r:Int)(x:List Int×List V):QA:=⟨r,x.1⟩
section
variable {S:Er} {facts:List Qq} {c:Qp} {cs:List Qp} {hs:List Bool} {vs:List V} {ids:List Int}
theorem Yd (h:c.kind=3):yR S facts (c::cs) hs vs=if S.ev c vs then 1+yR S facts cs hs vs else 0:=by rw[yR,if_pos h]
theorem IE (U:¬c.kind=3)(h:c.kind=2):yR S facts (c::cs) hs vs=if S.sm c hs vs then 0 else 1+yR S facts cs hs vs:=by rw[yR,if_neg U,if_pos h]
theorem Pu (U:¬c.kind=3)(h:¬c.kind=2):yR S facts (c::cs) hs vs=(facts.map (Sw S facts c cs hs vs)).sum:=by rw[yR,if_neg U,if_neg h];rfl
theorem go3 (h:c.kind=3):goN S facts (c::cs) hs vs ids=if S.ev c vs then goN S facts cs hs vs ids else[]:=by rw[goN,if_pos h]
theorem go2 (U:¬c.kind=3)(h:c.kind=2):goN S facts (c::cs) hs vs ids=if S.sm c hs vs then[]else goN S facts cs hs vs ids:=by rw[goN,if_neg U,if_pos h]
theorem go1 (U:¬c.kind=3)(h:¬c.kind=2):goN S facts (c::cs) hs vs ids=facts.flatMap (UA S facts c cs hs vs ids):=by rw[goN,if_neg U,if_neg h];rfl
end
end
section
open Go Go.RowKit Classical
def eF (facts:List Qq):bx:=λi=>facts.find? λf=>decide (f.id=i)
theorem FT {facts:List Qq} (hn:(facts.map (·.id)).Nodup) {i:Int} {f:Qq}:eF facts i=some f↔f∈facts/\f.id=i:=by
 unfold eF;induction facts with
 |nil=>simp
 | cons g l ih=>
   rw[List.map_cons,List.nodup_cons]at hn;rw[List.find?_cons];by_cases hg:g.id=i
   ·rw [decide_eq_true hg];constructor;· intro h;cases h;exact⟨List.mem_cons_self,hg⟩
    ·rintro⟨h1,U⟩;rcases List.mem_cons.1 h1 with rfl|h1;· rfl
     · exact absurd (List.mem_map.2 ⟨f,h1,by rw[U,hg]⟩) hn.1
   ·rw [decide_eq_false hg];show l.find? _=some f↔_;rw[ih hn.2];constructor;· rintro⟨h1,U⟩;exact⟨List.mem_cons_of_mem _ h1,U⟩
    ·rintro⟨h1,U⟩;rcases List.mem_cons.1 h1 with rfl|h1;· exact absurd U hg
     · exact⟨h1,U⟩
theorem DX {facts:List Qq} {i:Int}:eF facts i=none↔∀f∈facts,f.id≠i:=by
 unfold eF;rw[List.find?_eq_none];simp
def nI (S:fh)(facts:List Qq):Er:=⟨S.mt,S.ev,λc hs vs=>facts.any λf=>(S.mt c hs vs f).isSome⟩
def FZ (sc:eM):Prop:=match sc.st with
 | .join _=>sc.c.kind=1
 | .nt _=>sc.c.kind=2
 | .test _=>sc.c.kind=3
def Eo (facts:List Qq)(sc:eM):List Int:=match sc.st with
 | .join _=>facts.map (·.id)
 | .nt _=>[0]
 | .test _=>[0]
noncomputable section
def qY (S:fh)(facts:List Qq):List eM->ew->List (List Int)
 |[],_=>[]
 | sc::l,e=>(Eo facts sc).flatMap λi=>match iY S (eF facts) sc e i with
   |some U=>[i]::(qY S facts l U).map λπ=>i::π
   |none=>[]
def uT (S:fh)(facts:List Qq):List eM->ew->List (List Int)
 |[],_=>[[]]
 | sc::l,e=>(Eo facts sc).flatMap λi=>match iY S (eF facts) sc e i with
   |some U=>(uT S facts l U).map λπ=>i::π
   |none=>[]
end
section
variable {S:fh} {facts:List Qq}
theorem AL (hn:(facts.map (·.id)).Nodup) {sc:eM} {e e':ew} {i:Int} (h:iY S (eF facts) sc e i=some e'):i∈Eo facts sc:=by
 unfold iY at h;unfold Eo;cases bw:sc.st with
 | join a=>
   rw[bw]at h;simp only at h⊢;cases hT:eF facts i with
   |none=>rw[hT]at h;cases h
   | some f=>
     obtain⟨h1,h2⟩:=(FT hn).1 hT;exact List.mem_map.2 ⟨f,h1,h2⟩
 | nt a=>
   rw[bw]at h;simp only at h⊢;split at h;· rename_i U;rw[U.1];simp
   · cases h
 | test a=>
   rw[bw]at h;simp only at h⊢;split at h;· rename_i U;rw[U.1];simp
   · cases h
theorem jN (hn:(facts.map (·.id)).Nodup):∀{l:List eM} {e:ew} {π:List Int},π∈qY S facts l e↔π≠[]/\fH S (eF facts) l e π≠none
 |[],e,[]=>by simp[qY]
 |[],e,i::π=>by simp[qY,fH]
 | sc::l,e,[]=>by
   simp only[qY,List.mem_flatMap,ne_eq,not_true_eq_false,false_and,iff_false,not_exists,not_and];intro i _ h;split at h
   ·rcases List.mem_cons.1 h with h|h;· cases h
    · obtain⟨_,_,h⟩:=List.mem_map.1 h;cases h
   · cases h
 | sc ::l,e,i::π=>by
   simp only[qY,List.mem_flatMap,fH];constructor
   ·rintro⟨j,_,h⟩;cases U:iY S (eF facts) sc e j with
    |none=>rw[U]at h;cases h
    | some e'=>
      rw[U]at h;simp only at h;rcases List.mem_cons.1 h with h|h
      ·cases h;rw[U];refine⟨ax,?_⟩;cases l<;>simp[fH]
      ·obtain⟨ρ,h1,h2⟩:=List.mem_map.1 h;cases h2;rw[U];exact⟨ax,((jN hn).1 h1).2⟩
   ·rintro⟨_,h⟩;cases U:iY S (eF facts) sc e i with
    |none=>rw[U]at h;exact absurd rfl h
    | some e'=>
      rw[U]at h;refine⟨i,AL hn U,?_⟩;rw[U];simp only;by_cases hp:π=[]
      · subst hp;simp
      · exact List.mem_cons_of_mem _ (List.mem_map.2 ⟨π,(jN hn).2 ⟨hp,h⟩,rfl⟩)
theorem Sg (hn:(facts.map (·.id)).Nodup):∀{l:List eM} {e:ew} {π:List Int},π∈uT S facts l e↔π.length=l.length/\fH S (eF facts) l e π≠none
 |[],e,[]=>by simp[uT,fH]
 |[],e,i::π=>by simp[uT]
 | sc::l,e,[]=>by
   simp only[uT,List.mem_flatMap,List.length_nil,List.length_cons];constructor
   ·rintro⟨i,_,h⟩;split at h;· obtain⟨_,_,h⟩:=List.mem_map.1 h;cases h
    · cases h
   · rintro⟨h,_⟩;cases h
 | sc ::l,e,i::π=>by
   simp only[uT,List.mem_flatMap,fH,List.length_cons,Nat.add_right_cancel_iff];constructor
   ·rintro⟨j,_,h⟩;cases U:iY S (eF facts) sc e j with
    |none=>rw[U]at h;cases h
    | some e'=>
      rw[U]at h;obtain⟨ρ,h1,h2⟩:=List.mem_map.1 h;cases h2;rw[U];exact(Sg hn).1 h1
   ·rintro⟨h0,h⟩;cases U:iY S (eF facts) sc e i with
    |none=>rw[U]at h;exact absurd rfl h
    | some e'=>
      rw[U]at h;refine⟨i,AL hn U,?_⟩;rw[U];exact List.mem_map.2 ⟨π,(Sg hn).2 ⟨h0,h⟩,rfl⟩
theorem zx (U:(facts.map (·.id)).Nodup)(sc:eM):(Eo facts sc).Nodup:=by
 unfold Eo;split;· exact U
 · simp
 · simp
theorem uN {i:Int} {L:List (List Int)} (h:L.Nodup):(L.map λπ=>i::π).Nodup:=by
 refine List.Pairwise.map _ (λa b U=>?_) h;intro e;exact U (List.cons.inj e).2
theorem vD (hn:(facts.map (·.id)).Nodup):∀{l:List eM} {e:ew},(qY S facts l e).Nodup
 |[],e=>by simp[qY]
 | sc ::l,e=>by
   unfold qY;refine List.pairwise_flatMap.2 ⟨λi _=>?_,List.Pairwise.imp (λCe=>?_) (zx hn sc)⟩
   ·cases hj:iY S (eF facts) sc e i with
    |none=>exact List.Pairwise.nil
    | some e'=>
      simp only;refine List.nodup_cons.2 ⟨λh=>?_,uN (vD hn)⟩;obtain⟨ρ,h1,h2⟩:=List.mem_map.1 h;cases h2;exact((jN hn).1 h1).1 rfl
   ·rename_i i j
    have hd:∀k x,(x∈match iY S (eF facts) sc e k with|some e'=>[k]::(qY S facts l e').map (λπ=>k::π)|none=>[])->x.head? =some k:=λk x U=>by
      split at U
      ·rcases List.mem_cons.1 U with rfl|U;· rfl
       · obtain⟨ρ,_,rfl⟩:=List.mem_map.1 U;rfl
      · cases U
    intro x U y hy HP;have h1:=hd i x U;have h2:=hd j y hy;rw[HP,h2]at h1;exact Ce (Option.some.inj h1).symm
theorem Ez (U:(facts.map (·.id)).Nodup) {sc:eM} {e:ew}:(∀j,¬jG S sc e (eF facts) j)↔(facts.any λf=>(S.mt sc.c e.1 e.2 f).isSome)=false:=by
 rw[List.any_eq_false];constructor
 ·intro h f hf hs;exact h f.id ⟨f,(FT U).2 ⟨hf,rfl⟩,hs⟩
 ·rintro h j ⟨f,h1,h2⟩;exact h f ((FT U).1 h1).1 h2
theorem AM (hn:(facts.map (·.id)).Nodup) {sc:eM} {e:ew} {a:Nat} (U:sc.st=.join a) {f:Qq} (hf:f∈facts):iY S (eF facts) sc e f.id=S.mt sc.c e.1 e.2 f:=by
 unfold iY;rw[U];simp only;rw[(FT hn).2 ⟨hf,rfl⟩];rfl
theorem Kn (U:(facts.map (·.id)).Nodup) {sc:eM} {e:ew} {a:Nat} (bw:sc.st=.nt a):iY S (eF facts) sc e 0=if(facts.any λf=>(S.mt sc.c e.1 e.2 f).isSome)=true then none else some e:=by
 unfold iY;rw[bw];simp only;cases hx:(facts.any λf=>(S.mt sc.c e.1 e.2 f).isSome)with
 |false=>rw[if_pos ⟨ax,(Ez U).2 hx⟩,if_neg ax]
 |true=>rw[if_neg (λh=>by have:=(Ez U).1 h.2;rw[hx]at this;cases this),if_pos rfl]
theorem AN {sc:eM} {e:ew} {a:Nat} {T:bx} (U:sc.st=.test a):iY S T sc e 0=if S.ev sc.c e.2=true then some e else none:=by
 unfold iY;rw[U];simp only;cases S.ev sc.c e.2 with
 |false=>rw[if_neg ax,if_neg ax]
 |true=>rw[if_pos ⟨ax,ax⟩,if_pos rfl]
theorem Qbq {α β:Type}:∀{l:List α} {g h:α->List β},(∀x∈l,g x=h x)->l.flatMap g=l.flatMap h
 |[],_,_,_=>rfl
 |x::l,g,h,U=>by rw[List.flatMap_cons,List.flatMap_cons,U x List.mem_cons_self,Qbq λy hy=>U y (List.mem_cons_of_mem _ hy)]
theorem EW (hn:(facts.map (·.id)).Nodup):∀{l:List eM} {e:ew},(∀sc∈l,FZ sc)->(qY S facts l e).length=yR (nI S facts) facts (l.map (·.c)) e.1 e.2
 |[],e,_=>by simp[qY,yR]
 | sc::l,e,hk=>by
   have ih:=λe'=>EW hn (l:=l) (e:=e') λs hs=>hk s (List.mem_cons_of_mem _ hs);have U:=hk sc List.mem_cons_self;unfold FZ at U;rw[qY,List.length_flatMap,List.map_cons];cases bw:sc.st with
   | join a=>
     rw[bw]at U;simp only at U;rw[Pu an an];unfold Eo;rw[bw];simp only[List.map_map];congr 1;refine List.map_congr_left λf hf=>?_
     simp only[Function.comp_apply];rw[AM hn bw hf];unfold Sw nI;simp only;cases hm:S.mt sc.c e.1 e.2 f with
     |none=>rfl
     | some p=>
       simp only[List.length_cons,List.length_map];have:=ih p;unfold nI at this;omega
   | nt a=>
     rw[bw]at U;simp only at U;rw[IE an U];unfold Eo;rw[bw];simp only[List.map_cons,List.map_nil,List.sum_cons,List.sum_nil,Nat.add_zero];rw[Kn hn bw];show _=if(facts.any λf=>(S.mt sc.c e.1 e.2 f).isSome)=true then _ else _
     by_cases hb:(facts.any λf=>(S.mt sc.c e.1 e.2 f).isSome)=true;· rw[if_pos hb,if_pos hb];rfl
     · rw[if_neg hb,if_neg hb];simp only[List.length_cons,List.length_map];have:=ih e;omega
   | test a=>
     rw[bw]at U;simp only at U;rw[Yd U];unfold Eo;rw[bw];simp only[List.map_cons,List.map_nil,List.sum_cons,List.sum_nil,Nat.add_zero];rw[AN bw];show _=if S.ev sc.c e.2=true then _ else _
     by_cases hb:S.ev sc.c e.2=true
     · rw[if_pos hb,if_pos hb];simp only[List.length_cons,List.length_map];have:=ih e;omega
     · rw[if_neg hb,if_neg hb];rfl
theorem EN (hn:(facts.map (·.id)).Nodup)(gJ:∀f∈facts,0<f.id):∀{l:List eM} {e:ew} {ids:List Int},(∀sc∈l,FZ sc)->(goN (nI S facts) facts (l.map (·.c)) e.1 e.2 ids).map (·.1)=(uT S facts l e).map λπ=>ids++π.filter λi=>decide (0<i)
 |[],e,ids,_=>by simp[uT,goN]
 | sc::l,e,ids,hk=>by
   have ih:=λe' a1g=>EN hn gJ (l:=l) (e:=e') (ids:=a1g) λs hs=>hk s (List.mem_cons_of_mem _ hs);have U:=hk sc List.mem_cons_self;unfold FZ at U;rw[uT,List.map_cons];cases bw:sc.st with
   | join a=>
     rw[bw]at U;simp only at U;rw[go1 an an];unfold Eo;rw[bw];simp only[List.map_flatMap,List.flatMap_map];refine Qbq λf hf=>?_
     rw[AM hn bw hf];unfold UA;show List.map _ (match S.mt sc.c e.1 e.2 f with|some p=>_|none=>_)=_;cases hm:S.mt sc.c e.1 e.2 f with
     |none=>rfl
     | some p=>
       simp only[ih p (ids++[f.id]),List.map_map];refine List.map_congr_left λπ _=>?_
       simp only[Function.comp_apply];rw[List.filter_cons_of_pos (cv (gJ f hf))];simp
   | nt a=>
     rw[bw]at U;simp only at U;rw[go2 an U];unfold Eo;rw[bw];simp only[List.flatMap_cons,List.flatMap_nil,List.append_nil];rw[Kn hn bw];show List.map _ (if(facts.any λf=>(S.mt sc.c e.1 e.2 f).isSome)=true then _ else _)=_;by_cases hb:(facts.any λf=>(S.mt sc.c e.1 e.2 f).isSome)=true;· rw[if_pos hb,if_pos hb];rfl
     · rw[if_neg hb,if_neg hb];simp only[ih e ids,List.map_map];refine List.map_congr_left λπ _=>?_
       simp only[Function.comp_apply];rw[List.filter_cons_of_neg ax]
   | test a=>
     rw[bw]at U;simp only at U;rw[go3 U];unfold Eo;rw[bw];simp only[List.flatMap_cons,List.flatMap_nil,List.append_nil];rw[AN bw];show List.map _ (if S.ev sc.c e.2=true then _ else _)=_;by_cases hb:S.ev sc.c e.2=true
     · rw[if_pos hb,if_pos hb];simp only[ih e ids,List.map_map];refine List.map_congr_left λπ _=>?_
       simp only[Function.comp_apply];rw[List.filter_cons_of_neg ax]
     · rw[if_neg hb,if_neg hb];rfl
end
end
section
open Go Go.RowKit Classical
section
variable {S:fh} {C:fC} {T:bx} {Ta:Nat->bx} {Zo:Nat->Prop} {cj:Option Nat} {loc:Loc} {s:Q8} {facts:List Qq}
theorem Inv.sound (h:Inv S C T Ta (λ_ _=>(T,T)) Zo cj loc s) {r:Nat} {R:eQ} (hr:C.rows[r]? =some R):∀(n:Nat)(π:List Int)(p:Nat),π.length=n->loc p=some (r,π)->fH S T R.steps (R.hs,R.vs) π≠none:=by
 intro n;induction n with
 | zero=>
   intro π p hn hp;rw[List.length_eq_zero_iff.1 hn];cases R.steps<;>simp[fH]
 | succ n ih=>
   intro π p hn hp;rcases List.eq_nil_or_concat π with e|⟨ρ,i,e⟩
   · subst e;cases hn
   ·have e:π=ρ++[i]:=by simpa using e
    subst e;obtain⟨R',x,a1,_,a3⟩:=h.part p r _ hp;rw[hr]at a1;cases a1;obtain⟨_,q,_,hq⟩:=a3.up ρ i rfl;have R1:=ih ρ q (cv hn) hq;obtain⟨e',EP⟩:=Option.ne_none_iff_exists'.1 R1;obtain⟨R',z,b1,_,b3⟩:=h.part q r ρ hq;rw[hr]at b1;cases b1;have YU:e'=(z.has,z.vals):=by have:=M0 EP;rw[b3.env]at this;exact(Option.some.inj this).symm
    have U:=a3.env;rw[XH,b3.env,Option.bind_some]at U;cases eE:R.steps[ρ.length]? with
    |none=>rw[eE]at U;cases U
    | some sc=>
      rw[eE,Option.bind_some]at U;rw[Pf,EP,Option.bind_some,List.drop_eq_getElem_cons (List.getElem?_eq_some_iff.1 eE).1,(List.getElem?_eq_some_iff.1 eE).2]
      have cn:iY S T sc e' i=some (x.has,x.vals):=by
       rw[YU];unfold fU at U;unfold iY;cases bw:sc.st with
       |join a=>rw[bw]at U;exact U
       | nt a=>
         rw[bw]at U;simp only at U⊢;split at U
         ·rename_i hi;rw[if_pos ⟨hi,b3.free sc a eE bw ⟨p,i,hp⟩⟩];exact U
         · cases U
       |test a=>rw[bw]at U;exact U
      simp only[fH,cn,Option.bind_some];cases R.steps.drop (ρ.length+1)<;>simp[fH]
noncomputable def xk (S:fh)(facts:List Qq):List eQ->Nat->List (Nat×List Int)
 |[],_=>[]
 |R::l,k=>((qY S facts R.steps (R.hs,R.vs)).map λπ=>(k,π))++xk S facts l (k+1)
theorem mo (hn:(facts.map (·.id)).Nodup):∀{l:List eQ} {k r:Nat} {π:List Int},(r,π)∈xk S facts l k↔∃R j,l[j]? =some R/\r=k+j/\π≠[]/\fH S (eF facts) R.steps (R.hs,R.vs) π≠none
 |[],k,r,π=>by simp[xk]
 | R::l,k,r,π=>by
   rw[xk,List.mem_append,mo hn (l:=l)];constructor
   ·rintro(h|⟨R',j,h1,U,h3⟩)
    · obtain⟨ρ,h1,U⟩:=List.mem_map.1 h;cases U;exact⟨R,0,rfl,rfl,(jN hn).1 h1⟩
    · exact⟨R',j+1,by simpa using h1,an,h3⟩
   ·rintro⟨R',j,h1,U,h3⟩;cases j with
    | zero=>
      left;simp only[List.getElem?_cons_zero,Option.some.injEq]at h1;subst h1;exact List.mem_map.2 ⟨π,(jN hn).2 h3,by rw[U];rfl⟩
    |succ j=>exact .inr ⟨R',j,by simpa using h1,an,h3⟩
theorem rU (U:(facts.map (·.id)).Nodup):∀{l:List eQ} {k:Nat},(xk S facts l k).Nodup
 |[],k=>by simp[xk]
 | R::l,k=>by
   rw[xk];refine List.nodup_append.2 ⟨?_,rU U,λx hx y hy HP=>?_⟩;· exact List.Pairwise.map _ (λa b Cb e=>Cb (Prod.mk.inj e).2) (vD U)
   ·obtain⟨ρ,_,rfl⟩:=List.mem_map.1 hx;subst HP;obtain⟨_,j,_,h2,_⟩:=(mo U).1 hy;omega
noncomputable def fV (S:fh)(facts:List Qq)(l:List eQ):Nat:=(l.map λR=>(qY S facts R.steps (R.hs,R.vs)).length).sum
theorem rT:∀{l:List eQ} {k:Nat},(xk S facts l k).length=fV S facts l
 |[],k=>rfl
 | R::l,k=>by
   rw[xk,List.length_append,List.length_map,rT (l:=l)];rfl
theorem Inv.cnt_le (hn:(facts.map (·.id)).Nodup)(h:Inv S C (eF facts) Ta (λ_ _=>(eF facts,eF facts)) Zo cj loc s) {n:Nat} (hc:hY loc n):n<=fV S facts C.rows:=by
 obtain⟨L,a1,a2,rfl⟩:=hc;rw[<-rT (k:=0),<-List.length_map (f:=λp=>(loc p).getD (0,[]))];refine Hm ?_ λz hz=>?_
 ·refine List.Pairwise.map _ (λa b Cb e=>?_) (List.Pairwise.and_mem.1 a1);obtain⟨ha,hb,Cb⟩:=Cb;obtain⟨r,π,h1,_⟩:=(a2 a).1 ha;obtain⟨r',fg,U,_⟩:=(a2 b).1 hb;rw[h1,U]at e;simp only[Option.getD_some]at e;rw[<-e]at U;exact Cb (h.inj _ _ _ h1 U)
 ·obtain⟨p,hp,rfl⟩:=List.mem_map.1 hz;obtain⟨r,π,h1,U⟩:=(a2 p).1 hp;rw[h1];obtain⟨R,x,b1,_,_⟩:=h.part p r π h1;exact(mo hn).2 ⟨R,r,b1,ax,U,h.sound b1 _ _ _ rfl h1⟩
theorem Sv (U:(facts.map (·.id)).Nodup)(hC:wH S C (eF facts) loc) {n:Nat} (hc:hY loc n):fV S facts C.rows<=n:=by
 obtain⟨L,a1,a2,rfl⟩:=hc;rw[<-rT (k:=0),show L.length=(L.map λp=>(loc p).getD (0,[])).length from(List.length_map _).symm];refine Hm (rU U) λz hz=>?_;obtain⟨r,π⟩:=z;obtain⟨R,j,h1,h2,h3,h4⟩:=(mo U).1 hz;obtain rfl:r=j:=an
 obtain⟨y,hy⟩:=hC r R h1 π h4;rw[List.nil_append]at hy;exact List.mem_map.2 ⟨y,(a2 y).2 ⟨r,π,hy,h3⟩,by rw[hy];rfl⟩
theorem Inv.notFull (hn:(facts.map (·.id)).Nodup)(h:Inv S C (eF facts) Ta (λ_ _=>(eF facts,eF facts)) Zo cj loc s)(hC:qd loc->wH S C (eF facts) loc):qd loc↔fV S facts C.rows<=4096:=by
 constructor
 ·intro hf;refine Nat.le_of_not_lt λbq=>?_
  obtain⟨n,U⟩:=h.cnt;have:=hf n U;have:=Sv hn (hC hf) U;omega
 · exactλhf n U=>Nat.le_trans (h.cnt_le hn U) hf
end
def kd (f:Qq):List Qq->List Qq
 |[]=>[f]
 |g::l=>if f.id<g.id then f::g::l else g::kd f l
def gF (id:Int)(l:List Qq):List Qq:=l.filter λg=>decide (g.id≠id)
section
variable {f g:Qq} {facts:List Qq} {id:Int}
theorem mM:∀{l:List Qq},g∈kd f l↔g=f\/g∈l
 |[]=>by simp[kd]
 | x ::l=>by
   rw[kd];split;· simp
   ·rw [List.mem_cons,mM,List.mem_cons];constructor
    ·rintro(h|h|h);· exact .inr (.inl h)
     · exact .inl h
     · exact .inr (.inr h)
    ·rintro(h|h|h);· exact .inr (.inl h)
     · exact .inl h
     · exact .inr (.inr h)
theorem zB {l:List Qq}:g∈gF id l↔g∈l/\g.id≠id:=by
 unfold gF;rw[List.mem_filter];simp
abbrev uC (l:List Qq):Prop:=l.Pairwise λa b=>a.id<b.id
theorem uC.nodup {l:List Qq} (h:uC l):(l.map (·.id)).Nodup:=List.Pairwise.map _ (λ_ _ U=>Int.ne_of_lt U) h
theorem uC.ins:∀{l:List Qq},uC l->(∀g∈l,g.id≠f.id)->uC (kd f l)
 |[],_,_=>by simp[kd]
 | x::l,h,hn=>by
   obtain⟨h1,h2⟩:=List.pairwise_cons.1 h;rw[kd];have hx:=hn x List.mem_cons_self;split
   ·rename_i U;refine List.pairwise_cons.2 ⟨λy hy=>?_,h⟩;rcases List.mem_cons.1 hy with rfl|hy;· exact U
    · have:=h1 y hy;omega
   ·rename_i U;refine List.pairwise_cons.2 ⟨λy hy=>?_,uC.ins h2 λg hg=>hn g (List.mem_cons_of_mem _ hg)⟩;rcases mM.1 hy with rfl|hy;· omega
    · exact h1 y hy
theorem uC.del {l:List Qq} (h:uC l):uC (gF id l):=h.filter _
theorem OH (h:uC facts)(hn:∀g∈facts,g.id≠f.id):eF (kd f facts)=iJ (eF facts) f:=by
 funext i;refine Option.ext λx=>?_
 rw[FT (h.ins hn).nodup,mM];unfold iJ;by_cases hi:i=f.id
 ·rw [if_pos hi];constructor
  ·rintro⟨rfl|h1,U⟩;· rfl
   · exact absurd (U.trans hi) (hn x h1)
  · intro h1;cases h1;exact⟨.inl rfl,hi.symm⟩
 ·rw [if_neg hi,FT h.nodup];constructor
  ·rintro⟨rfl|h1,U⟩;· exact absurd U.symm hi
   · exact⟨h1,U⟩
  · rintro⟨h1,U⟩;exact⟨.inr h1,U⟩
theorem OG (h:uC facts):eF (gF id facts)=kR (eF facts) id:=by
 funext i;refine Option.ext λx=>?_
 rw[FT (h.del).nodup,zB];unfold kR;by_cases hi:i=id
 ·rw[if_pos hi];constructor
  ·rintro⟨⟨_,h1⟩,U⟩;exact absurd (U.trans hi) h1
  · intro h1;cases h1
 ·rw[if_neg hi,FT h.nodup];constructor;· rintro⟨⟨h1,_⟩,U⟩;exact⟨h1,U⟩
  · rintro⟨h1,U⟩;exact⟨⟨h1,λe=>hi (U.symm.trans e)⟩,U⟩
theorem Ap:∀{l:List Qq},(kd f l).length=l.length+1
 |[]=>rfl
 | x::l=>by
   rw[kd];split;· rfl
   · rw[List.length_cons,Ap];rfl
theorem II {l:List Qq}:(gF id l).length<=l.length:=List.length_filter_le _ _
end
end
section
open Go Go.RowKit Classical
theorem lq {A R:Type} {Q:R->Prop} {f:A->WM R} {g:(A->WM R)->WM R} (h:∀k,k=f->g k Q):ke f g Q:=h f rfl
section
variable {S:fh} {T T':bx}
theorem Km {sc:eM} {e:ew} {i id:Int} (hs:xi T T')(hi:∀j,j≠id->T j=T' j)(hn:i≠id) {U:ew} (h:iY S T' sc e i=some U):iY S T sc e i=some U:=by
 unfold iY at h⊢;cases bw:sc.st with
 |join a=>rw[bw]at h;simp only at h⊢;rw[hi i hn];exact h
 | nt a=>
   rw[bw]at h;simp only at h⊢;split at h
   ·rename_i hh;rw[if_pos ⟨hh.1,λj ⟨f,h1,h2⟩=>hh.2 j ⟨f,hs j f h1,h2⟩⟩];exact h
   · cases h
 |test a=>rw[bw]at h;exact h
theorem Af {id:Int} (hs:xi T T')(hi:∀j,j≠id->T j=T' j):∀{π:List Int} {l:List eM} {e:ew},id∉π->fH S T' l e π≠none->fH S T l e π≠none
 |[],l,e,_,_=>by cases l<;>simp[fH]
 |i::π,[],e,_,h=>by simp[fH]at h
 | i ::π,sc::l,e,hn,h=>by
   simp only[fH]at h⊢;cases h1:iY S T' sc e i with
   |none=>rw[h1]at h;exact absurd rfl h
   | some e1=>
     rw[h1]at h;rw[Km hs hi (λU=>hn (by rw[U];simp)) h1];exact Af hs hi (λU=>hn (List.mem_cons_of_mem _ U)) h
theorem K7 (hs:xi T T') {l:List eM} {e:ew} {π:List Int} (hb:∀n sc a e1,n<π.length->l[n]? =some sc->sc.st=.nt a->fH S T l e (π.take n)=some e1->∀j,jG S sc e1 T' j->jG S sc e1 T j) (h:fH S T l e π≠none):∀n,n<=π.length->∃e1,fH S T l e (π.take n)=some e1/\fH S T' l e (π.take n)=some e1:=by
 intro n;induction n with
 |zero=>intro _;exact⟨e,by rw[List.take_zero];cases l<;>rfl,by rw[List.take_zero];cases l<;>rfl⟩
 | succ n ih=>
   intro hn;obtain⟨e1,h1,h2⟩:=ih an;have hx:fH S T l e (π.take (n+1)++π.drop (n+1))≠none:=by rw[List.take_append_drop];exact h
   rw[Pf]at hx
   obtain ⟨e2,U⟩:∃e2,fH S T l e (π.take (n+1))=some e2:=by
     cases hh:fH S T l e (π.take (n+1))with
     |none=>rw[hh]at hx;exact absurd rfl hx
     |some e2=>exact⟨e2,rfl⟩
   refine⟨e2,U,?_⟩;have kB:π[n]? =some π[n]:=List.getElem?_eq_getElem an;have hlen:(π.take n).length=n:=by simp;omega
   rw[List.take_add_one,kB,Option.toList_some,Pf]at U⊢;rw[h1,Option.bind_some,hlen]at U;rw[h2,Option.bind_some,hlen];cases hd:l.drop n with
   |nil=>rw[hd]at U;cases U
   | cons sc l'=>
     rw[hd]at U
     have eE:l[n]? =some sc:=by
       have:=congrArg (λx=>x[0]?) hd;simpa using this
     simp only[fH]at U⊢;cases ho:iY S T sc e1 π[n]with
     |none=>rw[ho]at U;cases U
     | some e3=>
       rw[ho,Option.bind_some]at U
       have ho2:iY S T' sc e1 π[n]=some e3:=by
        unfold iY at ho⊢;cases bw:sc.st with
        | join a=>
          rw[bw]at ho;simp only at ho⊢;cases hT:T π[n]with
          |none=>rw[hT]at ho;cases ho
          |some f=>rw[hT]at ho;rw[hs _ _ hT];exact ho
        | nt a=>
          rw[bw]at ho;simp only at ho⊢;split at ho
          ·rename_i hh;rw[if_pos ⟨hh.1,λj hj=>hh.2 j (hb n sc a e1 an eE bw h1 j hj)⟩];exact ho
          · cases ho
        |test a=>rw[bw]at ho;exact ho
       rw[ho2,Option.bind_some];exact U
end
structure rJ (S:fh) (I:ew->Prop) (P:Qq->Prop) (C:fC):Prop where
 W:oi C
 A:Wf C
 rP:C.rP.isNone=false
 rows:C.rows.length<=1000
 steps:∀R∈C.rows,R.steps.length<=1000
 alk:C.alphas.keys.length<=1000000
 ok:∀T:bx,(∀i f,T i=some f->P f)->∀R∈C.rows,∀sc∈R.steps,wR S I C T sc
 I0:∀R∈C.rows,I (R.hs,R.vs)
 ar:∀A∈C.als,A.args.length<=1000000/\∀f,P f->f.ty=A.kind->A.args.length<=f.args.length
structure qb (S:fh) (P:Qq->Prop) (C:fC) (facts:List Qq) (loc:Loc) (s:Q8):Prop where
 inv:Inv S C (eF facts) (λ_=>eF facts) (λ_ _=>(eF facts,eF facts)) (λ_=>False) none loc s
 comp:wH S C (eF facts) loc
 ris:uC facts
 fr:∀f∈facts,P f/\1<=f.id/\f.id<=1099511627776
 le:fV S facts C.rows<=4096
section
variable {S:fh} {I:ew->Prop} {P:Qq->Prop} {C:fC} {loc:Loc} {s:Q8} {facts:List Qq} {f:Qq} {id:Int}
theorem XU (hr:uC facts)(hf:∀f∈facts,P f/\1<=f.id/\f.id<=1099511627776)(hl:facts.length<=1000001):iy (eF facts) (facts.map (·.id)):=
 ⟨λi f h=>by
  obtain⟨h1,U⟩:=(FT hr.nodup).1 h;obtain⟨_,h3,h4⟩:=hf f h1;exact⟨List.mem_map.2 ⟨f,h1,U⟩,U,an,an⟩,by rw[List.length_map];omega⟩
theorem nH (hr:uC facts)(U:∀f∈facts,P f/\1<=f.id/\f.id<=1099511627776):∀i f,eF facts i=some f->P f:=λi f h=>(U f ((FT hr.nodup).1 h).1).1
theorem rJ.hI (U:rJ S I P C)(hr:uC facts)(hf:∀f∈facts,P f/\1<=f.id/\f.id<=1099511627776)(hl:facts.length<=1000001):∀R∈C.rows,∀π e,fF S (eF facts) R.steps (R.hs,R.vs) π=some e->I e:=
 λR hR _ _ he=>IQ (XU hr hf hl) (U.ok _ (nH hr hf) R hR) (U.I0 R hR) he
theorem rJ.hsl (U:rJ S I P C) {N:Nat} {D:List Int} (hN:B0+4000000<=N)(hl:D.length<=1000001):∀R∈C.rows,R.steps.length<9223372036854775807/\B0+D.length+R.steps.length+R.steps.length+4099<N:=λR hR=>by
 have:=U.steps R hR;omega
theorem OC (hn:eF facts f.id=none):xi (eF facts) (iJ (eF facts) f):=λi g U=>by
 unfold iJ;rw[if_neg (λe=>by rw[e,hn]at U;cases U)];exact U
theorem Na {T:bx} (U:T f.id=none):kR (iJ T f) f.id=T:=by
 funext i;unfold kR iJ;by_cases hi:i=f.id;· rw[if_pos hi,hi,U]
 · rw[if_neg hi,if_neg hi]
theorem Oo {T:bx} (U:T f.id=some f):iJ (kR T f.id) f=T:=by
 funext i;unfold iJ;by_cases hi:i=f.id;· rw[if_pos hi,hi,U]
 ·rw[if_neg hi];exact if_neg hi
theorem Gl {T:bx} {R:eQ} {π:List Int} {k:Nat} (hn:T f.id=none)(hi:fH S T R.steps (R.hs,R.vs) π≠none)(h:FR S (iJ T f) f R π k):HV S T (iJ T f) f.id R π k:=by
 obtain⟨h1,sc,a,e,h2,h3,h4,h5⟩:=h
 have gK:xi T (iJ T f):=λi g U=>by
   unfold iJ;rw[if_neg (λe=>by rw[e,hn]at U;cases U)];exact U
 have hx:fH S T R.steps (R.hs,R.vs) (π.take k++π.drop k)≠none:=by rw[List.take_append_drop];exact hi
 rw[Pf]at hx;cases hh:fH S T R.steps (R.hs,R.vs) (π.take k)with
 |none=>rw[hh]at hx;exact absurd rfl hx
 | some e'=>
   have h6:=M0 hh;have h7:=sw gK h6;rw[h4]at h7;cases h7;exact⟨h1,sc,a,e,h2,h3,h6,f,if_pos rfl,h5⟩
noncomputable def addN (S:fh)(rt:Qq->Bool)(C:fC)(facts:List Qq)(f:Qq):List Qq×Nat:=
 if rt f=true then(if(eF facts f.id).isSome=true then(facts,7)else if fV S (kd f facts) C.rows<=4096 then(kd f facts,0)else(facts,204))else(facts,2)
noncomputable def sr (S:fh)(C:fC)(facts:List Qq)(id:Int):List Qq×Nat:=
 if(eF facts id).isSome=true then(if fV S (gF id facts) C.rows<=4096 then(gF id facts,0)else(facts,204))else(facts,6)
def BX (vb:V->Bool)(types:List Q7)(f:Qq):Bool:=
 decide (1<=f.id/\f.id<=1099511627776)&&(decide (0<=f.ty)&&((match types[f.ty.toNat]? with
  |some t=>t.fields==((f.args.length:Nat):Int)
  |none=>false)&&f.args.all vb))
theorem rv {N:Nat} {R:Type} {K:Bool->WM R} {Q:R->Prop} (hG:rJ S I P C)(h:qb S P C facts loc s)(hQ:K true Q):eH (OW N C.g s) K Q:=by
 obtain⟨x,h1,_,_,_,U,_⟩:=h.inv.gNet;refine QS ?_;unfold OW;refine Qi h1 ?_;show K (!Option.isNone x.rowsP) Q;rw[U,hG.rP];exact hQ
theorem WJ {N:Nat} {Q:Nat->Prop} (hG:rJ S I P C)(h:qb S P C facts loc s)(hQ:Q facts.length):Xm N C.g s Q:=by
 unfold Xm;refine rv hG h ?_;refine zi rfl ?_;obtain⟨x,h1,_,_,_,_,_,_,_,U,_⟩:=h.inv.gNet;refine Qi h1 ?_
 have e:x.facts.es.length=facts.length:=by
  have e1:x.facts.keys.length=x.facts.es.length:=by unfold MS.keys;rw[List.length_map]
  have e2:(facts.map (·.id)).length=facts.length:=List.length_map _
  have hk:∀i,i∈x.facts.keys↔i∈facts.map (·.id):=λi=>by
   rw[MS.look_iff];constructor
   ·rintro⟨f,hf⟩;rw[U.2]at hf;obtain⟨g1,g2⟩:=(FT h.ris.nodup).1 hf;exact List.mem_map.2 ⟨f,g1,g2⟩
   ·intro hi;obtain⟨f,g1,g2⟩:=List.mem_map.1 hi;exact⟨f,by rw[U.2];exact(FT h.ris.nodup).2 ⟨g1,g2⟩⟩
  rw[<-e1,<-e2];exact Nat.le_antisymm (Hm U.1 λz hz=>(hk z).1 hz) (Hm h.ris.nodup λz hz=>(hk z).2 hz)
 show Q x.facts.es.length;rw[e];exact hQ
theorem qb.parts (h:Inv S C (eF facts) (λ_=>eF facts) (λ_ _=>(eF facts,eF facts)) (λ_=>False) none loc s)(hr:uC facts)(hc:qd loc->wH S C (eF facts) loc):∃x,gNet s C.g=some x/\(x.parts>4096↔¬fV S facts C.rows<=4096):=by
 obtain⟨x,h1,_,_,_,_,_,_,_,_,n,h4,h5⟩:=h.gNet;refine⟨x,h1,?_⟩;rw[h4];have h6:=h.notFull hr.nodup hc;rw[<-h6];constructor
 ·intro hn U;have:=U n h5;omega
 ·intro U;refine Int.not_le.1 λhn=>U λm hm=>?_
  have:=hm.unique h5;omega
theorem WB {N:Nat} {Q:Nat×Q8->Prop} {vb:V->Bool} (hN:B0+4000000<=N)(hG:rJ S I P C)(h:qb S P C facts loc s)(hl:facts.length<=1000000)(hC:Vx N f.args=some (!(f.args.all vb)))(eP:BX vb C.types f=true->P f)(Gs:f.args.length<=4398046511104)
  (hQ:∀bg s',qb S P C (addN S (BX vb C.types) C facts f).1 bg s'->Q ((addN S (BX vb C.types) C facts f).2,s')):Xl N C.g f.id f.ty f.args s Q:=by
 obtain⟨x,Wt,_,GI,_,_,_,_,_,Wu,_⟩:=h.inv.gNet;unfold Xl;refine rv hG h ?_;refine zi rfl ?_;refine lq λkj Gw=>?_
 have iM:BX vb C.types f=false->kj true Q:=λhr=>by
  subst Gw;refine jr rfl ?_;have:=hQ loc s;unfold addN at this;rw[if_neg (by rw[hr];simp)]at this;exact this h
 have Z0:BX vb C.types f=true->kj false Q:=λhr=>by
  subst Gw;refine zi rfl ?_;refine lq λkj2 NM=>?_
  refine Qi Wt ?_;refine ye (λmJ=>?_) (λg hg=>?_)
  ·subst NM;refine zi rfl ?_;refine fQ Gs ?_;rw[Wu.2]at mJ;have hid:=hr;unfold BX at hid;simp only[Bool.and_eq_true,decide_eq_true_eq]at hid;have hnm:∀g∈facts,g.id≠f.id:=DX.1 mJ;have oG:=h.ris.ins hnm
   have lh:∀g∈kd f facts,P g/\1<=g.id/\g.id<=1099511627776:=λg hg=>by
    rcases mM.1 hg with rfl|hg;· exact⟨eP hr,hid.1⟩
    · exact h.fr g hg
   have hlen:(kd f facts).length<=1000001:=by rw[Ap];omega
   have et:=OH h.ris hnm;have hTo:=XU oG lh hlen;refine QS ?_;show RL N C.g f.id f.ty f.args s _
   refine ID (I:=I) (T0:=eF facts) (D:=(kd f facts).map (·.id)) hG.W hG.A (by rw[<-et];exact hTo) (by rw[List.length_map];omega) (by have:=hG.rows;omega) (hG.hsl hN (by rw[List.length_map];exact hlen)) (by have:=hG.alk;omega) (by rw[<-et];exact hG.ok _ (nH oG lh)) (by rw[<-et];exact hG.hI oG lh hlen) an an mJ
    (λA hA=>⟨by have:=(hG.ar A hA).1;omega,by have:=(hG.ar A hA).1;omega,λUb j a hj=>by
     have h1:=(hG.ar A hA).2 f (eP hr) Ub;have h2:=(List.getElem?_eq_some_iff.1 hj).1;exact⟨_,List.getElem?_eq_getElem an⟩⟩) h.inv (λr R π hR hi hn=>?_) λbg s' h1 h2 h3=>?_
   ·have:=h.comp r R hR π (Af (id:=f.id) (OC mJ) (λj hj=>by unfold iJ;rw[if_neg hj]) hn hi);simpa using this
   ·rw [<-et]at h1 h3;obtain⟨z,hz1,NU⟩:=qb.parts h1 oG h3;refine Qi hz1 ?_;refine iu (λU=>?_) (λU=>?_)
    ·
     have JV:=NU.1 (of_decide_eq_true U);refine QS ?_;rw[et]at h1;have ed:kR (iJ (eF facts) f) f.id=eF facts:=Na mJ;refine Jw (I:=I) (T0:=iJ (eF facts) f) (D:=facts.map (·.id)) hG.W hG.A (by rw[ed];exact XU h.ris h.fr an) (by rw[List.length_map];omega) (by have:=hG.rows;omega) (hG.hsl hN (by rw[List.length_map];omega)) (by have:=hG.alk;omega) (by rw[ed];exact hG.ok _ (nH h.ris h.fr)) (by rw[ed];exact hG.hI h.ris h.fr an) an an h1 (λr R π hR hi U=>?_) λeu s2 g1 _ g3=>?_
     ·rw [ed]at hi U;obtain⟨y,hy⟩:=h.comp r R hR π hi;rw[List.nil_append]at hy
      exact ⟨y,h2 y r π hy λ⟨R',k,e1,e2⟩=>by
       rw[hR]at e1;cases e1;exact U k (Gl mJ hi e2)⟩
     ·rw[ed]at g1 g3;have hq:=hQ eu s2;unfold addN at hq;rw[if_pos hr,mJ,if_neg ax,if_neg JV]at hq;exact hq ⟨g1,g3 ((g1.notFull h.ris.nodup g3).2 h.le),h.ris,h.fr,h.le⟩
    ·have Dm:fV S (kd f facts) C.rows<=4096:=Classical.byContradiction λhh=>(of_decide_eq_false U) (NU.2 hh)
     have hq:=hQ bg s';unfold addN at hq;rw[if_pos hr,mJ,if_neg ax,if_pos Dm]at hq;exact hq ⟨h1,h3 ((h1.notFull oG.nodup h3).2 Dm),oG,lh,Dm⟩
  ·subst NM;refine jr rfl ?_;rw[Wu.2]at hg;have hq:=hQ loc s;unfold addN at hq;rw[if_pos hr,hg,if_pos ax]at hq;exact hq h
 refine Qi Wt ?_;refine iu (λU=>iM ?_) (λh1=>iu (λU=>iM ?_) (λh2=>iu (λU=>iM ?_) (λh3=>iu (λU=>iM ?_) (λh4=>?_))))
 ·have:=of_decide_eq_true U;unfold BX;rw[decide_eq_false an,Bool.false_and]
 ·have:=of_decide_eq_true U;unfold BX;rw[decide_eq_false an,Bool.false_and]
 ·have:=of_decide_eq_true U;unfold BX;rw[decide_eq_false (show¬0<=f.ty by omega),Bool.false_and,Bool.and_false]
 ·have:=of_decide_eq_true U;rw[GI]at this;unfold BX;rw[List.getElem?_eq_none an];simp
 ·have h1:=of_decide_eq_false h1;have h2:=of_decide_eq_false h2;have h3:=of_decide_eq_false h3;have h4:=of_decide_eq_false h4;rw[GI]at h4;have bq:f.ty.toNat<C.types.length:=an
  refine fQ an ?_;refine Qi (a:=C.types[f.ty.toNat]) (by rw[GI];exact List.getElem?_eq_getElem bq) ?_
  have er:BX vb C.types f=((C.types[f.ty.toNat].fields==((f.args.length:Nat):Int))&&f.args.all vb):=by
   unfold BX;rw[decide_eq_true (show 1<=f.id/\f.id<=1099511627776 by omega),decide_eq_true (show 0<=f.ty by omega),List.getElem?_eq_getElem bq,Bool.true_and,Bool.true_and]
  refine iu (λU=>iM ?_) (λU=>?_)
  ·rw [er]
   have:(C.types[f.ty.toNat].fields==((f.args.length:Nat):Int))=false:=by
    rw[bne_iff_ne]at U;exact beq_eq_false_iff_ne.2 (Ne.symm U)
   rw[this,Bool.false_and]
  ·refine Qi hC ?_
   have:(C.types[f.ty.toNat].fields==((f.args.length:Nat):Int))=true:=by
    have kG:¬((((f.args.length:Nat):Int) !=C.types[f.ty.toNat].fields)=true):=by rw[U];simp
    rw[bne_iff_ne,ne_eq,Classical.not_not]at kG;rw[kG];simp
   rw[this,Bool.true_and]at er;cases ha:f.args.all vb with
   |true=>exact Z0 (by rw[er,ha])
   |false=>exact iM (by rw[er,ha])
theorem Rv {N:Nat} {Q:Nat×Q8->Prop} (hN:B0+4000000<=N)(U:rJ S I P C)(h:qb S P C facts loc s)(hl:facts.length<=1000000)
  (hQ:∀bg s',qb S P C (sr S C facts id).1 bg s'->Q ((sr S C facts id).2,s')):Xq N C.g id s Q:=by
 obtain⟨x,Wt,_,GI,_,_,_,_,_,Wu,_⟩:=h.inv.gNet;unfold Xq;refine rv U h ?_;refine zi rfl ?_;refine lq λkj Gw=>?_;refine Qi Wt ?_;refine ye (λmJ=>?_) (λf hf=>?_)
 ·subst Gw;refine jr rfl ?_;rw[Wu.2]at mJ;have hq:=hQ loc s;unfold sr at hq;rw[mJ,if_neg ax]at hq;exact hq h
 ·subst Gw;refine zi rfl ?_;rw[Wu.2]at hf;obtain⟨hm,rfl⟩:=(FT h.ris.nodup).1 hf;have oG:uC (gF f.id facts):=h.ris.del;have lh:∀g∈gF f.id facts,P g/\1<=g.id/\g.id<=1099511627776:=λg hg=>h.fr g (zB.1 hg).1
  have hlen:(gF f.id facts).length<=1000001:=by have:=II (id:=f.id) (l:=facts);omega
  have et:eF (gF f.id facts)=kR (eF facts) f.id:=OG h.ris;have hid:=(h.fr f hm).2
  have gK:xi (kR (eF facts) f.id) (eF facts):=λi g hg=>by
   unfold kR at hg;split at hg;· cases hg
   · exact hg
  refine QS ?_;refine Jw (I:=I) (T0:=eF facts) (D:=(gF f.id facts).map (·.id)) U.W U.A (by rw[<-et];exact XU oG lh hlen) (by rw[List.length_map];omega) (by have:=U.rows;omega) (U.hsl hN (by rw[List.length_map];exact hlen)) (by have:=U.alk;omega) (by rw[<-et];exact U.ok _ (nH oG lh)) (by rw[<-et];exact U.hI oG lh hlen) an an h.inv (λr R π hR hi hb=>?_) λbg s' h1 h2 h3=>?_
  ·obtain ⟨e1,_,he⟩:=K7 (S:=S) gK (l:=R.steps) (e:=(R.hs,R.vs)) (π:=π) (λn sc a e1 hn eE bw he j ⟨g,Cd,mI⟩=>by
    by_cases hj:j=f.id
    ·subst hj;exact absurd ⟨hn,sc,a,e1,eE,bw,M0 he,g,Cd,mI⟩ (hb n)
    · exact⟨g,by unfold kR;rw[if_neg hj];exact Cd,mI⟩) hi π.length (Nat.le_refl _)
   rw[List.take_length]at he;have:=h.comp r R hR π (by rw[he];simp);simpa using this
  ·rw [<-et]at h1 h3;obtain⟨z,hz1,NU⟩:=qb.parts h1 oG h3;refine Qi hz1 ?_;refine iu (λhb=>?_) (λhb=>?_)
   ·have JV:=NU.1 (of_decide_eq_true hb);refine QS ?_;rw[et]at h1;have ed:iJ (kR (eF facts) f.id) f=eF facts:=Oo hf
    refine ID (I:=I) (T0:=kR (eF facts) f.id) (D:=facts.map (·.id)) U.W U.A (by rw[ed];exact XU h.ris h.fr an) (by rw[List.length_map];omega) (by have:=U.rows;omega) (U.hsl hN (by rw[List.length_map];omega)) (by have:=U.alk;omega) (by rw[ed];exact U.ok _ (nH h.ris h.fr)) (by rw[ed];exact U.hI h.ris h.fr an) an an (if_pos rfl)
     (λA hA=>⟨by have:=(U.ar A hA).1;omega,by have:=(U.ar A hA).1;omega,λUb j a hj=>by
      have h1:=(U.ar A hA).2 f (h.fr f hm).1 Ub;have h2:=(List.getElem?_eq_some_iff.1 hj).1;exact⟨_,List.getElem?_eq_getElem an⟩⟩) h1 (λr R π hR hi hn=>?_) λeu s2 g1 _ g3=>?_
    ·rw[ed]at hi;obtain⟨y,hy⟩:=h.comp r R hR π hi;rw[List.nil_append]at hy;exact⟨y,h2 y r π hy hn⟩
    ·rw[ed]at g1 g3;have hq:=hQ eu s2;unfold sr at hq;rw[hf,if_pos ax,if_neg JV]at hq;exact hq ⟨g1,g3 ((g1.notFull h.ris.nodup g3).2 h.le),h.ris,h.fr,h.le⟩
   ·have Dm:fV S (gF f.id facts) C.rows<=4096:=Classical.byContradiction λhh=>(of_decide_eq_false hb) (NU.2 hh)
    have hq:=hQ bg s';unfold sr at hq;rw[hf,if_pos ax,if_pos Dm]at hq;exact hq ⟨h1,h3 ((h1.notFull oG.nodup h3).2 Dm),oG,lh,Dm⟩
end
end
section
open Go Go.RowKit Classical
def fN:List Int->List Int->Int
 |[],[]=>0
 |[],_::_=>-1
 |_::_,[]=>1
 |a::l,b::m=>if a<b then-1 else if b<a then 1 else fN l m
theorem oJ:∀l:List Int,fN l l=0
 |[]=>rfl
 |a::l=>by rw[fN,if_neg an,if_neg an];exact oJ l
theorem QbQ:∀l m:List Int,fN m l=-fN l m
 |[],[]=>rfl
 |[],_::_=>rfl
 |_::_,[]=>rfl
 | a::l,b::m=>by
   simp only[fN];by_cases h1:a<b;· rw[if_pos h1,if_neg (by omega:¬b<a),if_pos h1];decide
   ·by_cases U:b<a;· rw[if_pos U,if_neg h1,if_pos U]
    · rw[if_neg h1,if_neg U,if_neg U,if_neg h1];exact QbQ l m
theorem oK:∀l m:List Int,fN l m=0->l=m
 |[],[],_=>rfl
 |[],_::_,h=>by cases h
 |_::_,[],h=>by cases h
 | a::l,b::m,h=>by
   simp only[fN]at h;split at h;· cases h
   ·split at h;· cases h
    ·rw[oK l m h];congr 1;omega
theorem lr:∀l m n:List Int,fN l m<0->fN m n<0->fN l n<0
 |[],[],n,h,_=>by simp[fN]at h
 |_::_,[],n,h,_=>by simp[fN]at h
 |l,_::_,[],_,h=>by simp[fN]at h
 |[],b::m,c::n,_,_=>by simp[fN]
 | a ::l,b::m,c::n,h1,U=>by
   simp only[fN]at h1 U⊢;by_cases e1:a<b
   ·by_cases e2:b<c;· rw[if_pos an];decide
    ·rw[if_neg e2]at U;by_cases e3:c<b;· rw[if_pos e3]at U;omega
     · rw[if_pos an];decide
   ·rw [if_neg e1]at h1;by_cases e4:b<a;· rw[if_pos e4]at h1;omega
    ·rw [if_neg e4]at h1;by_cases e2:b<c;· rw[if_pos an];decide
     ·rw[if_neg e2]at U;by_cases e3:c<b;· rw[if_pos e3]at U;omega
      ·rw[if_neg e3]at U;rw[if_neg an,if_neg an];exact lr l m n h1 U
theorem CO {N:Nat} {l m:List Int} (hl:l.length<1000000) (hN:1000000<=N):Q4L N l m=some (fN l m):=by
 have key:∀(k i fuel:Nat),i+k=l.length->i<=m.length->k<fuel->(ji (fk (OU N l m) fuel i) λ_=>if(decide (l.length<m.length))=true then some (-1)else some 0)=some (fN (l.drop i) (m.drop i)):=by
  intro k;induction k with
  | zero=>
    intro i fuel hi him hf;obtain⟨fuel,rfl⟩:∃q,fuel=q+1:=⟨fuel-1,an⟩
    rw[uf (o:=.inl ()) (by unfold OU;rw[if_neg (by simp;omega)]),ud,List.drop_eq_nil_of_le (by omega:l.length<=i)];by_cases h:l.length<m.length;· rw[br h,List.drop_eq_getElem_cons (by omega:i<m.length)];rfl
    · rw[bs h,List.drop_eq_nil_of_le (by omega:m.length<=i)];rfl
  | succ k ih=>
    intro i fuel hi him hf;obtain⟨fuel,rfl⟩:∃q,fuel=q+1:=⟨fuel-1,an⟩
    have h1:i<l.length:=an
    rw[List.drop_eq_getElem_cons h1];by_cases h2:m.length<=i
    ·rw[uf (o:=.inr 1) (by unfold OU;rw[br h1,List.getElem?_eq_getElem h1,Q1,br h2]),MC,List.drop_eq_nil_of_le h2];rfl
    ·have h3:i<m.length:=an
     rw[List.drop_eq_getElem_cons h3,fN]
     have hc:X9 N l[i] m[i]=some (if l[i]<m[i]then-1 else if m[i]<l[i]then 1 else 0):=by
      unfold X9 Xp;rw[Q1,Q1,if_neg ax,if_neg ax];by_cases U:l[i]<m[i];· rw[br U,if_pos U]
      ·rw[bs U,if_neg U];by_cases q2:m[i]<l[i];· rw[br q2,if_pos q2]
       · rw[bs q2,if_neg q2]
     have hs:OU N l m i=if l[i]<m[i]then some (.inr (.inr (-1)))else if m[i]<l[i]then some (.inr (.inr 1))else some (.inl (i+1)):=by
      unfold OU;rw[br h1,List.getElem?_eq_getElem h1,Q1,bs h3,List.getElem?_eq_getElem h3,Q1,hc,Q1];by_cases U:l[i]<m[i];· simp only[if_pos U];rfl
      ·by_cases q2:m[i]<l[i];· simp only[if_neg U,if_pos q2];rfl
       ·simp only[if_neg U,if_neg q2];rw[if_neg bf,QM an]
     by_cases U:l[i]<m[i]
     ·rw[if_pos U]at hs⊢;rw[uf hs,MC]
     ·by_cases q2:m[i]<l[i]
      ·rw[if_neg U,if_pos q2]at hs⊢;rw[uf hs,MC]
      ·rw[if_neg U,if_neg q2]at hs⊢;rw[I4 hs];exact ih (i+1) fuel an an an
 have:=key l.length 0 N an an an;rw[List.drop_zero,List.drop_zero]at this;exact this
theorem Lq {N:Nat} {k:Int} {l l':List QA} (hN:1000000<=N)(hk:∀t∈l,t.rule=k/\t.ids.length<1000000)(hl:l.length<4611686018427387904)(hp:l'.Perm l)(hs:l'.Pairwise λa b=>fN a.ids b.ids<0):
  pQ (λx_ y_=>OX N x_.rule x_.ids y_.rule y_.ids) l=some l':=by
 have cm:∀x∈l,∀y:QA,OX N x.rule x.ids y.rule y.ids=some (fN x.ids y.ids):=λx U y=>by
  unfold OX;rw[CO (hk x U).2 hN];rfl
 have cf:∀x∈l,∀y:QA,C9 (λx_ y_=>OX N x_.rule x_.ids y_.rule y_.ids) x y=fN x.ids y.ids:=λx U y=>by
  show(OX N x.rule x.ids y.rule y.ids).getD 0=_;rw[cm x U y];rfl
 refine KO ⟨λx U y _=>⟨_,cm x U y⟩,λx U=>?_,λx U y hy z _ h1 h2=>?_,λx U y hy z _ h1 h2=>?_,λx U y hy h1 h2=>?_,hl⟩ hp ?_;· rw[cf x U,oJ];decide
 ·rw[cf x U]at h1⊢;rw[cf y hy]at h2;exact lr _ _ _ h1 h2
 ·rw [cf x U]at h1⊢;rw[cf y hy]at h2;intro h3;by_cases h4:fN x.ids y.ids=0;· rw[oK _ _ h4]at h3;exact h2 h3
  ·have h5:fN y.ids x.ids<0:=by rw[QbQ];omega
   exact h2 (lr _ _ _ h5 h3)
 ·rw[cf x U]at h1;rw[cf y hy,QbQ]at h2;have h3:=oK _ _ (show fN x.ids y.ids=0 by omega);obtain⟨r1,i1⟩:=x;obtain⟨r2,i2⟩:=y;have h4:=(hk _ U).1;have h5:=(hk _ hy).1;simp only at h3 h4 h5;rw[h3,h4,h5]
 ·refine(List.Pairwise.and_mem.1 hs).imp λ{a b} h=>?_;rw[cf b (hp.mem_iff.1 h.2.1),QbQ];omega
def oQ (π:List Int):List Int:=π.filter λi=>decide (0<i)
section
variable {S:fh} {facts:List Qq}
theorem lP (hr:facts.Pairwise λa b=>a.id<b.id)(gJ:∀f∈facts,0<f.id):∀{l:List eM} {e:ew},(uT S facts l e).Pairwise λa b=>fN (oQ a) (oQ b)<0
 |[],e=>by simp[uT]
 | sc ::l,e=>by
   unfold uT;have ih:=λU=>lP hr gJ (l:=l) (e:=U)
   refine List.pairwise_flatMap.2 ⟨λi _=>?_,?_⟩
   ·cases hj:iY S (eF facts) sc e i with
    |none=>exact List.Pairwise.nil
    | some U=>
      simp only;refine List.Pairwise.map _ (λa b Cb=>?_) (ih U);unfold oQ;by_cases hi:0<i
      ·rw[List.filter_cons_of_pos (cv hi),List.filter_cons_of_pos (cv hi),fN,if_neg an,if_neg an];exact Cb
      ·rw[List.filter_cons_of_neg (cv hi),List.filter_cons_of_neg (cv hi)];exact Cb
   ·have hd:∀k x,(x∈match iY S (eF facts) sc e k with|some U=>(uT S facts l U).map (λπ=>k::π)|none=>[])->∃ρ,x=k::ρ:=λk x hx=>by
      split at hx;· obtain⟨ρ,_,rfl⟩:=List.mem_map.1 hx;exact⟨ρ,rfl⟩
      · cases hx
    unfold Eo;cases bw:sc.st with
    |nt a=>simp
    |test a=>simp
    | join a=>
      simp only;refine List.Pairwise.map _ (λf g hfg=>?_) (List.Pairwise.and_mem.1 hr);intro x hx y hy;obtain⟨ρ,rfl⟩:=hd _ x hx;obtain⟨σ,rfl⟩:=hd _ y hy;obtain⟨h1,h2,h3⟩:=hfg;unfold oQ;rw[List.filter_cons_of_pos (cv (gJ f h1)),List.filter_cons_of_pos (cv (gJ g h2)),fN,if_pos h3];decide
theorem wv (hr:facts.Pairwise λa b=>a.id<b.id)(U:∀f∈facts,0<f.id) {l:List eM} {e:ew}:(uT S facts l e).Nodup:=
 (lP hr U).imp λ{a b} h e=>by subst e;rw[oJ]at h;omega
end
def E0 (k:Nat)(π:List Int):QA:=⟨((k:Nat):Int),oQ π⟩
noncomputable def El (S:fh)(facts:List Qq):List eQ->Nat->List QA
 |[],_=>[]
 |R::l,k=>(uT S facts R.steps (R.hs,R.vs)).map (E0 k)++El S facts l (k+1)
section
variable {S:fh} {I:ew->Prop} {P:Qq->Prop} {C:fC} {loc:Loc} {s:Q8} {facts:List Qq} {T:bx} {Ta:Nat->bx} {B:Nat->List Int->bx×bx} {Zo:Nat->Prop} {cj:Option Nat}
theorem sG {R:eQ}:∀{l:List eQ} {k:Nat},El S facts (l++[R]) k=El S facts l k++(uT S facts R.steps (R.hs,R.vs)).map (E0 (k+l.length))
 |[],k=>by simp[El]
 | x::l,k=>by
   rw[List.cons_append,El,El,sG,List.append_assoc,List.length_cons,show k+1+l.length=k+(l.length+1) by omega]
theorem FK (U:uC facts)(gJ:∀f∈facts,0<f.id) {l:List eM} {e:ew}:(uT S facts l e).length<=(qY S facts l e).length+1:=by
 rw[<-List.length_cons (a:=([]:List Int))];refine Hm (wv U gJ) λπ je=>?_
 by_cases h:π=[]
 · subst h;simp
 · exact List.mem_cons_of_mem _ ((jN U.nodup).2 ⟨h,((Sg U.nodup).1 je).2⟩)
theorem tU {l m:List eQ}:fV S facts (l++m)=fV S facts l+fV S facts m:=by
 unfold fV;rw[List.map_append,List.sum_append]
theorem vu (hr:uC facts)(U:∀f∈facts,0<f.id):∀{l:List eQ} {k:Nat},(El S facts l k).length<=fV S facts l+l.length
 |[],k=>by simp[El]
 | R::l,k=>by
   have h1:=vu hr U (l:=l) (k:=k+1);have h2:=FK (S:=S) hr U (l:=R.steps) (e:=(R.hs,R.vs));have h3:fV S facts (R::l)=(qY S facts R.steps (R.hs,R.vs)).length+fV S facts l:=rfl;rw[El,List.length_append,List.length_map,List.length_cons];omega
theorem QbR {ρ:List Int} {i:Int}:oQ (ρ++[i])=if 0<i then oQ ρ++[i]else oQ ρ:=by
 unfold oQ;rw[List.filter_append];by_cases hi:0<i;· rw[if_pos hi,List.filter_cons_of_pos (cv hi)];rfl
 · rw[if_neg hi,List.filter_cons_of_neg (cv hi)];simp
theorem tu {π:List Int}:(oQ π).length<=π.length:=List.length_filter_le _ _
theorem Uh (h:Inv S C T Ta B Zo cj loc s):∀(n:Nat)(π:List Int)(p r N:Nat)(Q:List Int->Prop),π.length=n->n<N->n<=1000->loc p=some (r,π)->Q (oQ π)->RD N (some p) s Q:=by
 intro n;induction n with
 | zero=>
   intro π p r N Q hn hN _ hp U;obtain⟨N,rfl⟩:∃M,N=M+1:=⟨N-1,an⟩
   obtain rfl:=List.length_eq_zero_iff.1 hn;obtain⟨R,x,a1,a2,_,a3⟩:=h.gPart hp;show RI N (RD N) (some p) s Q;unfold RI;refine Qi rfl (Qi a2 (jr (by rw[(a3.top rfl).1];rfl) ?_));exact U
 | succ n ih=>
   intro π p r N Q hn hN EO hp U;obtain⟨N,rfl⟩:∃M,N=M+1:=⟨N-1,an⟩
   rcases List.eq_nil_or_concat π with e|⟨ρ,i,e⟩
   · subst e;cases hn
   ·have e:π=ρ++[i]:=by simpa using e
    subst e;have R1:ρ.length=n:=by simpa using hn
    obtain⟨R,x,a1,a2,_,a3⟩:=h.gPart hp;obtain⟨b1,q,b2,b3⟩:=a3.up ρ i rfl;show RI N (RD N) (some p) s Q;unfold RI;refine Qi rfl (Qi a2 (zi (by rw[b2];rfl) (Qi rfl (Qi a2 (QS ?_)))));rw[b2];refine ih ρ q r N _ R1 an an b3 ?_;refine lq λkj Gw=>?_;refine Qi rfl (Qi a2 (iu (λhb=>?_) (λhb=>?_)))
    ·have hi:0<i:=by have:=of_decide_eq_true hb;rw[b1]at this;exact this
     refine Qi rfl (Qi a2 (fQ ?_ ?_))
     ·have:=tu (π:=ρ);simp only[List.length_cons,List.length_nil];omega
     ·subst Gw;rw[QbR,if_pos hi]at U;rw[b1];exact U
    ·have hi:¬0<i:=by have:=of_decide_eq_false hb;rw[b1]at this;exact this
     subst Gw;rw[QbR,if_neg hi]at U;exact U
theorem ZJ (h:Inv S C T Ta B Zo cj loc s) {π:List Int} {p r N:Nat} {Q:List Int->Prop} (hN:1000<N)(EO:π.length<=1000)(hp:loc p=some (r,π))(U:Q (oQ π)):Xr N p s Q:=by
 obtain⟨R,x,a1,a2,_,a3⟩:=h.gPart hp;unfold Xr;refine Qi a2 ?_;rcases List.eq_nil_or_concat π with e|⟨ρ,i,e⟩
 ·subst e;refine jr (by rw[(a3.top rfl).1];rfl) ?_;exact U
 ·have e:π=ρ++[i]:=by simpa using e
  subst e;obtain⟨b1,q,b2,b3⟩:=a3.up ρ i rfl;have hl:ρ.length+1<=1000:=by simpa using EO
  refine zi (by rw[b2];rfl) (QS ?_);rw[b2];refine Uh h _ ρ q r N _ rfl an an b3 ?_;refine lq λkj Gw=>?_;refine iu (λhb=>?_) (λhb=>?_)
  ·have hi:0<i:=by have:=of_decide_eq_true hb;rw[b1]at this;exact this
   refine fQ ?_ ?_
   ·have:=tu (π:=ρ);simp only[List.length_cons,List.length_nil];omega
   ·subst Gw;rw[QbR,if_pos hi]at U;rw[b1];exact U
  ·have hi:¬0<i:=by have:=of_decide_eq_false hb;rw[b1]at this;exact this
   subst Gw;rw[QbR,if_neg hi]at U;exact U
def G1 (loc:Loc)(y:Nat):List Int:=((loc y).getD (0,[])).2
theorem Il {N:Nat} {Q:List QA->Prop} (hN:B0+4000000<=N)(hG:rJ S I P C)(h:qb S P C facts loc s)(hQ:Q (El S facts C.rows 0)):Xa N C.g s Q:=by
 have gJ:∀f∈facts,0<f.id:=λf hf=>by have:=(h.fr f hf).2;omega
 have hn:=h.ris.nodup;obtain⟨x,Wt,_,_,GI,_⟩:=h.inv.gNet;have hxl:x.rows.length=C.rows.length:=by rw[GI,List.length_map]
 have PV:=hG.rows;unfold Xa;refine rv hG h ?_;refine zi rfl ?_;refine lq λkj Gw=>?_;refine Qi Wt ?_;refine wX (λ(u,l)=>u<=C.rows.length/\l=El S facts (C.rows.take u) 0) (λ(u,_)=>C.rows.length-u) ?_ N (0,[]) ⟨Nat.zero_le _,by simp[El]⟩ (by dsimp only;omega);rintro⟨u,l⟩ ag ⟨hu,hl⟩ fa;dsimp only at hu hl fa⊢;refine iu (λhb=>?_) (λhb=>?_)
 ·have bq:u<C.rows.length:=by have:=of_decide_eq_true hb;omega
  obtain⟨R,hR⟩:∃R,C.rows[u]? =some R:=⟨_,List.getElem?_eq_getElem bq⟩
  have oE:=List.mem_of_getElem? hR;have bw:=hG.steps R oE;refine Qi (a:=R.b) (by rw[GI,List.getElem?_map,hR];rfl) ?_;refine lq λkj2 NM=>?_;obtain⟨y,Uf,_,_,_,_,_,hy2⟩:=h.inv.gRow hR;refine Qi Uf ?_;have PY:=FK (S:=S) h.ris gJ (l:=R.steps) (e:=(R.hs,R.vs));have sZ:C.rows.take (u+1)=C.rows.take u++[R]:=by rw[List.take_add_one,hR];rfl
  have a1G:(qY S facts R.steps (R.hs,R.vs)).length<=4096:=by
   have h1:=h.le;rw[<-List.take_append_drop (u+1) C.rows,sZ,tU,tU]at h1;have h2:fV S facts [R]=(qY S facts R.steps (R.hs,R.vs)).length+0:=rfl;omega
  have A8:∀z,z∈y.whole.keys↔∃π,loc z=some (u,π)/\π.length=R.steps.length:=λz=>by
   rw[hy2 z];constructor;· rintro⟨h1,_⟩;exact h1
   · exactλh1=>⟨h1,ax⟩
  have Ws:∀z,z∈y.whole.keys->loc z=some (u,G1 loc z)/\G1 loc z∈uT S facts R.steps (R.hs,R.vs):=λz U=>by
   obtain⟨π,h1,h2⟩:=(A8 z).1 U;have h3:G1 loc z=π:=by unfold G1;rw[h1];rfl
   rw[h3];exact⟨h1,(Sg hn).2 ⟨h2,h.inv.sound hR _ _ _ rfl h1⟩⟩
  have uI:∀d:List Nat,d.Nodup->(∀z∈d,z∈y.whole.keys)->(d.map (G1 loc)).Nodup:=λd hd hk=>by
   refine List.Pairwise.map _ (λa b Cb e=>?_) (List.Pairwise.and_mem.1 hd);obtain⟨h1,h2,h3⟩:=Cb;have q1:=(Ws a (hk a h1)).1;have q2:=(Ws b (hk b h2)).1;rw[<-e]at q2;exact h3 (h.inv.inj _ _ _ q1 q2)
  have NG:∀d:List Nat,d.Nodup->(∀z∈d,z∈y.whole.keys)->d.length<=4097:=λd hd hk=>by
   have h1:=Hm (uI d hd hk) λz U=>by
    obtain⟨w,hw,rfl⟩:=List.mem_map.1 U;exact(Ws w (hk w hw)).2
   rw[List.length_map]at h1;omega
  refine wX (λ(d,t)=>d.Nodup/\(∀z∈d,z∈y.whole.keys)/\t=d.map λz=>E0 u (G1 loc z)) (λ(d,_)=>4097-d.length) ?_ N (([]:List Nat),[]) ⟨List.nodup_nil,(λ_ h=>by cases h),rfl⟩ (by dsimp only;omega);rintro⟨d,t⟩ ag2 ⟨yV,uj,Wj⟩ Gr;dsimp only at yV uj Wj Gr⊢;have a1A:=NG d yV uj;refine Ph (λef=>?_) (λz U hzd=>?_)
  ·subst NM
   have Zf:(d.map (G1 loc)).Perm (uT S facts R.steps (R.hs,R.vs)):=(List.perm_ext_iff_of_nodup (uI d yV uj) (wv h.ris gJ)).2 λπ=>by
    constructor
    ·intro je;obtain⟨w,hw,rfl⟩:=List.mem_map.1 je;exact(Ws w (uj w hw)).2
    ·intro je;obtain⟨h1,h2⟩:=(Sg hn).1 je;obtain⟨w,hw⟩:=h.comp u R hR π h2;rw[List.nil_append]at hw;have h3:G1 loc w=π:=by unfold G1;rw[hw];rfl
     exact List.mem_map.2 ⟨w,ef w ((A8 w).2 ⟨π,hw,h1⟩),h3⟩
   have gY:((uT S facts R.steps (R.hs,R.vs)).map (E0 u)).Perm t:=by
    rw[Wj];have:=(Zf.map (E0 u)).symm;rw[List.map_map]at this;exact this
   have htl:t.length=d.length:=by rw[Wj,List.length_map]
   refine Qi (Lq (k:=((u:Nat):Int)) an (λw hw=>?_) an gY ?_) ?_
   ·rw[Wj]at hw;obtain⟨z,U,rfl⟩:=List.mem_map.1 hw;have h1:=((Sg hn).1 (Ws z (uj z U)).2).1;have h2:=tu (π:=G1 loc z);exact⟨rfl,by show(oQ _).length<_;omega⟩
   · exact List.Pairwise.map _ (λa b Cb=>Cb) (lP h.ris gJ)
   ·have hfl:=vu (S:=S) h.ris gJ (l:=C.rows.take u) (k:=0)
    have htu:fV S facts (C.rows.take u)<=4096:=by
     have h1:=h.le;rw[<-List.take_append_drop u C.rows,tU]at h1;omega
    have hul:(C.rows.take u).length=u:=by rw[List.length_take];omega
    refine fQ (by rw[hl,List.length_map];omega) ?_;refine fQ an ?_;refine fa (u+1,l++(uT S facts R.steps (R.hs,R.vs)).map (E0 u)) ⟨an,?_⟩ an;rw[sZ,sG,hl,hul,Nat.zero_add]
  ·obtain ⟨v,hv⟩:=MS.look_iff.1 U;refine Qi hv (QS ?_);obtain⟨w1,w2⟩:=Ws z U;have w3:=((Sg hn).1 w2).1;refine ZJ h.inv an an w1 ?_
   have PK:(d++[z]).Nodup:=by
    rw[List.nodup_append];refine⟨yV,ax,λa ha b hb e=>?_⟩;rw[List.mem_singleton.1 hb]at e;exact hzd (e▸ha)
   have dy:∀w∈d++[z],w∈y.whole.keys:=λw hw=>by
    rcases List.mem_append.1 hw with hw|hw;· exact uj w hw
    · rw[List.mem_singleton.1 hw];exact U
   have a0N:=NG _ PK dy;rw[List.length_append,List.length_singleton]at a0N;have htl:t.length=d.length:=by rw[Wj,List.length_map]
   refine fQ (by rw[List.length_singleton];omega) ?_;refine Gr (d++[z],t++[E0 u (G1 loc z)]) ⟨PK,dy,?_⟩ (by dsimp only;rw[List.length_append,List.length_singleton];omega);rw[Wj,List.map_append];rfl
 ·subst Gw;have:C.rows.take u=C.rows:=List.take_of_length_le (by have:=of_decide_eq_false hb;omega);rw[this]at hl;rw[hl];exact hQ
end
end
section
open Go Go.RowKit
def BW {α:Type} (p:α->Bool):List α->Nat->Int
 |[],_=>-1
 |x::l,i=>if p x then((i:Nat):Int)else BW p l (i+1)
theorem XI {α:Type} {p:α->Bool}:∀(l:List α)(i:Nat),decide (BW p l i>=0)=l.any p
 |[],_=>by simp[BW]
 | x::l,i=>by
   unfold BW;cases h:p x with
   |true=>simp[h]
   |false=>simp[h];exact(XI l (i+1))
theorem VU {α:Type} {l:List α} {f:Nat->Option (Nat⊕(Unit⊕Int))} {p:α->Bool} (step:∀i (h:i<l.length),f i=if p l[i]=true then some (.inr (.inr ((i:Nat):Int)))else some (.inl (i+1)))(stop:f l.length=some (.inr (.inl ()))):
   ∀(m i fuel:Nat),i+m=l.length->m<fuel->ji (fk f fuel i) (λ_=>some (-1))=some (BW p (l.drop i) i):=by
 intro m;induction m with
 | zero=>
   intro i fuel hi U;obtain⟨fuel,rfl⟩:∃q,fuel=q+1:=⟨fuel-1,an⟩
   obtain rfl:i=l.length:=an
   rw[uf stop,ud,List.drop_length];rfl
 | succ m ih=>
   intro i fuel hi U;obtain⟨fuel,rfl⟩:∃q,fuel=q+1:=⟨fuel-1,an⟩
   have h:i<l.length:=an
   rw[List.drop_eq_getElem_cons h];unfold BW;by_cases hp:p l[i]=true;· rw[if_pos hp,uf (by rw[step i h,if_pos hp]),MC]
   ·rw[if_neg hp,I4 (by rw[step i h,if_neg hp])];exact ih (i+1) fuel an an
noncomputable def oa (v:V):Bool:=@decide (HA v) (Classical.propDecidable _)
noncomputable def kJ (s:ByteArray):Bool:=@decide (N3 s.data.toList) (Classical.propDecidable _)
theorem B6 {m:Option Bool} {p:Prop} (h:ki m p):m=some (@decide p (Classical.propDecidable _)):=by
 obtain⟨b,h1,U⟩:=h;rw[h1];congr 1;rw[Bool.eq_iff_iff,U,@decide_eq_true_iff _ (Classical.propDecidable _)]
theorem QbS (N:Nat)(v:V):yL N v.k v.n v.s=some (oa v):=B6 (nh N v)
theorem AF (N:Nat)(s:ByteArray):VR N s=some (kJ s):=by
 unfold VR;have h:=nh N (⟨2,0,s⟩:V);have U:ki (yL N 2 0 s) (N3 s.data.toList):=h.iff (by unfold HA;simp);rw[B6 U,Q1];rfl
def xa:V:=⟨0,0,⟨#[]⟩⟩
mutual
noncomputable def kE (vars:Int):Q4->Bool
 | ⟨k,v,x,op,kids⟩=>
   if k=1 then decide (x=0/\op=0/\kids.length=0)&&oa v
   else if k=2 then decide (v=xa/\op=0/\kids.length=0/\0<=x/\x<vars)
   else if k=3 then decide (v=xa/\x=0/\1<=op/\op<=11/\kids.length=(if op=4\/op=11 then 1 else 2))&&MZ vars kids
   else false
noncomputable def MZ (vars:Int):List Q4->Bool
 |[]=>true
 |x::l=>kE vars x&&MZ vars l
end
theorem kY (vars:Int):∀l:List Q4,MZ vars l=!(l.any λx=> !kE vars x)
 |[]=>by simp[MZ]
 |x::l=>by rw[MZ,kY vars l,List.any_cons];cases kE vars x<;>simp
theorem nb (N:Nat)(k a b:Int)(s:ByteArray)(x op:Int)(kids:List Q4)(p q r:Bool):
  P1 N k a b s x op kids p q r=some ((p||decide ((⟨a,b,s⟩:V)=xa))&&((q||decide (x=0))&&(r||(decide (op=0)&&decide (kids.length=0))))):=by
 unfold P1 Q7Y xa;have U:(x==0)=decide (x=0):=by rw[Bool.eq_iff_iff];simp
 have e2:(op==0)=decide (op=0):=by rw[Bool.eq_iff_iff];simp
 have e3:(kids.length==0)=decide (kids.length=0):=by rw[Bool.eq_iff_iff];simp
 rw[U,e2,e3];cases p<;>cases q<;>cases r<;>cases decide ((⟨a,b,s⟩:V)=⟨0,0,⟨#[]⟩⟩)<;>cases decide (x=0)<;>cases decide (op=0)<;>cases decide (kids.length=0)<;>rfl
theorem EG {types:List Q7} {rules:List Qa} {vars facts:Int}:∀(m N:Nat) (e:Q4),nodes e<=m->m<=1000000->9223372036854775808+m<=N->
    OY N types rules vars facts e.kind e.value.k e.value.n e.value.s e.var e.op e.kids=some (kE vars e):=by
  intro m;induction m with
  |zero=>intro N e h;rw[MM]at h;omega
  | succ m ih =>
    intro N e h hm hN;obtain⟨N,rfl⟩:∃q,N=q+1:=⟨N-1,an⟩
    obtain⟨k,v,x,op,kids⟩:=e;have hk:Hz kids<=m:=by rw[MM]at h;simp only at h;omega
    show X6 N (OY N) types rules vars facts k v.k v.n v.s x op kids=_;unfold X6;rw[kE];by_cases h1:k=1
    · rw[br h1,if_pos h1,nb,Q1];simp only[Bool.true_or,Bool.true_and,Bool.false_or];by_cases U:(decide (x=0)&&(decide (op=0)&&decide (kids.length=0)))=true
      · rw[if_pos U,QbS,Q1];congr 1;simp at U;simp[U]
      · rw[if_neg U];congr 1;simp at U;symm;rw[Bool.and_eq_false_iff];left;simpa using U
    · rw [bs h1,if_neg h1];by_cases U:k=2
      · rw[br U,if_pos U,nb,Q1];simp only[Bool.true_or,Bool.true_and,Bool.false_or];have ev:(⟨v.k,v.n,v.s⟩:V)=v:=rfl;rw[ev];by_cases h3:(decide (v=xa)&&(decide (op=0)&&decide (kids.length=0)))=true
        · rw[if_pos h3];simp at h3;by_cases h4:0<=x
          · rw[br h4];congr 1;simp[h3,h4]
          · rw[bs h4];congr 1;simp[h4]
        · rw[if_neg h3];congr 1;simp at h3;simp;intro a b c;exact absurd c (h3 a b)
      · rw [bs U,if_neg U];by_cases h3:k=3
        · rw [br h3,if_pos h3]
          have hw:Q4D N op=some (if op=4\/op=11 then 1 else 2):=by
            unfold Q4D;by_cases a:op=4;· rw[br a,Q1,if_pos rfl,if_pos (.inl a)]
            · rw[bs a,Q1];by_cases b:op=11;· rw[br b,if_pos (.inr b)]
              · rw[bs b,if_neg an]
          have hex:X2 N (OY N) types rules vars facts kids=some (MZ vars kids):=by
            unfold X2 Q2w Q33;have hl:=VW kids;rw[VU (l:=kids) (p:=λy=>!kE vars y) (λi hi=>by
              unfold WT Q3I;have hn:=RV (List.getElem_mem hi);rw[br hi,List.getElem?_eq_getElem hi,Q1,ih N kids[i] an an an,Q1,Q1];by_cases hb:(!kE vars kids[i])=true;· rw[if_pos hb,if_pos hb]
              · rw[if_neg hb,if_neg hb,QM an]) (by
              unfold WT;rw[if_neg ax]) kids.length 0 N an an,Q1,Q1,List.drop_zero,XI,kY]
          rw[hw,Q1];unfold Q5P;rw[nb,Q1];simp only[Bool.true_or,Bool.false_or,Bool.and_true];have ev:(⟨v.k,v.n,v.s⟩:V)=v:=rfl;rw[ev];by_cases c1:v=xa/\x=0
          · rw [if_pos (by simp[c1])];by_cases c2:1<=op
            · rw[br c2];by_cases c3:op<=11
              · rw[br c3];by_cases c4:kids.length=(if op=4\/op=11 then 1 else 2)
                · rw[br c4,hex,Q1,Q1];congr 1;rw[decide_eq_true ⟨c1.1,c1.2,c2,c3,c4⟩,Bool.true_and]
                · rw[bs c4,Q1,decide_eq_false (λh=>c4 h.2.2.2.2),Bool.false_and]
              · rw[bs c3,Q1,decide_eq_false (λh=>c3 h.2.2.2.1),Bool.false_and]
            · rw[bs c2,Q1,decide_eq_false (λh=>c2 h.2.2.1),Bool.false_and]
          · rw[bs c1,Q1,decide_eq_false (λh=>c1 ⟨h.1,h.2.1⟩),Bool.false_and]
        · rw[bs h3,if_neg h3]
end
section
open Go Go.RowKit Classical
theorem XV {n:Int}:(if n<0 then 45::jl 20 n.natAbs else jl 20 n.toNat)=(uz n).data.toList:=by
 unfold uz;simp
def Lt (l:List UInt8):Nat:=l.foldl (λa b=>a*10+(b.toNat-48)) 0
theorem qR (u:Nat)(h:u<10):(UInt8.ofNat (48+u)).toNat=48+u:=by
 rw[UInt8.toNat_ofNat'];omega
theorem mx:∀(f u:Nat),u<10^(f+1)->Lt (jl (f+1) u)=u
 | f,u,hu=>by
   unfold jl;by_cases h:u<10
   ·rw[if_pos h];simp only[Lt,List.foldl_cons,List.foldl_nil,qR u h];omega
   ·rw[if_neg h];cases f with
    |zero=>simp at hu;omega
    | succ f=>
      have U:=mx f (u/10) (by rw[Nat.pow_succ]at hu;omega);unfold Lt at U⊢;rw[List.foldl_append,U];simp only[List.foldl_cons,List.foldl_nil,qR _ (Nat.mod_lt u (by omega:0<10))];omega
theorem mw:∀(f u:Nat),∀b∈jl f u,48<=b.toNat/\b.toNat<=57
 |0,_,b,h=>by simp[jl]at h
 | f+1,u,b,h=>by
   unfold jl at h;split at h
   ·rename_i hu;rw[List.mem_singleton]at h;subst h;have:=qR u hu;rw[this];omega
   ·rcases List.mem_append.1 h with h|h;· exact mw f _ b h
    ·rw[List.mem_singleton]at h;subst h;have:=qR (u%10) (Nat.mod_lt u an);rw[this];omega
theorem Sx (f u:Nat):jl (f+1) u≠[]:=by
 unfold jl;split<;>simp
theorem Av {n m:Int} (hn:-9223372036854775808<=n/\n<=9223372036854775807)(hm:-9223372036854775808<=m/\m<=9223372036854775807)(h:(uz n).data.toList=(uz m).data.toList):n=m:=by
 have hp:(10:Nat)^20=100000000000000000000:=bf
 rw[<-XV,<-XV]at h;by_cases h1:n<0<;>by_cases U:m<0
 ·rw[if_pos h1,if_pos U]at h;have h3:=congrArg Lt (List.cons.inj h).2;rw[mx 19 _ (by rw[hp];omega),mx 19 _ (by rw[hp];omega)]at h3;omega
 ·rw[if_pos h1,if_neg U]at h;have:=mw 20 m.toNat 45 (by rw[<-h];simp);exact absurd this.1 bf
 ·rw[if_neg h1,if_pos U]at h;have:=mw 20 n.toNat 45 (by rw[h];simp);exact absurd this.1 bf
 ·rw[if_neg h1,if_neg U]at h;have h3:=congrArg Lt h;rw[mx 19 _ (by rw[hp];omega),mx 19 _ (by rw[hp];omega)]at h3;omega
theorem mR {n:Int}:∀b∈(uz n).data.toList,b≠44/\b≠39:=by
 rw[<-XV];intro b U;split at U
 ·rcases List.mem_cons.1 U with rfl|U;· exact⟨bf,bf⟩
  ·have:=mw _ _ b U;exact⟨λe=>by subst e;exact absurd this.1 bf,λe=>by subst e;exact absurd this.1 bf⟩
 ·have:=mw _ _ b U;exact⟨λe=>by subst e;exact absurd this.1 bf,λe=>by subst e;exact absurd this.1 bf⟩
theorem O0 {n:Int}:(uz n).data.toList≠[]:=by
 rw[<-XV];split;· simp
 · exact Sx 19 _
theorem xw:∀(f u:Nat),(jl f u).length<=f
 |0,_=>by simp[jl]
 | f+1,u=>by
   unfold jl;split;· simp
   ·have:=xw f (u/10);rw[List.length_append,List.length_singleton];omega
theorem vE {n:Int}:(uz n).size<=21:=by
 have h:(uz n).size=(uz n).data.toList.length:=rfl;rw[h,<-XV];split
 ·have:=xw 20 n.natAbs;rw[List.length_cons];omega
 ·have:=xw 20 n.toNat
  omega
def BK:eN:=⟨1,0,⟨0,0,⟨#[]⟩⟩⟩
def iT (l:List eN):List eN:=l.map λa=>if a.k=4 then a else BK
theorem tD {v:V} (h:oa v=true):HA v:=@of_decide_eq_true _ (Classical.propDecidable _) h
noncomputable def x5 (v:V):ByteArray:=if oa v=true then(if v.k=2 then(⟨#[39]⟩:ByteArray)++v.s else uz v.n)else⟨#[]⟩
theorem OI (N:Nat) {v:V} (h:dm v.n)(hs:v.s.size<=140737488351232):XA N v.k v.n v.s=some (x5 v):=by
 unfold XA x5;rw[QbS,Q1];cases hr:oa v with
 |false=>rfl
 | true=>
   rw[if_neg ax,if_pos rfl];by_cases U:v.k=2
   ·have e1:(⟨#[39]⟩:ByteArray).size=1:=rfl;rw[br U,if_pos U,QM (by rw[e1];omega)]
   · rw[bs U,if_neg U,QM (show-9223372036854775808<=v.n/\v.n<=9223372036854775807 from h)]
theorem Ha {v:V} (hs:v.s.size<=140737488351232):(x5 v).size<=140737488351233:=by
 unfold x5;split
 ·split
  ·have U:(⟨#[39]⟩:ByteArray).size=1:=rfl;rw[ByteArray.size_append,U];omega
  · have:=vE (n:=v.n);omega
 · show 0<=_;omega
theorem QbV {v:V} (U:oa v=true):(x5 v).data.toList=if v.k=2 then 39::v.s.data.toList else(uz v.n).data.toList:=by
 unfold x5;rw[if_pos U];split;· simp[ByteArray.data_append]
 · rfl
theorem FG {v:V}:∀b∈(x5 v).data.toList,b≠44:=by
 intro b U;cases hr:oa v with
 |false=>unfold x5 at U;rw[hr]at U;cases U
 | true=>
   rw[QbV hr]at U;split at U
   ·rename_i h2;rcases List.mem_cons.1 U with rfl|U;· decide
    ·have hp:HA v:=tD hr;rcases hp with⟨h1,_⟩|⟨_,_,_,_,_,h3⟩
     · omega
     ·have:=h3 b U;intro e;subst e;unfold DA uM at this;revert this;decide
   · exact(mR b U).1
theorem Lp {v w:V} (hv:oa v=true)(hw:oa w=true)(iv:dm v.n)(iw:dm w.n)(h:(x5 v).data.toList=(x5 w).data.toList):v=w:=by
 rw[QbV hv,QbV hw]at h;have pv:HA v:=tD hv;have pw:HA w:=tD hw;obtain⟨k1,n1,⟨⟨s1⟩⟩⟩:=v;obtain⟨k2,n2,⟨⟨s2⟩⟩⟩:=w;unfold HA at pv pw;simp only at pv pw h iv iw;rcases pv with⟨U,a2⟩|⟨U,a2,a3⟩<;>rcases pw with⟨b1,b2⟩|⟨b1,b2,b3⟩
 ·rw[if_neg an,if_neg an]at h;have:=Av iv iw h;rw[U,b1,a2,b2,this]
 ·rw[if_neg an,if_pos b1]at h;exact absurd rfl (mR 39 (by rw[h];simp)).2
 ·rw[if_pos U,if_neg an]at h;exact absurd rfl (mR 39 (by rw[<-h];simp)).2
 ·rw[if_pos U,if_pos b1]at h;rw[U,b1,a2,b2,(List.cons.inj h).2]
theorem Bv {v:V} (U:oa v=true):(x5 v).data.toList≠[]:=by
 rw[QbV U];split;· simp
 · exact O0
theorem wk:(x5 BK.v).data.toList=[]:=by
 unfold x5
 have:oa BK.v=false:=by
  unfold oa;refine @decide_eq_false _ (Classical.propDecidable _) λh=>?_
  rcases h with⟨h,_⟩|⟨h,_⟩
  · exact absurd h bf
  · exact absurd h bf
 rw[this];rfl
theorem yq:∀{a b r U:List UInt8},(∀x∈a,x≠44)->(∀x∈b,x≠44)->(r=[]\/∃t,r=44::t)->(U=[]\/∃t,U=44::t)->a++r=b++U->a=b/\r=U
 |[],[],_,_,_,_,_,_,h=>⟨rfl,h⟩
 | [],y::b,r,U,_,hb,hr,_,h=>by
   rcases hr with rfl|⟨t,rfl⟩
   · cases h
   · exact absurd (List.cons.inj h).1.symm (hb y List.mem_cons_self)
 | x::a,[],r,U,ha,_,_,cy,h=>by
   rcases cy with rfl|⟨t,rfl⟩
   · cases h
   · exact absurd (List.cons.inj h).1 (ha x List.mem_cons_self)
 | x::a,y::b,r,U,ha,hb,hr,cy,h=>by
   obtain⟨h1,h2⟩:=List.cons.inj h;obtain⟨h3,h4⟩:=yq (λz hz=>ha z (List.mem_cons_of_mem _ hz)) (λz hz=>hb z (List.mem_cons_of_mem _ hz)) hr cy h2;exact⟨by rw[h1,h3],h4⟩
def rH (a:eN):Prop:=a=BK\/(a.k=4/\a.var=0/\oa a.v=true/\dm a.v.n)
noncomputable def j3 (l:List eN):List UInt8:=l.flatMap λa=>44::(x5 a.v).data.toList
noncomputable def AA (kind:Int)(l:List eN):List UInt8:=(uz kind).data.toList++j3 l
theorem QaN:∀l:List eN,j3 l=[]\/∃t,j3 l=44::t
 |[]=>.inl rfl
 |a::l=>.inr ⟨_,rfl⟩
theorem Bu:∀{l m:List eN},(∀a∈l,rH a)->(∀a∈m,rH a)->j3 l=j3 m->l=m
 |[],[],_,_,_=>rfl
 |[],b::m,_,_,h=>by cases h
 |a::l,[],_,_,h=>by cases h
 | a::l,b::m,ha,hb,h=>by
   have h1:=(List.cons.inj (show 44::((x5 a.v).data.toList++j3 l)=44::((x5 b.v).data.toList++j3 m)from h)).2;obtain⟨U,h3⟩:=yq FG FG (QaN l) (QaN m) h1;rw[Bu (λx hx=>ha x (List.mem_cons_of_mem _ hx)) (λx hx=>hb x (List.mem_cons_of_mem _ hx)) h3];congr 1;rcases ha a List.mem_cons_self with e1|⟨p1,p2,p3,p4⟩<;>rcases hb b List.mem_cons_self with e2|⟨q1,q2,q3,q4⟩
   · rw[e1,e2]
   ·subst e1;rw[wk]at U;exact absurd U.symm (Bv q3)
   ·subst e2;rw[wk]at U;exact absurd U (Bv p3)
   ·have h4:=Lp p3 q3 p4 q4 U;obtain⟨k1,v1,x1⟩:=a;obtain⟨k2,v2,x2⟩:=b;simp only at p1 p2 q1 q2 h4;rw[p1,p2,q1,q2,h4]
theorem key_inj {k k':Int} {l m:List eN} (hk:dm k)(dy:dm k')(hl:∀a∈l,rH a)(hm:∀a∈m,rH a)(h:AA k l=AA k' m):k=k'/\l=m:=by
 obtain⟨h1,h2⟩:=yq (λb U=>(mR b U).1) (λb U=>(mR b U).1) (QaN l) (QaN m) h;exact⟨Av hk dy h1,Bu hl hm h2⟩
end
section
open Go Go.RowKit
def rM (types:List Q7)(kind fields:Int):Bool:=match types[kind.toNat]? with
 |some t=>decide (0<=kind)&&t.fields==fields
 |none=>false
theorem Bw (N:Nat)(types:List Q7)(rules:List Qa)(a b kind fields:Int):VG N types rules a b kind fields=some (rM types kind fields):=by
 unfold VG rM;by_cases h:0<=kind
 ·rw [br h];by_cases h2:kind<((types.length:Nat):Int)
  ·have U:kind.toNat<types.length:=an
   rw[br h2,QM h,List.getElem?_eq_getElem U,Q1];simp[h]
  · rw[bs h2,List.getElem?_eq_none an]
 ·rw[bs h];split;· simp[h]
  · rfl
noncomputable def ko (binds:Bool)(vars:Int)(a:eN):Bool×Int:=
 if a.k=1 then(decide (a.var=0/\a.v=xa),vars)
 else if a.k=2 then(binds&&decide (a.var=vars/\a.v=xa),vars+1)
 else if a.k=3 then(decide (0<=a.var/\a.var<vars/\a.v=xa),vars)
 else if a.k=4 then(decide (a.var=0)&&oa a.v,vars)
 else(false,vars)
theorem Sk (N:Nat)(types:List Q7)(rules:List Qa) {vars:Int} (hv:0<=vars/\vars<=1000000000)(b:Int)(a:eN)(binds:Bool):Xj N types rules vars b a.k a.var a.v.k a.v.n a.v.s binds=some (ko binds vars a):=by
 unfold Xj ko;have ev:(⟨a.v.k,a.v.n,a.v.s⟩:V)=a.v:=rfl;rw[ev];by_cases h1:a.k=1
 ·rw[br h1,if_pos h1];by_cases h:a.var=0;· rw[br h];simp[h,xa]
  · rw[bs h];simp[h]
 ·rw [bs h1,if_neg h1];by_cases U:a.k=2
  ·rw[br U,if_pos U,QM an];cases binds with
   |false=>rw[if_neg ax];simp
   | true=>
     rw[if_pos rfl,QM an,show vars+1-1=vars from by omega];by_cases h:a.var=vars;· rw[br h];simp[h,xa]
     · rw[bs h];simp[h]
  ·rw [bs U,if_neg U];by_cases h3:a.k=3
   · rw[br h3,if_pos h3];by_cases h:0<=a.var
     ·rw[br h];by_cases h':a.var<vars;· rw[br h'];simp[h,h',xa]
      · rw[bs h'];simp[h']
     · rw[bs h];simp[h]
   · rw[bs h3,if_neg h3];by_cases h4:a.k=4
     ·rw[br h4,if_pos h4];by_cases h:a.var=0;· rw[br h,QbS,Q1];simp[h]
      · rw[bs h];simp[h]
     · rw[bs h4,if_neg h4]
theorem zr (binds:Bool)(vars:Int)(a:eN):(ko binds vars a).2=vars\/(ko binds vars a).2=vars+1:=by
 unfold ko;split;· exact .inl rfl
 ·split;· exact .inr rfl
  ·split;· exact .inl rfl
   · split<;>exact .inl rfl
noncomputable def C4 (binds:Bool):List eN->Int->Bool×Int
 |[],vars=>(true,vars)
 |a::l,vars=>if(ko binds vars a).1=true then C4 binds l (ko binds vars a).2 else(false,(ko binds vars a).2)
theorem vl (binds:Bool):∀(l:List eN)(vars:Int),vars<=(C4 binds l vars).2/\(C4 binds l vars).2<=vars+((l.length:Nat):Int)
 |[],vars=>by simp[C4]
 | a::l,vars=>by
   unfold C4;have h:=zr binds vars a;split
   ·have:=vl binds l (ko binds vars a).2;simp only[List.length_cons];omega
   · simp only[List.length_cons];omega
theorem Ga {N:Nat} {types:List Q7} {rules:List Qa} {facts kind:Int} {l:List eN} (hl:l.length<=1000000):
   ∀ (m i fuel:Nat) (vars:Int),i+m=l.length->m<fuel->0<=vars->vars+((m:Nat):Int)<=1000000000->
     fk (RH N l types rules facts kind) fuel (i,vars)=some (if(C4 (kind==1) (l.drop i) vars).1=true then .inl (C4 (kind==1) (l.drop i) vars).2 else .inr (false,(C4 (kind==1) (l.drop i) vars).2,facts)):=by
 intro m;induction m with
 | zero=>
   intro i fuel vars hi hf U hv;obtain⟨fuel,rfl⟩:∃q,fuel=q+1:=⟨fuel-1,an⟩
   obtain rfl:i=l.length:=an
   rw[uf (o:=.inl vars) (by unfold RH;simp only;rw[if_neg ax]),List.drop_length];simp[C4]
 | succ m ih=>
   intro i fuel vars hi hf U hv;obtain⟨fuel,rfl⟩:∃q,fuel=q+1:=⟨fuel-1,an⟩
   have h:i<l.length:=an
   have hs:RH N l types rules facts kind (i,vars)=if(ko (kind==1) vars l[i]).1=true then some (.inl (i+1,(ko (kind==1) vars l[i]).2))else some (.inr (.inr (false,(ko (kind==1) vars l[i]).2,facts))):=by
     unfold RH;simp only;rw[br h,List.getElem?_eq_getElem h,Q1,Sk N types rules an facts l[i] (kind==1),Q1];by_cases hb:(ko (kind==1) vars l[i]).1=true
     ·simp only[hb,Bool.not_true,Bool.false_eq_true,if_false,if_true];rw[QM an]
     ·simp only[Bool.not_eq_true]at hb;simp only[hb,Bool.not_false,if_true,Bool.false_eq_true,if_false]
   rw[List.drop_eq_getElem_cons h];rw[C4];have hv2:=zr (kind==1) vars l[i];by_cases hb:(ko (kind==1) vars l[i]).1=true
   · rw[if_pos hb]at hs⊢;rw[I4 hs];exact ih (i+1) fuel _ an an an an
   · rw[if_neg hb]at hs⊢;rw[uf hs];simp
def wz (e:Q4):Bool:=decide (e.kind=0/\e.value=xa/\e.var=0/\e.op=0/\e.kids.length=0)
noncomputable def rN (types:List Q7)(vars facts:Int)(c:Qp):Bool×Int×Int:=
 if c.kind=1\/c.kind=2 then
  if rM types c.type ((c.args.length:Nat):Int)&&wz c.test then
   (if(C4 (c.kind==1) c.args vars).1=true then(true,(C4 (c.kind==1) c.args vars).2,if c.kind=1 then facts+1 else facts)else(false,(C4 (c.kind==1) c.args vars).2,facts))
  else(false,vars,facts)
 else if c.kind=3 then(decide (c.type=0/\c.args.length=0)&&kE vars c.test,vars,facts)
 else(false,vars,facts)
theorem N9 {N:Nat} {types:List Q7} {rules:List Qa} {vars facts:Int} {c:Qp} (hN:9223372036854775808+1000000<=N)(ha:c.args.length<=1000000)(ht:nodes c.test<=1000000)(hv:0<=vars/\vars<=1000000)(hf:0<=facts/\facts<=1000000):
  X8 N types rules vars facts c.kind c.type c.args c.test.kind c.test.value.k c.test.value.n c.test.value.s c.test.var c.test.op c.test.kids=some (rN types vars facts c):=by
 unfold X8 rN
 have e12:(if(c.kind==1)=true then some (c.kind==1)else some (c.kind==2))=some (decide (c.kind=1\/c.kind=2)):=by
  by_cases h:c.kind=1;· simp[h]
  · rw[bs h];congr 1;rw[Bool.eq_iff_iff];simp[h]
 rw[e12,Q1];by_cases U:c.kind=1\/c.kind=2
 ·rw [br U,if_pos U]
  have HI:Q4C N types rules vars facts c.type c.args c.test.kind c.test.value.k c.test.value.n c.test.value.s c.test.var c.test.op c.test.kids=some (!(rM types c.type ((c.args.length:Nat):Int)&&wz c.test)):=by
   unfold Q4C;rw[Bw,Q1];cases ht:rM types c.type ((c.args.length:Nat):Int)with
   |false=>simp
   | true=>
     rw[if_neg ax];by_cases hk:c.test.kind=0
     ·rw[bs hk,nb,Q1];congr 1;unfold wz;have ev:(⟨c.test.value.k,c.test.value.n,c.test.value.s⟩:V)=c.test.value:=rfl;rw[ev,Bool.eq_iff_iff];simp[hk]
     ·rw[br hk];congr 1;unfold wz;simp[hk]
  rw[HI,Q1];by_cases hg:(rM types c.type ((c.args.length:Nat):Int)&&wz c.test)=true
  ·rw[if_neg (by rw[hg];simp),if_pos hg,Ga ha c.args.length 0 N vars an an hv.1 an,List.drop_zero];by_cases hb:(C4 (c.kind==1) c.args vars).1=true
   · rw[if_pos hb,if_pos hb,ud];by_cases h1:c.kind=1;· rw[br h1,QM an,Q1,if_pos h1]
     · rw[bs h1,Q1,if_neg h1]
   · rw[if_neg hb,if_neg hb,MC]
  ·have hgf:(rM types c.type ((c.args.length:Nat):Int)&&wz c.test)=false:=by simpa only[Bool.not_eq_true]using hg
   rw[hgf,if_pos It,if_neg ax]
 ·rw [bs U,if_neg U];by_cases h3:c.kind=3
  ·rw[br h3,if_pos h3];by_cases h4:c.type=0
   · rw[br h4];by_cases h5:c.args.length=0
     ·rw[br h5,EG 1000000 N c.test ht an an,Q1];congr 1;rw[decide_eq_true ⟨h4,h5⟩,Bool.true_and]
     · rw[bs h5,decide_eq_false (λh=>h5 h.2),Bool.false_and]
   · rw[bs h4,decide_eq_false (λh=>h4 h.1),Bool.false_and]
  · rw[bs h3,if_neg h3]
end
end Go.Proofs.YtocfkfhdcnjklaaGreatDoor
