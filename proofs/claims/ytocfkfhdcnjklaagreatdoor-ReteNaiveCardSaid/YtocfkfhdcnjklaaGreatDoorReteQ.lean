import Derived.Test.YtocfkfhdcnjklaaGreatDoorReteA
open List renaming getElem?_eq_some_iff->b',length_map->c',length_cons->d',mem_map->f',mem_cons_of_mem->g',getElem?_eq_getElem->i',length_append->m',mem_singleton->n',mem_of_getElem?->p',mem_append->t',take_append_drop->u',mem_cons->v',filter_cons_of_pos->w',drop_eq_getElem_cons->y',filter_cons_of_neg->B',length_nil->E',mem_cons_self->K',nodup_append->M',take_append_of_le_length->N',take_of_length_le->S',nodup_cons->W',flatMap_cons->a!,mem_append_left->b!,map_congr_left->c!,map_cons->d!,nodup_nil->e!,drop_eq_nil_of_le->g!,eq_nil_or_concat->h!,length_singleton->i!,mem_flatMap->j!,nil_append->k!,map_map->l!,pairwise_cons->n!,append_assoc->p!,getElem?_cons_zero->t!,length_eq_zero_iff->u!,mem_iff_getElem?->v!,pairwise_flatMap->w!,length_filter_le->x!,length_pos_iff->y!,sum_cons->A!,take_add_one->D!,cons_append->E!,flatMap_nil->F!,append_nil->G!,map_append->H!,take_zero->I!,drop_zero->J!,map_nil->L!,sum_nil->M!
open Option renaming bind_some->j',ne_none_iff_exists'->H',filter->K!,ext->O!
open Nat renaming not_lt_zero->F',le_refl->q!,zero_le->r!,lt_irrefl->z!,le_trans->C!,add_zero->N!
open Bool renaming false_and->o!,true_and->B!
namespace Go.Proofs.YtocfkfhdcnjklaaGreatDoor
section
open Go Go.RowKit Classical
section
variable {S:fY} {I:fb->Prop} {C:gA} {T:dc} {Ta:Nat->dc} {B:Nat->aq Int->dc×dc} {Zo:Nat->Prop} {di:bf Nat} {loc:Loc} {s:Qe} {D:aq Int}
theorem LR {N a b:Nat} {i t:Int} {l:aq V} {s:Qe} {Q:Bool->Prop} (e:a=b)(h:OY N b i t l s Q):OY N a i t l s Q:=e▸h
theorem Ct {N M r k a:Nat} {R:fH} {sc:fz} {f:Qg} {T0:dc} {Q:Qe->Prop} (hW:pV C) (hr:C.rows[r]? =some R) (hk:R.steps[k]? =some sc) (cx:sc.st=.nt a) (hlen:R.steps.length<9223372036854775807) (dh:yY S I C T sc) (hI:∀π e,gE S T R.steps (R.hs,R.vs) π=some e->I e)
    (hN0:B0<=N) (hM:M<4398046511103) (hN:M+R.steps.length+R.steps.length+2<N) (hA:∀A∈C.als,A.args.length<N/\A.args.length<9223372036854775807/\(f.ty=A.kind->∀(j:Nat) (a:fK),A.args[j]? =some a->∃v,f.args[j]? =some v)) (hZ:∀(k:Nat) (sc:fz),R.steps[k]? =some sc->¬Zo sc.st.adr) (hf:T f.id=some f) (OI:T0 f.id=none) (Rb:∀i,i≠f.id->T0 i=T i) (hB0:∀π:aq Int,π.length=k->B r π=(T0,T0))
    (h:Inv S C T Ta B Zo none loc s) (hc:∀n,jd loc n->n<=M)
    (hQ:∀bq s',Inv S C T Ta (oO B r k T) Zo none bq s'->(∀y l,bq y=some l↔loc y=some l/\¬∃q ρ e,loc q=some (r,ρ)/\ρ.length=k/\gE S T R.steps (R.hs,R.vs) ρ=some e/\(S.mt sc.c e.1 e.2 f).isSome=true/\∃τ,τ≠[]/\l=(r,ρ++τ))->Q s'):Q7o N a f.id f.ty f.args s Q:=by
  have h0:=h.step r R k sc hr hk (hZ k sc hk);unfold jg at h0;rw[cx]at h0;obtain⟨x,b1,b2,b3,b4,b5,b6⟩:=h0;have si:s a=some (.nt x):=b1;have fT:sc.st.adr=a:=by rw[cx];rfl
  have kZ:k<R.steps.length:=(b'.1 hk).1;obtain⟨L,hL1,WO⟩:=h.parts_list hr hc;obtain⟨n0,TO⟩:=h.cnt;obtain⟨A,rv,OE,WG⟩:=dh.al (λa' e'=>by rw[cx]at e';cases e')
  have Ez:∀(e:fb) (i:Int),kT S sc e T i↔kT S sc e T0 i\/(i=f.id/\(S.mt sc.c e.1 e.2 f).isSome=true):=λe i=>by
    by_cases hi:i=f.id
    · subst hi;constructor
      · rintro⟨g,g1,g2⟩;rw[hf]at g1;cases g1;exact .inr ⟨rfl,g2⟩
      · rintro(⟨g,g1,_⟩|⟨_,g2⟩);· rw[OI]at g1;cases g1
        · exact⟨f,hf,g2⟩
    · constructor;· rintro⟨g,g1,g2⟩;exact .inl ⟨g,by rw[Rb i hi];exact g1,g2⟩
      · rintro(⟨g,g1,g2⟩|⟨g1,_⟩);· exact⟨g,by rw[<-Rb i hi];exact g1,g2⟩
        · exact absurd g1 hi
  obtain⟨hAn,hAl,hAf⟩:=hA A rv;refine Qo (Ot si) ?_;refine gV ?_;refine LR (b2.trans OE.symm) (LS (h.al A rv) hAn hAl hAf ?_)
  refine jj (λhb=>?_) (λhb=>?_)
  · have og:∀e:fb,(S.mt sc.c e.1 e.2 f).isSome=false:=λe=>by
      cases U:S.mt sc.c e.1 e.2 f with
      |none=>rfl
      |some p=>have:=WG f e p U;rw[this]at hb;simp at hb
    refine hQ loc s (h.congrK λp r' π R' z ez a' hp ei hx he q1 q2 i=>?_) λy l=>⟨λhy=>⟨hy,λ⟨q,ρ,e,_,_,_,e4,_⟩=>by rw[og]at e4;cases e4⟩,λhy=>hy.1⟩
    unfold oO;by_cases U:r'=r/\π.length=k
    · rw[if_pos U];obtain⟨rfl,U⟩:=U;rw[hr]at ei;cases ei;rw[U,hk]at q1;cases q1;rw[hB0 π U];have:=Ez (z.has,z.vals) i;rw[og]at this;have key:kT S sc (z.has,z.vals) T i↔kT S sc (z.has,z.vals) T0 i:=by rw[this];simp
      exact⟨key,key.1⟩
    · rw[if_neg U];exact⟨Iff.rfl,λh=>h⟩
  · let Bd:aq Nat->Nat->aq Int->dc×dc:=λd r' fV=>if r'=r/\∃q∈d,loc q=some (r,fV)then(T,T)else B r' fV
    refine z7 (λ(b,m,d,σ)=>b=x.partsA/\m=x.parts/\d.Nodup/\(∀q∈d,q∈x.parts.keys)/\∃bq,Inv S C T Ta (Bd d) Zo none bq σ/\Frame s σ R (k+1)/\∀y l,bq y=some l↔loc y=some l/\¬∃q∈d,∃ρ e,loc q=some (r,ρ)/\ρ.length=k/\gE S T R.steps (R.hs,R.vs) ρ=some e/\(S.mt sc.c e.1 e.2 f).isSome=true/\∃τ,τ≠[]/\l=(r,ρ++τ)) (λ(_,_,d,_)=>M+1-d.length) ?_ N _ ⟨rfl,rfl,e!,(λq hq=>by cases hq),loc,h.congrB (λp r' fV _=>if_neg λ⟨_,q,hq,_⟩=>by cases hq),(λ_ _ _ _=>rfl),λy l=>⟨λhy=>⟨hy,λ⟨q,hq,_⟩=>by cases hq⟩,λhy=>hy.1⟩⟩ (by show M+1-0<N;omega);rintro⟨b,m,d,σ⟩ ag ⟨rfl,rfl,rz,ry,eu,kc,DU,jx⟩ gQ;have mP:σ a=some (.nt x):=by rw[<-fT,DU k sc au hk,fT];exact si
    refine Qo (Ot mP) ?_;refine gY ⟨rfl,rfl⟩ ?_;refine T7 (λeZ=>?_) λq hq GZ=>?_
    · refine hQ eu σ (kc.congrB λp r' fV hp=>?_) λy l=>?_
      · have ti:=((jx p _).1 hp).1;show oO B r k T r' fV=if _ then _ else _
        unfold oO;by_cases U:r'=r/\fV.length=k
        · rw[if_pos U];obtain⟨rfl,U⟩:=U;rw[if_pos ⟨rfl,p,eZ p ((b6 p).2 ⟨⟨fV,ti,U⟩,bh⟩),ti⟩]
        · rw[if_neg U];split
          · rename_i h2;obtain⟨rfl,q,hq,BS⟩:=h2;obtain⟨⟨ρ,e1,e2⟩,_⟩:=(b6 q).1 (ry q hq);rw[e1]at BS;cases BS;exact absurd ⟨rfl,e2⟩ U
          · rfl
      · rw[jx];constructor
        · rintro⟨e1,e2⟩;refine⟨e1,λ⟨q,ρ,e,e3,e4,e5⟩=>e2 ⟨q,eZ q ((b6 q).2 ⟨⟨ρ,e3,e4⟩,bh⟩),ρ,e,e3,e4,e5⟩⟩
        · rintro⟨e1,e2⟩;exact⟨e1,λ⟨q,_,ρ,e,e3⟩=>e2 ⟨q,ρ,e,e3⟩⟩
    · obtain ⟨⟨ρ,iN,jc⟩,_⟩:=(b6 q).1 hq
      have IK:eu q=some (r,ρ):=(jx q _).2 ⟨iN,λ⟨q',_,de,_,_,e4,_,_,τ,e5,e6⟩=>by
        have:=congrArg (λz:Nat×aq Int=>z.2.length) e6;have:=y!.2 e5;simp only[m']at*;omega⟩
      obtain⟨v,hv⟩:=Q7R hq;refine Qo hv ?_;obtain⟨R',z,r1,r2,r3,r4⟩:=kc.gPart IK;rw[hr]at r1;cases r1;have qj:=r4.env;have hIe:=hI _ _ qj;refine Qo r2 ?_;obtain⟨ha,hw,d1,d2⟩:=dh.mt (λa' e'=>by rw[cx]at e';cases e') N hN0 f hf _ hIe;refine Qo (a:=(ha,hw,(S.mt sc.c (z.has,z.vals).1 (z.has,z.vals).2 f).isSome)) (by rw[b5];exact d1) ?_;obtain⟨bb,m,m1,m2,m3⟩:=r4.blocks bh sc a (by rw[jc];exact hk) cx
      have WJ:Bd d r ρ=(T0,T0):=by
        show(if _ then _ else _)=_;rw[if_neg];· exact hB0 ρ jc
        · rintro⟨_,q',eR,BS⟩;exact GZ (by rw[h.inj _ _ _ iN BS];exact eR)
      rw[WJ]at m2
      have Rh:d.length<M+1:=by
        have:=Kf (l:=L) (W'.2 ⟨GZ,rz⟩) λw hw=>by
          have:w∈x.parts.keys:=by
            rcases v'.1 hw with rfl|hw;· exact hq
            · exact ry w hw
          obtain⟨⟨π,e1,_⟩,_⟩:=(b6 w).1 this;exact WO w π e1
        simp only[d']at this;omega
      have Fa:(d++[q]).Nodup:=M'.2 ⟨rz,bh,λy hy w hw e1=>GZ (by simp at hw;rw[<-hw,<-e1];exact hy)⟩
      have F9:∀w∈d++[q],w∈x.parts.keys:=λw hw=>by
        rcases t'.1 hw with hw|hw;· exact ry w hw
        · rw[n'.1 hw];exact hq
      have uE:Bd (d++[q]) r ρ=(T,T):=if_pos ⟨rfl,q,bh,iN⟩
      have BI:∀r' fV,(r',fV)≠(r,ρ)->Bd (d++[q]) r' fV=Bd d r' fV:=λr' fV ep=>by
        show(if _ then _ else _)=(if _ then _ else _)
        by_cases U:r'=r/\∃q'∈d,loc q'=some (r,fV);· rw[if_pos U,if_pos ⟨U.1,U.2.choose,b! _ U.2.choose_spec.1,U.2.choose_spec.2⟩]
        · rw[if_neg U,if_neg];rintro⟨rfl,q',eR,BS⟩;rcases t'.1 eR with eR|eR;· exact U ⟨rfl,q',eR,BS⟩
          · rw[n'.1 eR,iN]at BS;cases BS;exact ep rfl
      have hmu:M+1-(d++[q]).length<M+1-d.length:=by simp only[m',d',E'];omega
      have qi:a≠q:=λe1=>by rw[e1,r3]at mP;cases mP
      refine jj (λJS=>?_) (λJS=>?_)
      · refine Qo m1 ?_;refine nF ?_;refine Qo (a:=x) (by rw[EX qi];exact Ot mP) ?_;refine gV ?_;rw[b3];let B1:Nat->aq Int->dc×dc:=λr' fV=>if(r',fV)=(r,ρ)then(T,T0)else Bd d r' fV
        have WH:B1 r ρ=(T,T0):=if_pos rfl
        have zI:Inv S C T Ta B1 Zo none eu (dp σ q (.part {z with blocks:=some (bb,m.put f.id true)})):=kc.setBlocks hr IK r3 (λr' fV ep=>if_neg ep) (λ_ ez a' q1 q2=>by
          rw[jc,hk]at q1;cases q1;refine⟨bb,m.put f.id true,rfl,λi=>?_,λi v hv=>?_⟩
          · rw[MS.keys_put,m2,WH];refine Iff.trans ?_ (Ez _ _).symm;constructor
            · rintro(e|e);· exact .inr ⟨e,JS⟩
              · exact .inl e
            · rintro(e|e);· exact .inr e
              · exact .inl e.1
          · rw[MS.look_put]at hv;split at hv;· cases hv;rfl
            · exact m3 i v hv) (λez a' q1 q2 q3 i hi=>by
          have:=r4.free ez a' q1 q2 q3 i;rw[WJ]at this;rw[WH]at hi;exact this hi)
        have JT:∀n,jd eu n->n<=M:=λn hn=>C! (hn.mono TO λy l hy=>((jx y l).1 hy).1) (hc _ TO);refine KO hW hr hlen au hZ (R.steps.length-k) k au N au eu _ q ρ _ zI JT IK jc λfa s2 jT a0G BO=>?_;refine gQ _ ⟨rfl,rfl,Fa,F9,fa,jT.congrB2 λp r' fV hp=>?_,λk' ez e1 e2=>?_,λy l=>?_⟩ hmu
        · by_cases U:(r',fV)=(r,ρ)
          · cases U;exact .inr ⟨by rw[uE,WH],λy i hy=>((a0G y _).1 hy).2 ⟨[i],bh,rfl⟩⟩
          · left;rw[BI _ _ U];exact(if_neg U).symm
        · show s2 ez.st.adr=s ez.st.adr;rw[BO k' ez e1 e2,QI,DU k' ez e1 e2];intro e3;have h1:=kc.step r R k' ez hr e2 (hZ _ _ e2);unfold jg at h1;split at h1;· obtain⟨w,f1,_⟩:=h1;rw[e3,r3]at f1;cases f1
          · obtain⟨w,f1,_⟩:=h1;rw[e3,r3]at f1;cases f1
          · obtain⟨w,f1,_⟩:=h1;rw[e3,r3]at f1;cases f1
        · rw[a0G,jx];constructor
          · rintro⟨⟨e1,e2⟩,e3⟩;refine⟨e1,λ⟨q',eR,de,e,e4,e5,e6,e7,τ,e8,e9⟩=>?_⟩;rcases t'.1 eR with eR|eR;· exact e2 ⟨q',eR,de,e,e4,e5,e6,e7,τ,e8,e9⟩
            · rw[n'.1 eR,iN]at e4;cases e4;exact e3 ⟨τ,e8,e9⟩
          · rintro⟨e1,e2⟩;exact⟨⟨e1,λ⟨q',eR,U⟩=>e2 ⟨q',b! _ eR,U⟩⟩,λ⟨τ,e8,e9⟩=>e2 ⟨q,bh,ρ,_,iN,jc,qj,JS,τ,e8,e9⟩⟩
      · refine gQ _ ⟨rfl,rfl,Fa,F9,eu,kc.congrK λp r' fV R' z' ez a' hp ei hx he q1 q2 i=>?_,DU,λy l=>?_⟩ hmu
        · by_cases U:(r',fV)=(r,ρ)
          · cases U;rw[hr]at ei;cases ei;rw[qj]at he;have GW:=Option.some.inj he;rw[jc,hk]at q1;cases q1;rw[uE,WJ,<-GW]
            have key:kT S sc (z.has,z.vals) T i↔kT S sc (z.has,z.vals) T0 i:=by
              rw[Ez];constructor
              · rintro(e|e);· exact e
                · rw[e.2]at JS;cases JS
              · exact .inl
            exact⟨key,key.1⟩
          · rw[BI _ _ U];exact⟨Iff.rfl,λh=>h⟩
        · rw[jx];constructor
          · rintro⟨e1,e2⟩;refine⟨e1,λ⟨q',eR,de,e,e4,e5,e6,e7,e8⟩=>?_⟩;rcases t'.1 eR with eR|eR;· exact e2 ⟨q',eR,de,e,e4,e5,e6,e7,e8⟩
            · rw[n'.1 eR,iN]at e4;cases e4;rw[qj]at e6;cases e6;rw[e7]at JS;cases JS
          · rintro⟨e1,e2⟩;exact⟨e1,λ⟨q',eR,U⟩=>e2 ⟨q',b! _ eR,U⟩⟩
end
end
section
open Go Go.RowKit Classical
section
variable {S:fY} {I:fb->Prop} {C:gA} {T:dc} {Ta:Nat->dc} {B:Nat->aq Int->dc×dc} {Zo:Nat->Prop} {di:bf Nat} {loc:Loc} {s:Qe} {D:aq Int}
theorem Cg {N M r k a:Nat} {R:fH} {sc:fz} {f:Qg} {Q:Qe->Prop} (hW:pV C) (hT:jl T D) (hD:D.length<=3518437208882) (hr:C.rows[r]? =some R) (hk:R.steps[k]? =some sc) (cx:sc.st=.join a) (hlen:R.steps.length<9223372036854775807) (dh:∀sc∈R.steps,yY S I C T sc) (hI:∀π e,gE S T R.steps (R.hs,R.vs) π=some e->I e)
  (hN:B0+D.length+R.steps.length+2<N) (hMN:M+2<N) (hA:∀A∈C.als,A.args.length<N/\A.args.length<9223372036854775807/\(f.ty=A.kind->∀(j:Nat) (a:fK),A.args[j]? =some a->∃v,f.args[j]? =some v)) (hZ:∀(k:Nat) (sc:fz),R.steps[k]? =some sc->¬Zo sc.st.adr) (hf:T f.id=some f) (hB1:∀π:aq Int,k<π.length->B r π=(T,T))
  (h:Inv S C T (λ_=>T) B Zo none loc s) (hc:∀n,jd loc n->n<=M) (og:∀y ρ,ρ.length=k->loc y≠some (r,ρ++[f.id]))
  (hQ:∀bq s',Inv S C T (λ_=>T) B Zo none bq s'->lL loc bq->(∀y l,bq y=some l->loc y=none->∃q ρ τ,loc q=some (r,ρ)/\ρ.length=k/\l=(r,ρ++[f.id]++τ))->(rY bq->∀q ρ e U,loc q=some (r,ρ)->ρ.length=k->gE S T R.steps (R.hs,R.vs) ρ=some e->S.mt sc.c e.1 e.2 f=some U->jz S T bq r (ρ++[f.id]) (R.steps.drop (k+1)) U)->Q s'):Q7m N a f.id f.ty f.args s Q:=by
 have IH:=dh sc (p' hk);have h0:=h.step r R k sc hr hk (hZ k sc hk);unfold jg at h0;rw[cx]at h0;obtain⟨x,b1,b2,b3,b4,b5,b6⟩:=h0;have si:s a=some (.join x):=b1;have kZ:k<R.steps.length:=(b'.1 hk).1;obtain⟨L,hL1,WO⟩:=h.parts_list hr hc;obtain⟨A,rv,OE,WG⟩:=IH.al (λa' U=>by rw[cx]at U;cases U);obtain⟨hAn,hAl,hAf⟩:=hA A rv;refine Qo (UX si) ?_;refine gV ?_;refine LR (b2.trans OE.symm) (LS (h.al A rv) hAn hAl hAf ?_)
 refine jj (λhb=>?_) (λhb=>?_)
 ·refine hQ loc s h (lL.refl _) (λy l h1 h2=>by rw[h1]at h2;cases h2) λ_ q ρ e U _ _ _ e4=>?_;have:=WG f e U e4;rw[this]at hb;cases hb
 ·refine z7 (λ(d,σ)=>d.Nodup/\(∀q∈d,q∈x.parts.keys)/\∃bq,Inv S C T (λ_=>T) B Zo none bq σ/\lL loc bq/\(∀y l,bq y=some l->loc y=none->∃q ρ τ,q∈d/\loc q=some (r,ρ)/\ρ.length=k/\l=(r,ρ++[f.id]++τ))/\(rY bq->∀q∈d,∀ρ e U,loc q=some (r,ρ)->gE S T R.steps (R.hs,R.vs) ρ=some e->S.mt sc.c e.1 e.2 f=some U->jz S T bq r (ρ++[f.id]) (R.steps.drop (k+1)) U)) (λ(d,_)=>M+1-d.length) ?_ N ([],s) ⟨e!,(λq hq=>by cases hq),loc,h,lL.refl _,(λy l h1 h2=>by rw[h1]at h2;cases h2),λ_ q hq=>by cases hq⟩ (by show M+1-0<N;omega);rintro⟨d,σ⟩ ag ⟨rz,ry,eu,kc,AP,DV,F6⟩ gQ;refine T7 (λeZ=>?_) λq hq GZ=>?_
  ·refine hQ eu σ kc AP (λy l h1 h2=>?_) λhX q ρ e U hq TW=>F6 hX q (eZ q ((b6 q).2 ⟨⟨ρ,hq,TW⟩,bh⟩)) ρ e U hq;obtain⟨q,ρ,τ,_,e2⟩:=DV y l h1 h2;exact⟨q,ρ,τ,e2⟩
  ·obtain ⟨⟨ρ,iN,jc⟩,_⟩:=(b6 q).1 hq;have IK:=AP _ _ iN;obtain⟨v,hv⟩:=Q7R hq;refine Qo hv ?_;obtain⟨R',z,r1,r2,r3,r4⟩:=kc.gPart IK;rw[hr]at r1;cases r1;have qj:=r4.env
   have Rh:d.length<M+1:=by
    have:=Kf (l:=L) (W'.2 ⟨GZ,rz⟩) λw hw=>by
      have:w∈x.parts.keys:=by
        rcases v'.1 hw with rfl|hw;· exact hq
        · exact ry w hw
      obtain⟨⟨π,e1,_⟩,_⟩:=(b6 w).1 this;exact WO w π e1
    simp only[d']at this;omega
   have Fa:(d++[q]).Nodup:=M'.2 ⟨rz,bh,λy hy w hw e1=>GZ (by simp at hw;rw[<-hw,<-e1];exact hy)⟩
   have F9:∀w∈d++[q],w∈x.parts.keys:=λw hw=>by
    rcases t'.1 hw with hw|hw;· exact ry w hw
    · rw[n'.1 hw];exact hq
   refine gV ?_;refine U2 hW hlen au hr hk cx IH (RY (S:=S) (I:=I) (B:=B) hW hlen hT hD hr dh (R.steps.length-(k+1)) (k+1) au (λfV a1i=>hB1 fV au) N au) kc IK jc qj (hI _ _ qj) hf (λy hy=>?_) (λk' ez _ hs=>hZ k' ez hs) λfa s2 jT jh oe wi=>?_
   ·cases hl:loc y with
    |some l=>have:=AP _ _ hl;rw[hy]at this;cases this;exact og y ρ jc hl
    | none=>
      obtain⟨q',de,τ,e0,e1,e2,e3⟩:=DV y _ hy hl;simp only[Prod.mk.injEq,true_and]at e3
      have h5:ρ=de:=by
        have:=congrArg (List.take k) e3;rw[N' au,p!,N' au,S' au,S' au]at this;exact this
      rw[<-h5]at e1;exact GZ (by rw[h.inj _ _ _ iN e1];exact e0)
   ·refine gQ (d++[q],s2) ⟨Fa,F9,fa,jT,AP.trans jh,λy l h1 h2=>?_,λhX q' eR de e U e1 e2 e3=>?_⟩ (by show M+1-(d++[q]).length<M+1-d.length;simp only[m',d',E'];omega)
    · cases hy:eu y with
      | some l'=>
        have:=jh _ _ hy;rw[h1]at this;cases this;obtain⟨q',de,τ,e0,e1⟩:=DV y l hy h2;exact⟨q',de,τ,b! _ e0,e1⟩
      | none=>
        obtain⟨τ,e1⟩:=oe y l h1 hy;exact⟨q,ρ,τ,bh,iN,jc,e1⟩
    · rcases t'.1 eR with eR|eR;· exact(F6 (Q8N kc.cnt jh hX jT.cnt) q' eR de e U e1 e2 e3).mono jh
      · rw[n'.1 eR,iN]at e1;cases e1;rw[qj]at e2;cases e2;exact wi hX U e3
end
end
section
open Go Go.RowKit Classical
section
variable {S:fY} {I:fb->Prop} {C:gA} {T:dc} {Ta:Nat->dc} {B:Nat->aq Int->dc×dc} {Zo:Nat->Prop} {di:bf Nat} {loc:Loc} {s:Qe} {D:aq Int}
theorem Inv.congrTa {Tb:Nat->dc} (h:Inv S C T Ta B Zo di loc s)(hg:Tb C.g=Ta C.g)(ha:∀A∈C.als,Tb A.b=Ta A.b):Inv S C T Tb B Zo di loc s:=by
 refine⟨?_,h.row,h.step,λA U=>by rw[ha A U];exact h.al A U,h.part,h.inj,h.root,h.le⟩;obtain⟨x,a1,a2,a3,a4,a5,a6,a7,a8,n,a9,iU⟩:=h.net;exact⟨x,a1,a2,a3,a4,a5,a6,a7,by rw[hg];exact a8,n,a9,iU⟩
theorem Inv.setNet {Tb:dc} {x:gP} {fm:MS Int Qg} (h:Inv S C T Ta B Zo di loc s)(hx:s C.g=some (.net x))(hn:fm.keys.Nodup)(hl:∀i,fm.look i=Tb i):Inv S C T (λb=>if b=C.g then Tb else Ta b) B Zo di loc (dp s C.g (.net {x with facts:=fm})):=by
 have ne:∀b o',s b=some o'->(∀z,o'≠.net z)->dp s C.g (.net {x with facts:=fm}) b=some o':=λb o' hb c1=>by
  rw[QI (λe=>by rw[e,hx]at hb;cases hb;exact c1 _ rfl)];exact hb
 refine⟨?_,?_,?_,?_,?_,h.inj,h.root,h.le⟩
 ·obtain⟨y,U,a2,a3,a4,a5,a6,a7,a8,n,a9,iU⟩:=h.net;rw[hx]at U;cases U;exact⟨_,jH _ _ _,a2,a3,a4,a5,a6,a7,⟨hn,λi=>by rw[hl];show Tb i=(if C.g=C.g then Tb else Ta C.g) i;rw[if_pos rfl]⟩,n,a9,iU⟩
 ·intro r' R' ei;obtain⟨y,U,a2⟩:=h.row r' R' ei;exact⟨y,ne _ _ U cr,a2⟩
 ·intro r' R' k' ez ei eO zK;have h1:=h.step r' R' k' ez ei eO zK;unfold jg at h1⊢;split at h1;· obtain⟨y,c1,c2⟩:=h1;exact⟨y,ne _ _ c1 cr,c2⟩
  · obtain⟨y,c1,c2⟩:=h1;exact⟨y,ne _ _ c1 cr,c2⟩
  · obtain⟨y,c1,c2⟩:=h1;exact⟨y,ne _ _ c1 cr,c2⟩
 ·intro A hA;obtain⟨y,U,a2⟩:=h.al A hA;refine⟨y,ne _ _ U cr,?_⟩;rw[if_neg (λe=>by rw[e,hx]at U;cases U)];exact a2
 ·intro q r' ρ hl;obtain⟨R',y,U,a2,a3⟩:=h.part q r' ρ hl;exact⟨R',y,U,ne _ _ a2 cr,a3⟩
theorem Inv.setAlpha {Tb:dc} {A:K3} {x:Ox} {fm:MS Int Qg} (h:Inv S C T Ta B Zo di loc s)(hA:A∈C.als)(hx:s A.b=some (.alpha x))(hn:fm.keys.Nodup)(hl:∀i,fm.look i=(Tb i).filter (hasB A)):Inv S C T (λb=>if b=A.b then Tb else Ta b) B Zo di loc (dp s A.b (.alpha {x with facts:=fm})):=by
 have ne:∀b o',s b=some o'->(∀z,o'≠.alpha z)->dp s A.b (.alpha {x with facts:=fm}) b=some o':=λb o' hb c1=>by
  rw[QI (λe=>by rw[e,hx]at hb;cases hb;exact c1 _ rfl)];exact hb
 refine⟨?_,?_,?_,?_,?_,h.inj,h.root,h.le⟩
 ·obtain⟨y,U,a2,a3,a4,a5,a6,a7,a8,n,a9,iU⟩:=h.net;refine⟨y,ne _ _ U cr,a2,a3,a4,a5,a6,a7,?_,n,a9,iU⟩;show _/\∀i,y.facts.look i=(if C.g=A.b then Tb else Ta C.g) i;rw[if_neg (λe=>by rw[e,hx]at U;cases U)];exact a8
 ·intro r' R' ei;obtain⟨y,U,a2⟩:=h.row r' R' ei;exact⟨y,ne _ _ U cr,a2⟩
 ·intro r' R' k' ez ei eO zK;have h1:=h.step r' R' k' ez ei eO zK;unfold jg at h1⊢;split at h1;· obtain⟨y,c1,c2⟩:=h1;exact⟨y,ne _ _ c1 cr,c2⟩
  · obtain⟨y,c1,c2⟩:=h1;exact⟨y,ne _ _ c1 cr,c2⟩
  · obtain⟨y,c1,c2⟩:=h1;exact⟨y,ne _ _ c1 cr,c2⟩
 ·intro A' wK;obtain⟨y,U,a2,a3,a4,a5⟩:=h.al A' wK;obtain⟨x',b1,b2,b3,_⟩:=h.al A hA;rw[hx]at b1;cases b1;by_cases e:A'.b=A.b
  ·rw [e,hx]at U;cases U;refine⟨{x with facts:=fm},(by rw[e,jH]),a2,a3,hn,λi=>?_⟩;rw[if_pos e,hl]
   have:hasB A'=hasB A:=by
    funext f;unfold hasB;rw[<-a2,<-a3,<-b2,<-b3]
   rw[this]
  ·refine⟨y,(by rw[QI e];exact U),a2,a3,a4,?_⟩;rw[if_neg e];exact a5
 ·intro q r' ρ hl;obtain⟨R',y,U,a2,a3⟩:=h.part q r' ρ hl;exact⟨R',y,U,ne _ _ a2 cr,a3⟩
end
end
section
open Go Go.RowKit Classical
section
variable {S:fY} {I:fb->Prop} {C:gA} {T T':dc} {Ta:Nat->dc} {B:Nat->aq Int->dc×dc} {Zo:Nat->Prop} {di:bf Nat} {loc:Loc} {s:Qe} {D:aq Int}
variable {sc:fz}{e e':fb}{i:Int}
def zk (T T':dc):Prop:=∀i f,T i=some f->T' i=some f
theorem MH (hs:zk T T')(h:hY S T sc e i=some e'):hY S T' sc e i=some e':=by
 unfold hY at h⊢;split at h
 ·cases hT:T i with
  |none=>rw[hT]at h;cases h
  |some f=>rw[hT]at h;rw[hs i f hT];exact h
 · exact h
 · exact h
theorem uk (hs:zk T T'):∀{π:aq Int} {l:aq fz} {e e':fb},gE S T l e π=some e'->gE S T' l e π=some e'
 |[],l,e,e',h=>by cases l<;>exact h
 |i::π,[],e,e',h=>by cases h
 | i ::π,sc::l,e,e',h=>by
   simp only[gE]at h⊢;cases h1:hY S T sc e i with
   |none=>rw[h1]at h;cases h
   | some U=>
     rw[h1]at h;rw[MH hs h1];exact uk hs h
theorem Bw {id:Int} (hd:∀i,i≠id->T' i=T i):∀{π:aq Int} {l:aq fz} {e:fb},id∉π->gE S T' l e π=gE S T l e π
 |[],l,e,_=>by cases l<;>rfl
 |i::π,[],e,_=>rfl
 | i::π,sc::l,e,h=>by
   have hi:i≠id:=λU=>h (by rw[U];simp);have ke:id∉π:=λU=>h (g' _ U)
   have h1:hY S T' sc e i=hY S T sc e i:=by
    unfold hY;split;· rw[hd i hi]
    · rfl
    · rfl
   simp only[gE,h1];cases hY S T sc e i with
   |none=>rfl
   |some U=>exact Bw hd ke
theorem Inv.congrT (h:Inv S C T Ta B Zo di loc s)(hT:∀p r π R e,loc p=some (r,π)->C.rows[r]? =some R->gE S T R.steps (R.hs,R.vs) π=some e->gE S T' R.steps (R.hs,R.vs) π=some e):Inv S C T' Ta B Zo di loc s:=by
 refine⟨h.net,h.row,h.step,h.al,λp r π hp=>?_,h.inj,h.root,h.le⟩;obtain⟨R,x,U,a2,a3⟩:=h.part p r π hp;exact⟨R,x,U,a2,⟨hT p r π R _ hp U a3.env,a3.top,a3.up,a3.kids,a3.blocks,a3.free,a3.kn⟩⟩
theorem XL (dh:yY S I C T sc)(hD:jl T D)(hI:I e)(h:hY S T sc e i=some e'):I e':=by
 unfold hY at h;cases cx:sc.st with
 | join a=>
   rw[cx]at h;cases hT:T i with
   |none=>rw[hT]at h;cases h
   | some f=>
     rw[hT]at h;obtain⟨_,_,_,h2⟩:=dh.mt (λa' U=>by rw[cx]at U;cases U) B0 (q! _) f (by rw[(hD.mem i f hT).2.1];exact hT) e hI;exact(h2 e' h).2
 | nt a=>
   rw[cx]at h;simp only at h;split at h;· cases h;exact hI
   · cases h
 | test a=>
   rw[cx]at h;simp only at h;split at h;· cases h;exact hI
   · cases h
theorem KX (hD:jl T D):∀{π:aq Int} {l:aq fz} {e e':fb},(∀sc∈l,yY S I C T sc)->I e->gE S T l e π=some e'->I e'
 | [],l,e,e',_,hI,h=>by
   have:e=e':=by cases l<;>exact Option.some.inj h
   rw[<-this];exact hI
 |i::π,[],e,e',_,_,h=>by cases h
 | i ::π,sc::l,e,e',U,hI,h=>by
   simp only[gE]at h;cases h1:hY S T sc e i with
   |none=>rw[h1]at h;cases h
   | some e1=>
     rw[h1]at h;exact KX hD (λez h'=>U ez (g' _ h')) (XL (U sc bh) hD hI h1) h
def yR (S:fY)(C:gA)(T:dc)(loc:Loc):Prop:=∀(r:Nat)(R:fH),C.rows[r]? =some R->jz S T loc r [] R.steps (R.hs,R.vs)
theorem Ou:∀{π:aq Int} {l:aq fz} {e e':fb},gL S T l e π=some e'->gE S T l e π=some e'
 |[],l,e,e',h=>by cases l<;>exact h
 |i::π,[],e,e',h=>by cases h
 | i :: π,sc::l,e,e',h=>by
   simp only[gL]at h;simp only[gE];cases h1:jP S T sc e i with
   |none=>rw[h1]at h;cases h
   | some U=>
     rw[h1]at h
     have:hY S T sc e i=some U:=by
      unfold jP at h1;unfold hY;cases cx:sc.st with
      |join a=>rw[cx]at h1;exact h1
      | nt a=>
        rw[cx]at h1;simp only at h1⊢;split at h1;· rename_i hh;rw[if_pos hh.1];exact h1
        · cases h1
      |test a=>rw[cx]at h1;exact h1
     rw[this];exact Ou h
theorem T5:∀{π U:aq Int} {l:aq fz} {e:fb},gL S T l e (π++U)=(gL S T l e π).bind λe'=>gL S T (l.drop π.length) e' U
 |[],U,l,e=>by cases l<;>simp[gL]
 |i::π,U,[],e=>by simp[gL]
 | i::π,U,sc::l,e=>by
   simp only[E!,gL,d',List.drop_succ_cons];cases jP S T sc e i with
   |none=>rfl
   |some e1=>simp only[j'];exact T5
end
end
section
open Go Go.RowKit Classical
section
variable {S:fY} {I:fb->Prop} {C:gA} {T T':dc} {Ta:Nat->dc} {B:Nat->aq Int->dc×dc} {di:bf Nat} {loc:Loc} {s:Qe} {D:aq Int}
theorem q8:∀{π:aq Int} {l:aq fz} {e U:fb} {k:Nat} {sc:fz} {j:Int},gE S T l e π=some U->l[k]? =some sc->(∀a,sc.st≠.join a)->π[k]? =some j->j=0
 |[],l,e,U,k,sc,j,_,_,_,h=>by simp at h
 |i::π,[],e,U,k,sc,j,h,_,_,_=>by cases h
 | i ::π,ez::l,e,U,0,sc,j,h,hk,hn,hj=>by
   simp only[t!,Option.some.injEq]at hk hj;subst hk;subst hj;simp only[gE]at h;cases h1:hY S T ez e i with
   |none=>rw[h1]at h;cases h
   | some e1=>
     unfold hY at h1;cases cx:ez.st with
     |join a=>exact absurd cx (hn a)
     | nt a=>
       rw[cx]at h1;simp only at h1;split at h1;· assumption
       · cases h1
     | test a=>
       rw[cx]at h1;simp only at h1;split at h1;· rename_i hh;exact hh.1
       · cases h1
 | i::π,ez::l,e,U,k+1,sc,j,h,hk,hn,hj=>by
   simp only[gE]at h;cases h1:hY S T ez e i with
   |none=>rw[h1]at h;cases h
   |some e1=>rw[h1]at h;exact q8 h hk hn hj
theorem R5 {N M:Nat} {id:Int} {Q:Qe->Prop} (hW:pV C)(hlen:C.rows.length<=9223372036854775806)(hsl:∀R∈C.rows,R.steps.length<9223372036854775807/\M+R.steps.length+R.steps.length+2<N)(hM:M<4398046511103)(hid:id≠0)
  (h:Inv S C T Ta B (λ_=>False) none loc s) (hc:∀n,jd loc n->n<=M) (hQ:∀bq s',Inv S C T Ta B (λ_=>False) none bq s'->(∀y l,bq y=some l↔loc y=some l/\id∉l.2)->Q s'):Gr (λst σ=>Z3 N st id σ) C.g s Q:=by
 obtain⟨n0,TO⟩:=h.cnt
 have fl:∀y r π,loc y=some (r,π)->∃R,C.rows[r]? =some R/\π.length<=R.steps.length:=λy r π hy=>by
  obtain⟨R,x,a1,_,a3⟩:=h.part y r π hy;exact⟨R,a1,nY a3.env⟩
 refine zA (E:=λr σ=>∃bq,Inv S C T Ta B (λ_=>False) none bq σ/\∀y l,bq y=some l↔loc y=some l/\¬(l.1<r/\id∈l.2)) (J:=λr m σ=>∃bq,Inv S C T Ta B (λ_=>False) none bq σ/\∀y l,bq y=some l↔loc y=some l/\¬((l.1<r/\id∈l.2)\/(l.1=r/\∃k,m<=k/\l.2[k]? =some id))) hlen (λR hR=>by have:=(hsl R hR).1;omega) (λr σ ⟨_,h1,_⟩=>h1.shape) (λr m σ ⟨_,h1,_⟩=>h1.shape) (λr R σ hr ⟨eu,h1,h2⟩=>⟨eu,h1,λy l=>?_⟩) (λr R m sc σ Q' hr ⟨eu,h1,h2⟩ fj LO=>?_) (λr σ ⟨eu,h1,h2⟩=>⟨eu,h1,λy l=>?_⟩) ⟨loc,h,λy l=>⟨λhy=>⟨hy,λhh=>absurd hh.1 (F' _)⟩,λhy=>hy.1⟩⟩ (λσ ⟨eu,h1,h2⟩=>hQ eu σ h1 λy l=>?_)
 ·rw[h2];constructor
  · rintro⟨e1,e2⟩;refine⟨e1,λU=>?_⟩;rcases U with U|⟨U,k,e4,e5⟩
    · exact e2 U
    ·obtain⟨R',q1,q2⟩:=fl y l.1 l.2 e1;rw[U,hr]at q1;cases q1;have:=(b'.1 e5).1;omega
  · rintro⟨e1,e2⟩;exact⟨e1,λU=>e2 (.inl U)⟩
 ·have qh:=p' hr;obtain⟨Fk,Fl⟩:=hsl R qh
  have vd:(∀a,sc.st≠.join a)->Q' σ:=λhn=>LO σ ⟨eu,h1,λy l=>by
    rw[h2];constructor
    ·rintro⟨e1,e2⟩;refine⟨e1,λU=>?_⟩;rcases U with U|⟨U,k,e4,e5⟩
     · exact e2 (.inl U)
     ·by_cases hk:k=m
      ·subst hk;obtain⟨R',x,a1,_,a3⟩:=h.part y l.1 l.2 e1;rw[U,hr]at a1;cases a1;exact hid (q8 a3.env fj hn e5)
      · exact e2 (.inr ⟨U,k,au,e5⟩)
    ·rintro⟨e1,e2⟩;refine⟨e1,λU=>e2 ?_⟩;rcases U with U|⟨U,k,e4,e5⟩
     · exact .inl U
     · exact .inr ⟨U,k,au,e5⟩⟩
  cases cx:sc.st with
  | join a=>
    refine lk (gV ?_);refine Ch hW hr fj cx Fk hM Fl (λ_ _ _ hz=>hz) h1 (λn hn=>C! (hn.mono TO λy l hy=>((h2 y l).1 hy).1) (hc _ TO)) λfa s2 jT zG=>?_;refine LO s2 ⟨fa,jT,λy l=>?_⟩;rw[zG,h2];constructor
    ·rintro⟨⟨e1,e2⟩,U⟩;refine⟨e1,λe4=>?_⟩;rcases e4 with e4|⟨e4,k,e5,e6⟩
     · exact e2 (.inl e4)
     ·by_cases hk:k=m;· subst hk;exact U ⟨e4,e6⟩
      · exact e2 (.inr ⟨e4,k,au,e6⟩)
    ·rintro⟨e1,e2⟩;refine⟨⟨e1,λU=>e2 ?_⟩,λU=>e2 (.inr ⟨U.1,m,q! _,U.2⟩)⟩;rcases U with U|⟨U,k,e4,e5⟩
     · exact .inl U
     · exact .inr ⟨U,k,au,e5⟩
  |nt a=>exact ll (vd λa' e=>by rw[cx]at e;cases e)
  |test a=>exact ln (vd λa' e=>by rw[cx]at e;cases e)
 ·rw [h2]
  have key:(l.1<r+1/\id∈l.2)↔((l.1<r/\id∈l.2)\/(l.1=r/\∃k,0<=k/\l.2[k]? =some id)):=by
    constructor
    ·rintro⟨e1,e2⟩;by_cases hh:l.1<r;· exact .inl ⟨hh,e2⟩
     ·obtain⟨k,hk⟩:=v!.1 e2;exact .inr ⟨au,k,r! _,hk⟩
    ·rintro(⟨e1,e2⟩|⟨e1,k,_,e2⟩);· exact⟨au,e2⟩
     · exact⟨au,p' e2⟩
  rw[key]
 ·rw[h2];constructor
  · rintro⟨e1,e2⟩;refine⟨e1,λU=>e2 ⟨?_,U⟩⟩;obtain⟨R,q1,_⟩:=fl y l.1 l.2 e1;exact(b'.1 q1).1
  · rintro⟨e1,e2⟩;exact⟨e1,λU=>e2 U.2⟩
end
end
section
open Go Go.RowKit Classical
section
variable {S:fY} {I:fb->Prop} {C:gA} {T T0:dc} {Ta:Nat->dc} {B:Nat->aq Int->dc×dc} {di:bf Nat} {loc:Loc} {s:Qe} {D:aq Int}
def K5 (S:fY)(T T0:dc)(id:Int)(R:fH)(π:aq Int)(k:Nat):Prop:=k<π.length/\∃sc a e,R.steps[k]? =some sc/\sc.st=.nt a/\gE S T R.steps (R.hs,R.vs) (π.take k)=some e/\kT S sc e T0 id
noncomputable def bE (T T0:dc)(r:Nat):Nat->aq Int->dc×dc:=λU _=>if U<r then(T,T)else(T0,T0)
noncomputable def bJ (T T0:dc)(r m:Nat):Nat->aq Int->dc×dc:=λU π=>if U<r\/(U=r/\m<=π.length)then(T,T)else(T0,T0)
theorem R6 {N:Nat} {id:Int} {Q:Qe->Prop} (hW:pV C) (hT:jl T D) (hD:D.length<=3518437208882) (hlen:C.rows.length<=9223372036854775806) (hsl:∀R∈C.rows,R.steps.length<9223372036854775807/\B0+D.length+R.steps.length+2<N) (hMN:4099<N) (dh:∀R∈C.rows,∀sc∈R.steps,yY S I C T sc) (hI:∀R∈C.rows,∀π e,gE S T R.steps (R.hs,R.vs) π=some e->I e)
  (hid:T id=none) (Rb:∀i,i≠id->T0 i=T i)
  (h:Inv S C T (λ_=>T) (λ_ _=>(T0,T0)) (λ_=>False) none loc s) (hP:∀(r:Nat) (R:fH) (π:aq Int),C.rows[r]? =some R->gL S T R.steps (R.hs,R.vs) π≠none->(∀k,¬K5 S T T0 id R π k)->∃y,loc y=some (r,π))
  (hQ:∀bq s',Inv S C T (λ_=>T) (λ_ _=>(T,T)) (λ_=>False) none bq s'->lL loc bq->(rY bq->yR S C T bq)->Q s'):Gr (λst σ=>YX N st id σ) C.g s Q:=by
 have cj:∀(B:Nat->aq Int->dc×dc) (bq:Loc) (σ:Qe),Inv S C T (λ_=>T) B (λ_=>False) none bq σ->∀y r π,bq y=some (r,π)->r<C.rows.length:=λB bq σ h' y r π hy=>by
  obtain⟨R,x,a1,_⟩:=h'.part y r π hy;exact(b'.1 a1).1
 refine zA (E:=λr σ=>∃bq,Inv S C T (λ_=>T) (bE T T0 r) (λ_=>False) none bq σ/\lL loc bq/\(rY bq->∀(U:Nat) (R:fH),U<r->C.rows[U]? =some R->jz S T bq U [] R.steps (R.hs,R.vs)))
  (J:=λr m σ=>∃bq,Inv S C T (λ_=>T) (bJ T T0 r m) (λ_=>False) none bq σ/\lL loc bq/\(rY bq->(∀(U:Nat) (R:fH),U<r->C.rows[U]? =some R->jz S T bq U [] R.steps (R.hs,R.vs))/\∀(R:fH) (π:aq Int),C.rows[r]? =some R->gL S T R.steps (R.hs,R.vs) π≠none->(∀k,k<m->¬K5 S T T0 id R π k)->∃y,bq y=some (r,π)))
  hlen (λR hR=>by have:=(hsl R hR).1;omega) (λr σ ⟨_,h1,_⟩=>h1.shape) (λr m σ ⟨_,h1,_⟩=>h1.shape) (λr R σ hr ⟨eu,h1,h2,h3⟩=>⟨eu,?_,h2,λhX=>⟨h3 hX,λR' π ei hi hb=>?_⟩⟩) (λr R m sc σ Q' hr ⟨eu,h1,h2,h3⟩ fj LO=>?_) (λr σ ⟨eu,h1,h2,h3⟩=>⟨eu,h1.congrB (λp U π hp=>?_),h2,λhX U R ei hR=>?_⟩) ⟨loc,h.congrB (λp U π _=>if_neg (F' _)),lL.refl _,λ_ U R ei=>absurd ei (F' _)⟩ (λσ ⟨eu,h1,h2,h3⟩=>hQ eu σ (h1.congrB λp U π hp=>(if_pos (cj _ _ _ h1 p U π hp)).symm) h2 λhX U R hR=>h3 hX U R (b'.1 hR).1 hR)
 ·
  refine h1.congrK λp U π R' x sc a hp ei hx he q1 q2 i=>?_;unfold bJ bE;by_cases hh:U<r;· rw[if_pos (.inl hh),if_pos hh];exact⟨Iff.rfl,λh=>h⟩
  ·rw[if_neg hh,if_neg];· exact⟨Iff.rfl,λh=>h⟩
   · rintro(e|⟨e1,e2⟩);· exact hh e
     ·rw[e1,hr]at ei;cases ei;have:=(b'.1 q1).1;omega
 ·rw [hr]at ei;cases ei
  obtain ⟨y,hy⟩:=hP r R π hr hi λk hk=>by
   obtain⟨e1,sc,a,e,e2,_⟩:=hk;exact hb k (b'.1 e2).1 ⟨e1,sc,a,e,e2,by assumption⟩
  exact⟨y,h2 _ _ hy⟩
 ·
  have qh:=p' hr;obtain⟨Fk,Fl⟩:=hsl R qh;have Cr:(∀a,sc.st≠.nt a)->Q' σ:=λhn=>LO σ ⟨eu,h1.congrK λp U π R' x ez a hp ei hx he q1 q2 i=>?_,h2,λhX=>⟨(h3 hX).1,λR' π ei hi hb=>(h3 hX).2 R' π ei hi λk hk OH=>?_⟩⟩
  ·cases cx:sc.st with
   |join a=>exact lk (gV (Cr λa' e=>by rw[cx]at e;cases e))
   |test a=>exact ln (gV (Cr λa' e=>by rw[cx]at e;cases e))
   | nt a =>
     refine ll (gV ?_);refine FB (I:=I) (M:=4097) hW hT hD hr fj cx Fk (dh R qh) (hI R qh) Fl au (λ_ _ _ hz=>hz) hid Rb (λπ ke=>?_) (λπ ke=>?_) h1 h1.le λfa s2 jT jh oe wi=>?_
     ·unfold bJ;rw[if_neg];rintro(e|⟨_,e⟩);· exact z! _ e
      · omega
     ·unfold bJ;exact if_pos (.inr ⟨rfl,au⟩)
     ·refine LO s2 ⟨fa,jT.congrB (λp U π hp=>?_),h2.trans jh,λhX=>?_⟩
      ·unfold oO bJ;by_cases hh:U=r/\π.length=m;· rw[if_pos hh,if_pos (.inr ⟨hh.1,au⟩)]
       ·rw [if_neg hh];by_cases h5:U<r\/(U=r/\m+1<=π.length)
        · rw[if_pos h5,if_pos];rcases h5 with e|⟨e1,e2⟩
          · exact .inl e
          · exact .inr ⟨e1,au⟩
        · rw[if_neg h5,if_neg];rintro(e|⟨e1,e2⟩);· exact h5 (.inl e)
          ·by_cases h6:π.length=m;· exact hh ⟨e1,h6⟩
           · exact h5 (.inr ⟨e1,au⟩)
      ·have Xc:=Q8N h1.cnt jh hX jT.cnt;obtain⟨h4,h5⟩:=h3 Xc;refine⟨λU R' ei Ra=>(h4 U R' ei Ra).mono jh,λR' π ei hi hb=>?_⟩;rw[hr]at ei;cases ei;by_cases JS:K5 S T T0 id R π m
       ·obtain⟨e1,ez,a',e,e2,e3,e4,e5⟩:=JS;rw[fj]at e2;cases e2;have uN:π=π.take m++π.drop m:=(u' m π).symm;have M8:(π.take m).length=m:=by simp;omega
        have iV:gL S T R.steps (R.hs,R.vs) (π.take m++π.drop m)≠none:=by rw[<-uN];exact hi
        rw[T5]at iV;cases gh:gL S T R.steps (R.hs,R.vs) (π.take m)with
        |none=>rw[gh]at iV;exact absurd rfl iV
        | some e'=>
          rw[gh,j',M8]at iV;have hee:e'=e:=by have:=Ou gh;rw[e4]at this;exact(Option.some.inj this).symm
          subst hee
          obtain ⟨q,hq⟩:=h5 R (π.take m) hr (by rw[gh];simp) λk hk OH=>by
           obtain⟨f1,sc2,a2,ee,f2,f3,f4,f5⟩:=OH;have hkm:k<m:=by rw[M8]at f1;exact f1
           refine hb k hkm ⟨au,sc2,a2,ee,f2,f3,?_,f5⟩;rw[List.take_take,Nat.min_eq_left au]at f4;exact f4
          obtain⟨y,hy⟩:=wi hX q (π.take m) e' hq M8 e4 e5 (π.drop m) iV;exact⟨y,by rw[hy,<-uN]⟩
       ·obtain⟨y,hy⟩:=h5 R π hr hi λk hk=>by
          by_cases h6:k=m;· rw[h6];exact JS
          · exact hb k au
        exact⟨y,jh _ _ hy⟩
  ·unfold bJ;by_cases h5:U<r\/(U=r/\m+1<=π.length)
   · rw[if_pos h5,if_pos];· exact⟨Iff.rfl,λh=>h⟩
     ·rcases h5 with e|⟨e1,e2⟩
      · exact .inl e
      · exact .inr ⟨e1,au⟩
   · by_cases h6:U=r/\π.length=m
     ·obtain⟨rfl,h6⟩:=h6;rw[hr]at ei;cases ei;rw[h6,fj]at q1;cases q1;exact absurd q2 (hn a)
     ·rw [if_neg h5,if_neg];· exact⟨Iff.rfl,λh=>h⟩
      ·rintro(e|⟨e1,e2⟩);· exact h5 (.inl e)
       ·by_cases h7:π.length=m;· exact h6 ⟨e1,h7⟩
        · exact h5 (.inr ⟨e1,au⟩)
  ·rw[hr]at ei;cases ei;by_cases h6:k=m
   · subst h6;obtain⟨_,sc2,a2,_,f2,f3,_⟩:=OH;rw[fj]at f2;cases f2;exact hn a2 f3
   · exact hb k au OH
 ·unfold bJ bE;by_cases hh:U<r+1
  ·rw[if_pos hh,if_pos];by_cases h5:U<r;· exact .inl h5
   · exact .inr ⟨au,r! _⟩
  ·rw[if_neg hh,if_neg];rintro(e|⟨e,_⟩)<;>omega
 ·obtain ⟨h4,h5⟩:=h3 hX;by_cases hh:U<r;· exact h4 U R hh hR
  ·have:U=r:=au
   subst this;intro τ iD;obtain⟨y,hy⟩:=h5 R τ hR iD λk hk=>absurd hk (F' _)
   exact⟨y,by simpa using hy⟩
end
end
section
open Go Go.RowKit Classical
section
variable {S:fY} {I:fb->Prop} {C:gA} {T T0:dc} {Ta:Nat->dc} {B:Nat->aq Int->dc×dc} {di:bf Nat} {loc:Loc} {s:Qe} {D:aq Int}
def HU (S:fY)(T:dc)(f:Qg)(R:fH)(π:aq Int)(k:Nat):Prop:=k<π.length/\∃sc a e,R.steps[k]? =some sc/\sc.st=.nt a/\gE S T R.steps (R.hs,R.vs) (π.take k)=some e/\(S.mt sc.c e.1 e.2 f).isSome=true
theorem PJ {N:Nat} {f:Qg} {Q:Qe->Prop} (hW:pV C) (hlen:C.rows.length<=9223372036854775806) (hsl:∀R∈C.rows,R.steps.length<9223372036854775807/\4097+R.steps.length+R.steps.length+2<N) (hN0:B0<=N) (dh:∀R∈C.rows,∀sc∈R.steps,yY S I C T sc) (hI:∀R∈C.rows,∀π e,gE S T R.steps (R.hs,R.vs) π=some e->I e)
  (hA:∀A∈C.als,A.args.length<N/\A.args.length<9223372036854775807/\(f.ty=A.kind->∀(j:Nat) (a:fK),A.args[j]? =some a->∃v,f.args[j]? =some v)) (hf:T f.id=some f) (OI:T0 f.id=none) (Rb:∀i,i≠f.id->T0 i=T i)
  (h:Inv S C T Ta (λ_ _=>(T0,T0)) (λ_=>False) none loc s)
  (hQ:∀bq s',Inv S C T Ta (λ_ _=>(T,T)) (λ_=>False) none bq s'->(∀y r π,bq y=some (r,π)↔loc y=some (r,π)/\¬∃R k,C.rows[r]? =some R/\HU S T f R π k)->Q s'):Gr (λst σ=>Z1 N st f.id f.ty f.args σ) C.g s Q:=by
 have cj:∀(B:Nat->aq Int->dc×dc) (bq:Loc) (σ:Qe),Inv S C T Ta B (λ_=>False) none bq σ->∀y r π,bq y=some (r,π)->r<C.rows.length:=λB bq σ h' y r π hy=>by
  obtain⟨R,x,a1,_⟩:=h'.part y r π hy;exact(b'.1 a1).1
 refine zA (E:=λr σ=>∃bq,Inv S C T Ta (bE T T0 r) (λ_=>False) none bq σ/\∀y U π,bq y=some (U,π)↔loc y=some (U,π)/\¬(U<r/\∃R k,C.rows[U]? =some R/\HU S T f R π k))
  (J:=λr m σ=>∃bq,Inv S C T Ta (bJ T T0 r m) (λ_=>False) none bq σ/\∀y U π,bq y=some (U,π)↔loc y=some (U,π)/\¬∃R k,C.rows[U]? =some R/\HU S T f R π k/\(U<r\/(U=r/\m<=k)))
  hlen (λR hR=>by have:=(hsl R hR).1;omega) (λr σ ⟨_,h1,_⟩=>h1.shape) (λr m σ ⟨_,h1,_⟩=>h1.shape) (λr R σ hr ⟨eu,h1,h2⟩=>⟨eu,?_,λy U π=>?_⟩) (λr R m sc σ Q' hr ⟨eu,h1,h2⟩ fj LO=>?_) (λr σ ⟨eu,h1,h2⟩=>⟨eu,h1.congrB (λp U π hp=>?_),λy U π=>?_⟩) ⟨loc,h.congrB (λp U π _=>if_neg (F' _)),λy U π=>⟨λhy=>⟨hy,λhh=>absurd hh.1 (F' _)⟩,λhy=>hy.1⟩⟩ (λσ ⟨eu,h1,h2⟩=>hQ eu σ (h1.congrB λp U π hp=>(if_pos (cj _ _ _ h1 p U π hp)).symm) λy U π=>?_)
 ·refine h1.congrK λp U π R' x sc a hp ei hx he q1 q2 i=>?_;unfold bJ bE;by_cases hh:U<r;· rw[if_pos (.inl hh),if_pos hh];exact⟨Iff.rfl,λh=>h⟩
  ·rw[if_neg hh,if_neg];· exact⟨Iff.rfl,λh=>h⟩
   · rintro(e|⟨e1,e2⟩);· exact hh e
     ·rw[e1,hr]at ei;cases ei;have:=(b'.1 q1).1;omega
 ·rw [h2];constructor
  ·rintro⟨e1,e2⟩;refine⟨e1,λ⟨R',k,e3,e4,e5⟩=>?_⟩;rcases e5 with e5|⟨e5,e6⟩
   · exact e2 ⟨e5,R',k,e3,e4⟩
   · rw[e5,hr]at e3;cases e3;obtain⟨_,sc,a,e,e7,_⟩:=e4;have:=(b'.1 e7).1;omega
  ·rintro⟨e1,e2⟩;exact⟨e1,λ⟨e3,R',k,e4,e5⟩=>e2 ⟨R',k,e4,e5,.inl e3⟩⟩
 ·have qh:=p' hr;obtain⟨Fk,Fl⟩:=hsl R qh;have Cr:(∀a,sc.st≠.nt a)->Q' σ:=λhn=>LO σ ⟨eu,h1.congrK λp U π R' x ez a hp ei hx he q1 q2 i=>?_,λy U π=>?_⟩
  ·cases cx:sc.st with
   |join a=>exact lk (gV (Cr λa' e=>by rw[cx]at e;cases e))
   |test a=>exact ln (gV (Cr λa' e=>by rw[cx]at e;cases e))
   | nt a =>
     refine ll (gV ?_);refine Ct (I:=I) (M:=4097) hW hr fj cx Fk (dh R qh sc (p' fj)) (hI R qh) hN0 au Fl hA (λ_ _ _ hz=>hz) hf OI Rb (λπ ke=>?_) h1 h1.le λfa s2 jT zG=>?_
     ·unfold bJ;rw[if_neg];rintro(e|⟨_,e⟩);· exact z! _ e
      · omega
     ·refine LO s2 ⟨fa,jT.congrB (λp U π hp=>?_),λy U π=>?_⟩
      ·unfold oO bJ;by_cases hh:U=r/\π.length=m;· rw[if_pos hh,if_pos (.inr ⟨hh.1,au⟩)]
       ·rw [if_neg hh];by_cases h5:U<r\/(U=r/\m+1<=π.length)
        ·rw[if_pos h5,if_pos];rcases h5 with e|⟨e1,e2⟩
         · exact .inl e
         · exact .inr ⟨e1,au⟩
        ·rw [if_neg h5,if_neg];rintro(e|⟨e1,e2⟩);· exact h5 (.inl e)
         ·by_cases h6:π.length=m;· exact hh ⟨e1,h6⟩
          · exact h5 (.inr ⟨e1,au⟩)
      ·rw [zG,h2];constructor
       ·rintro⟨⟨e1,e2⟩,e3⟩;refine⟨e1,λ⟨R',k,e4,e5,e6⟩=>?_⟩;by_cases hk:U=r/\k=m
        ·obtain⟨rfl,rfl⟩:=hk;rw[hr]at e4;cases e4;obtain⟨f1,sc2,a2,e,f2,f3,f4,f5⟩:=e5;rw[fj]at f2;cases f2;have ZY:eu y=some (U,π.take k++π.drop k):=by rw[u'];exact(h2 y U π).2 ⟨e1,e2⟩
         obtain⟨q,hq⟩:=h1.pre _ _ y rfl ZY;refine e3 ⟨q,π.take k,e,hq,by simp;omega,f4,f5,π.drop k,λe0=>?_,by rw[u']⟩;have:=congrArg List.length e0;simp at this;omega
        ·refine e2 ⟨R',k,e4,e5,?_⟩;rcases e6 with e6|⟨e6,e7⟩
         · exact .inl e6
         ·refine .inr ⟨e6,?_⟩;omega
       ·rintro⟨e1,e2⟩;refine⟨⟨e1,λ⟨R',k,e4,e5,e6⟩=>e2 ⟨R',k,e4,e5,?_⟩⟩,λ⟨q,ρ,e,f1,f2,f3,f4,τ,f5,f6⟩=>?_⟩
        ·rcases e6 with e6|⟨e6,e7⟩
         · exact .inl e6
         · exact .inr ⟨e6,au⟩
        ·simp only[Prod.mk.injEq]at f6;obtain⟨rfl,rfl⟩:=f6;have:=y!.2 f5;refine e2 ⟨R,m,hr,⟨by rw[m'];omega,sc,a,e,fj,cx,?_,f4⟩,.inr ⟨rfl,q! _⟩⟩;rw[N' au,S' au];exact f3
  ·unfold bJ;by_cases h5:U<r\/(U=r/\m+1<=π.length)
   · rw[if_pos h5,if_pos];· exact⟨Iff.rfl,λh=>h⟩
     ·rcases h5 with e|⟨e1,e2⟩
      · exact .inl e
      · exact .inr ⟨e1,au⟩
   · by_cases h6:U=r/\π.length=m
     ·obtain⟨rfl,h6⟩:=h6;rw[hr]at ei;cases ei;rw[h6,fj]at q1;cases q1;exact absurd q2 (hn a)
     ·rw [if_neg h5,if_neg];· exact⟨Iff.rfl,λh=>h⟩
      ·rintro(e|⟨e1,e2⟩);· exact h5 (.inl e)
       ·by_cases h7:π.length=m;· exact h6 ⟨e1,h7⟩
        · exact h5 (.inr ⟨e1,au⟩)
  ·rw [h2];constructor
   · rintro⟨e1,e2⟩;refine⟨e1,λ⟨R',k,e4,e5,e6⟩=>e2 ⟨R',k,e4,e5,?_⟩⟩;rcases e6 with e6|⟨e6,e7⟩
     · exact .inl e6
     ·refine .inr ⟨e6,?_⟩;by_cases h6:k=m
      ·subst h6;rw[e6,hr]at e4;cases e4;obtain⟨_,sc2,a2,_,f2,f3,_⟩:=e5;rw[fj]at f2;cases f2;exact absurd f3 (hn a2)
      · omega
   · rintro⟨e1,e2⟩;refine⟨e1,λ⟨R',k,e4,e5,e6⟩=>e2 ⟨R',k,e4,e5,?_⟩⟩;rcases e6 with e6|⟨e6,e7⟩
     · exact .inl e6
     · exact .inr ⟨e6,au⟩
 ·unfold bJ bE;by_cases hh:U<r+1
  ·rw[if_pos hh,if_pos];by_cases h5:U<r;· exact .inl h5
   · exact .inr ⟨au,r! _⟩
  ·rw[if_neg hh,if_neg];rintro(e|⟨e,_⟩)<;>omega
 ·rw [h2];constructor
  ·rintro⟨e1,e2⟩;refine⟨e1,λ⟨e3,R',k,e4,e5⟩=>e2 ⟨R',k,e4,e5,?_⟩⟩;by_cases hh:U<r;· exact .inl hh
   · exact .inr ⟨au,r! _⟩
  ·rintro⟨e1,e2⟩;refine⟨e1,λ⟨R',k,e4,e5,e6⟩=>e2 ⟨?_,R',k,e4,e5⟩⟩;rcases e6 with e6|⟨e6,_⟩<;>omega
 ·rw[h2];constructor
  ·rintro⟨e1,e2⟩;exact⟨e1,λ⟨R',k,e4,e5⟩=>e2 ⟨(b'.1 e4).1,R',k,e4,e5⟩⟩
  ·rintro⟨e1,e2⟩;exact⟨e1,λ⟨_,R',k,e4,e5⟩=>e2 ⟨R',k,e4,e5⟩⟩
end
end
section
open Go Go.RowKit Classical
section
variable {S:fY} {I:fb->Prop} {C:gA} {T:dc} {di:bf Nat} {loc:Loc} {s:Qe} {D:aq Int}
theorem PK {N:Nat} {f:Qg} {Q:Qe->Prop} (hW:pV C) (hT:jl T D) (hD:D.length<=3518437208882) (hlen:C.rows.length<=9223372036854775806) (hsl:∀R∈C.rows,R.steps.length<9223372036854775807/\B0+D.length+R.steps.length+2<N) (hMN:4099<N) (dh:∀R∈C.rows,∀sc∈R.steps,yY S I C T sc) (hI:∀R∈C.rows,∀π e,gE S T R.steps (R.hs,R.vs) π=some e->I e)
  (hA:∀A∈C.als,A.args.length<N/\A.args.length<9223372036854775807/\(f.ty=A.kind->∀(j:Nat) (a:fK),A.args[j]? =some a->∃v,f.args[j]? =some v)) (hf:T f.id=some f) (hid:f.id≠0)
  (h:Inv S C T (λ_=>T) (λ_ _=>(T,T)) (λ_=>False) none loc s) (a3a:∀y r π,loc y=some (r,π)->f.id∉π) (hP:∀(r:Nat) (R:fH) (π:aq Int),C.rows[r]? =some R->gL S T R.steps (R.hs,R.vs) π≠none->f.id∉π->∃y,loc y=some (r,π))
  (hQ:∀bq s',Inv S C T (λ_=>T) (λ_ _=>(T,T)) (λ_=>False) none bq s'->lL loc bq->(∀y r π,bq y=some (r,π)->loc y=none->f.id∈π)->(rY bq->yR S C T bq)->Q s'):Gr (λst σ=>Z2 N st f.id f.ty f.args σ) C.g s Q:=by
 refine zA (E:=λr σ=>∃bq,Inv S C T (λ_=>T) (λ_ _=>(T,T)) (λ_=>False) none bq σ/\lL loc bq/\(∀y U π,bq y=some (U,π)->loc y=none->U<r/\f.id∈π)/\(rY bq->∀(U:Nat) (R:fH),U<r->C.rows[U]? =some R->jz S T bq U [] R.steps (R.hs,R.vs)))
  (J:=λr m σ=>∃bq,Inv S C T (λ_=>T) (λ_ _=>(T,T)) (λ_=>False) none bq σ/\lL loc bq/\(∀y U π,bq y=some (U,π)->loc y=none->(U<r/\f.id∈π)\/(U=r/\∃k,m<=k/\π[k]? =some f.id))/\(rY bq->(∀(U:Nat) (R:fH),U<r->C.rows[U]? =some R->jz S T bq U [] R.steps (R.hs,R.vs))/\∀(R:fH) (π:aq Int),C.rows[r]? =some R->gL S T R.steps (R.hs,R.vs) π≠none->(∀k,k<m->π[k]? ≠some f.id)->∃y,bq y=some (r,π)))
  hlen (λR hR=>by have:=(hsl R hR).1;omega) (λr σ ⟨_,h1,_⟩=>h1.shape) (λr m σ ⟨_,h1,_⟩=>h1.shape) (λr R σ hr ⟨eu,h1,h2,hn,h3⟩=>⟨eu,h1,h2,λy U π e1 e2=>.inl (hn y U π e1 e2),λhX=>⟨h3 hX,λR' π ei hi hb=>?_⟩⟩) (λr R m sc σ Q' hr ⟨eu,h1,h2,hn,h3⟩ fj LO=>?_) (λr σ ⟨eu,h1,h2,hn,h3⟩=>⟨eu,h1,h2,λy U π e1 e2=>?_,λhX U R ei hR=>?_⟩) ⟨loc,h,lL.refl _,(λy U π e1 e2=>by rw[e1]at e2;cases e2),λ_ U R ei=>absurd ei (F' _)⟩ (λσ ⟨eu,h1,h2,hn,h3⟩=>hQ eu σ h1 h2 (λy r π e1 e2=>(hn y r π e1 e2).2) λhX U R hR=>h3 hX U R (b'.1 hR).1 hR)
 ·rw [hr]at ei;cases ei;obtain⟨e,he⟩:=H'.1 hi;have hl:=nY (Ou he)
  obtain ⟨y,hy⟩:=hP r R π hr hi λhm=>by
   obtain⟨k,hk⟩:=v!.1 hm;have:=(b'.1 hk).1;exact hb k au hk
  exact⟨y,h2 _ _ hy⟩
 ·have qh:=p' hr;obtain⟨Fk,Fl⟩:=hsl R qh;have vd:(∀a,sc.st≠.join a)->Q' σ:=λhnj=>LO σ ⟨eu,h1,h2,λy U π e1 e2=>?_,λhX=>⟨(h3 hX).1,λR' π ei hi hb=>(h3 hX).2 R' π ei hi λk hk=>?_⟩⟩
  ·cases cx:sc.st with
   |nt a=>exact ll (gV (vd λa' e=>by rw[cx]at e;cases e))
   |test a=>exact ln (gV (vd λa' e=>by rw[cx]at e;cases e))
   | join a =>
     refine lk (gV ?_);refine Cg (I:=I) (M:=4097) hW hT hD hr fj cx Fk (dh R qh) (hI R qh) Fl au hA (λ_ _ _ hz=>hz) hf (λ_ _=>rfl) h1 h1.le (λy ρ TW hy=>?_) λfa s2 jT jh oe wi=>?_
     ·cases hl:loc y with
      | some l=>
        have:=h2 _ _ hl;rw[hy]at this;cases this;exact a3a y _ _ hl bh
      | none=>
        rcases hn y _ _ hy hl with⟨e1,_⟩|⟨_,k,e1,e2⟩
        · exact z! _ e1
        · have:=(b'.1 e2).1;simp only[m',d',E']at this;omega
     ·refine LO s2 ⟨fa,jT,h2.trans jh,λy U π e1 e2=>?_,λhX=>?_⟩
      · cases hl:eu y with
        | some l=>
          have:=jh _ _ hl;rw[e1]at this;cases this;rcases hn y _ _ hl e2 with e3|⟨e3,k,e4,e5⟩
          · exact .inl e3
          · exact .inr ⟨e3,k,au,e5⟩
        | none=>
          obtain⟨q,ρ,τ,f1,f2,f3⟩:=oe y _ e1 hl;obtain⟨rfl,rfl⟩:=f3;refine .inr ⟨rfl,m,q! _,?_⟩;rw[p!,List.getElem?_append_right au,f2];simp
      · have Xc:=Q8N h1.cnt jh hX jT.cnt;obtain⟨h4,h5⟩:=h3 Xc;refine⟨λU R' ei Ra=>(h4 U R' ei Ra).mono jh,λR' π ei hi hb=>?_⟩;rw[hr]at ei;cases ei;by_cases hm:π[m]? =some f.id
        · obtain⟨g1,g2⟩:=CR hm
          have iV:gL S T R.steps (R.hs,R.vs) (π.take m++(f.id::π.drop (m+1)))≠none:=by
            have:π.take m++(f.id::π.drop (m+1))=π:=by
              conv=>rhs;rw[g1]
              simp
            rw[this];exact hi
          rw[T5]at iV;cases gh:gL S T R.steps (R.hs,R.vs) (π.take m)with
          |none=>rw[gh]at iV;exact absurd rfl iV
          | some e'=>
            rw[gh,j',g2,SZ fj]at iV;simp only[gL,jP,cx,hf,j']at iV;cases IF:S.mt sc.c e'.1 e'.2 f with
            |none=>rw[IF]at iV;exact absurd rfl iV
            | some e2=>
              rw[IF,j']at iV
              obtain ⟨q,hq⟩:=h5 R (π.take m) hr (by rw[gh];simp) λk hk hkk=>by
               have cj:=(b'.1 hkk).1;rw[g2]at cj;refine hb k cj ?_;rw[List.getElem?_take_of_lt cj]at hkk;exact hkk
              obtain⟨y,hy⟩:=wi hX q (π.take m) e' e2 hq g2 (Ou gh) IF (π.drop (m+1)) iV;exact⟨y,by rw[hy,<-g1]⟩
        · obtain⟨y,hy⟩:=h5 R π hr hi λk hk=>by
            by_cases h6:k=m;· rw[h6];exact hm
            · exact hb k au
          exact⟨y,jh _ _ hy⟩
  ·rcases hn y U π e1 e2 with e3|⟨e3,k,e4,e5⟩
   · exact .inl e3
   · exact .inr ⟨e3,k,au,e5⟩
  ·rw[hr]at ei;cases ei;by_cases h6:k=m
   · subst h6;intro hkk;obtain⟨e,he⟩:=H'.1 hi;exact hid (q8 (Ou he) fj hnj hkk)
   · exact hb k au
 ·rcases hn y U π e1 e2 with⟨e3,e4⟩|⟨e3,k,_,e5⟩
  · exact⟨au,e4⟩
  · exact⟨au,p' e5⟩
 ·obtain ⟨h4,h5⟩:=h3 hX;by_cases hh:U<r;· exact h4 U R hh hR
  ·have:U=r:=au
   subst this;intro τ iD;obtain⟨y,hy⟩:=h5 R τ hR iD λk hk=>absurd hk (F' _)
   exact⟨y,by simpa using hy⟩
end
end
section
open Go Go.RowKit Classical
structure ZH (C:gA):Prop where
 ofKey:∀k a,C.alphas.look k=some a->∃A∈C.als,A.b=a
 key:∀A∈C.als,∃k,C.alphas.look k=some A.b
def my (T:dc)(id:Int):dc:=λi=>if i=id then none else T i
section
variable {S:fY} {I:fb->Prop} {C:gA} {T T0 Tn:dc} {Ta:Nat->dc} {B:Nat->aq Int->dc×dc} {Zo:Nat->Prop} {di:bf Nat} {loc:Loc} {s:Qe} {D:aq Int}
theorem R4 {N:Nat} {id:Int} {K:Qe->WM Qe} {Q:Qe->Prop} (hA:ZH C)(hN:C.alphas.keys.length<N)(h:Inv S C T Ta B Zo none loc s)
  (ht:∀A∈C.als,∀i,my (Ta A.b) id i=Tn i) (hg:∀i,my (Ta C.g) id i=Tn i)
  (hQ:∀s',Inv S C T (λ_=>Tn) B Zo none loc s'->K s' Q):
  (QA (gNet s C.g) λxg=>
 j4 (dp s C.g (PO.net ({xg with facts:=MS.del xg.facts id}))) λs3=>
j4 (dp s3 C.g (PO.net ({({xg with facts:=MS.del xg.facts id}:gP)with rows:=({xg with facts:=MS.del xg.facts id}:gP).rows}))) λs7=>
jR (λ(Ia:(Nat×(MS cq Nat)×(aq cq)×Qe)->WM Qe) ((ae,ah,ab,aa))=>
 QA (gNet aa C.g) λΑ=>
 fN (Α.alphas=ah/\Α.alphasA=ae)<|
 kJ Α.alphas ab (
 K aa
 ) λk16=>(
 QA (MS.look Α.alphas k16) λO8=>
 QA (wa aa O8) λO9=>
 j4 (dp aa O8 (PO.alpha ({O9 with facts:=MS.del O9.facts id}))) λs8=>
 Ia (Α.alphasA,Α.alphas,ab++[k16],s8)
 )
) N ((({xg with facts:=MS.del xg.facts id}:gP).alphasA),(({xg with facts:=MS.del xg.facts id}:gP).alphas),([]:aq cq),s7)) Q:=by
  obtain⟨x,g1,g2,g3,g4,g5,g6,g7,g8,g9,_⟩:=h.gNet;refine Qo g1 (nF (nF ?_));rw[tC]
  have h1:=h.setNet (Tb:=Tn) (fm:=x.facts.del id) g2 (MS.nodup_del g9.1) λi=>by
    rw[MS.look_del,<-hg,g9.2];rfl
  refine z7 (λ(b,m,d,σ)=>b=C.alphasA/\m=C.alphas/\d.Nodup/\(∀k∈d,k∈C.alphas.keys)/\∃Tc:Nat->dc,Inv S C T Tc B Zo none loc σ/\Tc C.g=Tn/\(∀A∈C.als,Tc A.b=Tn\/(Tc A.b=Ta A.b/\∀k∈d,C.alphas.look k≠some A.b))) (λ(_,_,d,_)=>C.alphas.keys.length-d.length) ?_ N _ ⟨g8,g7,e!,(λk hk=>by cases hk),_,h1,if_pos rfl,λA wK=>?_⟩ (by show C.alphas.keys.length-0<N;omega)
  · rintro ⟨b,m,d,σ⟩ ag ⟨rfl,rfl,rz,ry,Tc,hi,hTg,TF⟩ gQ;obtain⟨y,q1,q2,_,_,_,_,q6,q7,_⟩:=hi.gNet;refine Qo q1 ?_;refine gY ⟨q6,q7⟩ ?_;rw[q6];refine T7 (λeZ=>?_) λk hk Fh=>?_
    · refine hQ σ (hi.congrTa hTg.symm λA wK=>?_);rcases TF A wK with e|⟨_,e⟩
      · exact e.symm
      · obtain⟨k,hk⟩:=hA.key A wK;exact absurd hk (e k (eZ k (MS.look_iff.2 ⟨_,hk⟩)))
    · obtain⟨a,ha⟩:=MS.look_iff.1 hk;obtain⟨A,rv,rfl⟩:=hA.ofKey k a ha;obtain⟨z,z1,z2,z3,z4,z5⟩:=hi.al A rv;refine Qo ha ?_;refine Qo (Zp z1) ?_;refine nF ?_
      have cj:d.length<C.alphas.keys.length:=by
        have:=JC (W'.2 ⟨Fh,rz⟩) (l:=C.alphas.keys) (by
          intro j U;rcases v'.1 U with rfl|U;· exact hk
          · exact ry j U)
        simp only[d']at this;omega
      have hAg:A.b≠C.g:=λe=>by rw[e,q2]at z1;cases z1
      have h2:=hi.setAlpha (Tb:=Tn) (fm:=z.facts.del id) rv z1 (MS.nodup_del z4) λi=>by
        rw[MS.look_del,z5]
        have e2:∀i,Tn i=my (Tc A.b) id i:=λi=>by
          rcases TF A rv with e|⟨e,_⟩
          · rw[e];have h5:=ht A rv i;unfold my at h5⊢;by_cases eW:i=id;· rw[if_pos eW]at h5⊢;exact h5.symm
            · rw[if_neg eW]
          · rw[e,ht A rv i]
        rw[e2];unfold my;by_cases eW:i=id<;>simp[eW]
      rw[q7];refine gQ _ ⟨rfl,rfl,M'.2 ⟨rz,bh,λy hy w hw e1=>Fh (by simp at hw;rw[<-hw,<-e1];exact hy)⟩,(λj U=>?_),_,h2,?_,λA' wK=>?_⟩ (by show C.alphas.keys.length-(d++[k]).length<C.alphas.keys.length-d.length;simp only[m',d',E'];omega)
      · rcases t'.1 U with U|U;· exact ry j U
        · rw[n'.1 U];exact hk
      · exact(if_neg (Ne.symm hAg)).trans hTg
      · by_cases e:A'.b=A.b;· exact .inl (if_pos e)
        · rcases TF A' wK with e1|⟨e1,e2⟩
          · exact .inl ((if_neg e).trans e1)
          · refine .inr ⟨(if_neg e).trans e1,λj U BR=>?_⟩;rcases t'.1 U with U|U;· exact e2 j U BR
            · rw[n'.1 U,ha]at BR;exact e (Option.some.inj BR).symm
  · refine .inr ⟨if_neg λe=>?_,λk hk=>by cases hk⟩;obtain⟨z,z1,_⟩:=h.al A wK;rw[e,g2]at z1;cases z1
end
end
section
open Go Go.RowKit Classical
def jw (T:dc)(f:Qg):dc:=λi=>if i=f.id then some f else T i
section
variable {S:fY} {I:fb->Prop} {C:gA} {T T0 Tn:dc} {B:Nat->aq Int->dc×dc} {Zo:Nat->Prop} {di:bf Nat} {loc:Loc} {s:Qe} {D:aq Int}
theorem PI {N:Nat} {f:Qg} {K:Qe->WM Qe} {Q:Qe->Prop} (hA:ZH C)(hN:C.alphas.keys.length<N)(OI:T0 f.id=none)(hAr:∀A∈C.als,A.args.length<N/\A.args.length<9223372036854775807/\(f.ty=A.kind->∀(j:Nat)(a:fK),A.args[j]? =some a->∃v,f.args[j]? =some v))
  (h:Inv S C T (λ_=>T0) B Zo none loc s) (hQ:∀s',Inv S C T (λ_=>jw T0 f) B Zo none loc s'->K s' Q):
  (QA (gNet s C.g) λxg=>
 j4 (dp s C.g (PO.net ({xg with facts:=MS.put xg.facts f.id (⟨f.id,f.ty,f.args⟩:Qg)}))) λs3=>
j4 (dp s3 C.g (PO.net ({({xg with facts:=MS.put xg.facts f.id (⟨f.id,f.ty,f.args⟩:Qg)}:gP)with rows:=({xg with facts:=MS.put xg.facts f.id (⟨f.id,f.ty,f.args⟩:Qg)}:gP).rows}))) λs7=>
jR (λ(Ia:(Nat×(MS cq Nat)×(aq cq)×Qe)->WM Qe) ((ae,ah,ab,aa))=>
 QA (gNet aa C.g) λO8=>
 fN (O8.alphas=ah/\O8.alphasA=ae)<|
 kJ O8.alphas ab (
 K aa
 ) λk18=>(
 QA (MS.look O8.alphas k18) λYH=>
 fu (OY N YH f.id f.ty f.args aa) λv24=>
 fZ (v24) (
  QA (wa aa YH) λO9=>
  j4 (dp aa YH (PO.alpha ({O9 with facts:=MS.put O9.facts f.id (⟨f.id,f.ty,f.args⟩:Qg)}))) λs8=>
  Ia (O8.alphasA,O8.alphas,ab++[k18],s8)
 ) (
  Ia (O8.alphasA,O8.alphas,ab++[k18],aa)
 )
 )
) N ((({xg with facts:=MS.put xg.facts f.id (⟨f.id,f.ty,f.args⟩:Qg)}:gP).alphasA),(({xg with facts:=MS.put xg.facts f.id (⟨f.id,f.ty,f.args⟩:Qg)}:gP).alphas),([]:aq cq),s7)) Q:=by
  obtain⟨x,g1,g2,g3,g4,g5,g6,g7,g8,g9,_⟩:=h.gNet;refine Qo g1 (nF (nF ?_));rw[tC]
  have h1:=h.setNet (Tb:=jw T0 f) (fm:=x.facts.put f.id ⟨f.id,f.ty,f.args⟩) g2 (MS.nodup_put g9.1) λi=>by
    rw[MS.look_put,g9.2];rfl
  refine z7 (λ(b,m,d,σ)=>b=C.alphasA/\m=C.alphas/\d.Nodup/\(∀k∈d,k∈C.alphas.keys)/\∃Tc:Nat->dc,Inv S C T Tc B Zo none loc σ/\Tc C.g=jw T0 f/\(∀A∈C.als,Tc A.b=jw T0 f\/(Tc A.b=T0/\∀k∈d,C.alphas.look k≠some A.b))) (λ(_,_,d,_)=>C.alphas.keys.length-d.length) ?_ N _ ⟨g8,g7,e!,(λk hk=>by cases hk),_,h1,if_pos rfl,λA wK=>?_⟩ (by show C.alphas.keys.length-0<N;omega)
  · rintro ⟨b,m,d,σ⟩ ag ⟨rfl,rfl,rz,ry,Tc,hi,hTg,TF⟩ gQ;obtain⟨y,q1,q2,_,_,_,_,q6,q7,_⟩:=hi.gNet;refine Qo q1 ?_;refine gY ⟨q6,q7⟩ ?_;rw[q6];refine T7 (λeZ=>?_) λk hk Fh=>?_
    · refine hQ σ (hi.congrTa hTg.symm λA wK=>?_);rcases TF A wK with e|⟨_,e⟩
      · exact e.symm
      · obtain⟨k,hk⟩:=hA.key A wK;exact absurd hk (e k (eZ k (MS.look_iff.2 ⟨_,hk⟩)))
    · obtain ⟨a,ha⟩:=MS.look_iff.1 hk;obtain⟨A,rv,rfl⟩:=hA.ofKey k a ha;obtain⟨z,z1,z2,z3,z4,z5⟩:=hi.al A rv;obtain⟨r1,r2,r3⟩:=hAr A rv;refine Qo ha ?_;refine gV ?_
      have cj:d.length<C.alphas.keys.length:=by
        have:=JC (W'.2 ⟨Fh,rz⟩) (l:=C.alphas.keys) (by
          intro j U;rcases v'.1 U with rfl|U;· exact hk
          · exact ry j U)
        simp only[d']at this;omega
      have hAg:A.b≠C.g:=λe=>by rw[e,q2]at z1;cases z1
      rw[q7]
      have next:∀HT,Inv S C T (λb=>if b=A.b then jw T0 f else Tc b) B Zo none loc HT->ag (C.alphasA,C.alphas,d++[k],HT) Q:=λHT h2=>by
        refine gQ _ ⟨rfl,rfl,M'.2 ⟨rz,bh,λy hy w hw e1=>Fh (by simp at hw;rw[<-hw,<-e1];exact hy)⟩,(λj U=>?_),_,h2,?_,λA' wK=>?_⟩ (by show C.alphas.keys.length-(d++[k]).length<C.alphas.keys.length-d.length;simp only[m',d',E'];omega)
        · rcases t'.1 U with U|U;· exact ry j U
          · rw[n'.1 U];exact hk
        · exact(if_neg (Ne.symm hAg)).trans hTg
        · by_cases e:A'.b=A.b;· exact .inl (if_pos e)
          · rcases TF A' wK with e1|⟨e1,e2⟩
            · exact .inl ((if_neg e).trans e1)
            · refine .inr ⟨(if_neg e).trans e1,λj U BR=>?_⟩;rcases t'.1 U with U|U;· exact e2 j U BR
              · rw[n'.1 U,ha]at BR;exact e (Option.some.inj BR).symm
      have same:∀i,i≠f.id->Tc A.b i=T0 i:=λi eW=>by
        rcases TF A rv with e|⟨e,_⟩
        · rw[e];exact if_neg eW
        · rw[e]
      refine LS (hi.al A rv) r1 r2 r3 ?_;refine jj (λhb=>?_) (λhb=>?_)
      · refine Qo (Zp z1) ?_;refine nF ?_;refine next _ (hi.setAlpha (Tb:=jw T0 f) (fm:=z.facts.put f.id ⟨f.id,f.ty,f.args⟩) rv z1 (MS.nodup_put z4) λi=>?_)
        rw[MS.look_put,z5];unfold jw;by_cases eW:i=f.id
        · rw[if_pos eW,if_pos eW];simp only[K!,hb,if_true]
        · rw[if_neg eW,if_neg eW,same i eW]
      · refine next σ ?_
        have:=hi.setAlpha (Tb:=jw T0 f) (fm:=z.facts) rv z1 z4 λi=>by
          rw[z5];unfold jw;by_cases eW:i=f.id
          · rw[if_pos eW,eW];rcases TF A rv with e|⟨e,_⟩
            · rw[e];unfold jw;rw[if_pos rfl]
            · rw[e,OI];simp[K!,hb]
          · rw[if_neg eW,same i eW]
        rwa [vM z1]at this
  · refine .inr ⟨if_neg λe=>?_,λk hk=>by cases hk⟩;obtain⟨z,z1,_⟩:=h.al A wK;rw[e,g2]at z1;cases z1
end
end
section
open Go Go.RowKit Classical
section
variable {S:fY} {I:fb->Prop} {C:gA} {T T0:dc} {loc:Loc} {s:Qe} {D:aq Int}
theorem mF {id:Int} (hT:T id=none)(hid:id≠0):∀{π:aq Int} {l:aq fz} {e U:fb},gE S T l e π=some U->id∉π
 |[],l,e,U,_=>bh
 |i::π,[],e,U,h=>by cases h
 | i ::π,sc::l,e,U,h=>by
   simp only[gE]at h;cases h1:hY S T sc e i with
   |none=>rw[h1]at h;cases h
   | some e1=>
     rw[h1]at h;have ih:=mF hT hid h;intro hm;rcases v'.1 hm with e2|e2
     ·subst e2;unfold hY at h1;cases cx:sc.st with
      |join a=>rw[cx]at h1;simp only[hT]at h1;cases h1
      |nt a=>rw[cx]at h1;simp only[if_neg hid]at h1;cases h1
      |test a=>rw[cx]at h1;simp only[hid,false_and,if_false]at h1;cases h1
     · exact ih e2
theorem LI {N:Nat} {id:Int} {Q:Qe->Prop} (hW:pV C)(hA:ZH C)(hT:jl (my T0 id) D)(hD:D.length<=3518437208882)(hlen:C.rows.length<=9223372036854775806)(hsl:∀R∈C.rows,R.steps.length<9223372036854775807/\B0+D.length+R.steps.length+R.steps.length+4099<N)(hAN:C.alphas.keys.length<N)(dh:∀R∈C.rows,∀sc∈R.steps,yY S I C (my T0 id) sc)(hI:∀R∈C.rows,∀π e,gE S (my T0 id) R.steps (R.hs,R.vs) π=some e->I e)(hMN:4099<N)(hid:id≠0)
  (h:Inv S C T0 (λ_=>T0) (λ_ _=>(T0,T0)) (λ_=>False) none loc s) (hP:∀(r:Nat) (R:fH) (π:aq Int),C.rows[r]? =some R->gL S (my T0 id) R.steps (R.hs,R.vs) π≠none->(∀k,¬K5 S (my T0 id) T0 id R π k)->∃y,loc y=some (r,π))
  (hQ:∀U s',Inv S C (my T0 id) (λ_=>my T0 id) (λ_ _=>(my T0 id,my T0 id)) (λ_=>False) none U s'->(∀y r π,loc y=some (r,π)->id∉π->U y=some (r,π))->(rY U->yR S C (my T0 id) U)->Q s'):Q6t N C.g id s Q:=by
 refine R4 (K:=λj=>fu (Gr (λnj ni=>Z3 N nj id ni) C.g j) λs5=>fu (Gr (λnj ni=>YX N nj id ni) C.g s5) λs6=>fq s6) (Tn:=my T0 id) hA hAN h (λ_ _ _=>rfl) (λ_=>rfl) λs3 h3=>?_;refine gV ?_;refine R5 (M:=4097) hW hlen (λR hR=>⟨(hsl R hR).1,by have:=(hsl R hR).2;omega⟩) au hid h3 h3.le λeu s1 h4 jx=>?_;refine gV ?_
 have h5:=h4.congrT (T':=my T0 id) (λp r π R e hp hr he=>by
  have hn:id∉π:=((jx p (r,π)).1 hp).2;exact(Bw (T:=T0) (T':=my T0 id) (id:=id) (λi hi=>if_neg hi) hn).trans he)
 refine R6 (I:=I) hW hT hD hlen (λR hR=>⟨(hsl R hR).1,by have:=(hsl R hR).2;omega⟩) hMN dh hI (if_pos rfl) (λi hi=>(if_neg hi).symm) h5 (λr R π hr hi hb=>?_) λU s' g1 g2 g3=>hQ U s' g1 (λy r π hy hn=>g2 _ _ ((jx y _).2 ⟨hy,hn⟩)) g3;obtain⟨y,hy⟩:=hP r R π hr hi hb;obtain⟨e,he⟩:=H'.1 hi;exact⟨y,(jx y _).2 ⟨hy,mF (T:=my T0 id) (if_pos rfl) hid (Ou he)⟩⟩
end
end
section
open Go Go.RowKit Classical
section
variable {S:fY} {I:fb->Prop} {C:gA} {T T0:dc} {loc:Loc} {s:Qe} {D:aq Int}
theorem RW {f:Qg} {R:fH} {π:aq Int} (hf:T f.id=some f)(hi:gL S T R.steps (R.hs,R.vs) π≠none):∀k,¬HU S T f R π k:=λk ⟨e1,sc,a,e,e2,e3,e4,e5⟩=>by
 have U:gL S T R.steps (R.hs,R.vs) (π.take k++π.drop k)≠none:=by rw[u'];exact hi
 rw[T5]at U;cases gh:gL S T R.steps (R.hs,R.vs) (π.take k)with
 |none=>rw[gh]at U;exact U rfl
 | some e'=>
   have hee:e'=e:=by have:=Ou gh;rw[e4]at this;exact(Option.some.inj this).symm
   subst hee;have hl:(π.take k).length=k:=by simp;omega
   rw[gh,j',hl,SZ e2,y' e1]at U;simp only[gL,jP,e3]at U;rw[if_neg (λhh=>hh.2 f.id ⟨f,hf,e5⟩)]at U;exact U rfl
theorem KM {N:Nat} {f:Qg} {Q:Qe->Prop} (hW:pV C)(hA:ZH C)(hT:jl (jw T0 f) D)(hD:D.length<=3518437208882)(hlen:C.rows.length<=9223372036854775806)(hsl:∀R∈C.rows,R.steps.length<9223372036854775807/\B0+D.length+R.steps.length+R.steps.length+4099<N)(hAN:C.alphas.keys.length<N)(dh:∀R∈C.rows,∀sc∈R.steps,yY S I C (jw T0 f) sc)(hI:∀R∈C.rows,∀π e,gE S (jw T0 f) R.steps (R.hs,R.vs) π=some e->I e)(hN0:B0+4099<N)(hid:f.id≠0)(OI:T0 f.id=none)
  (U:∀A∈C.als,A.args.length<N/\A.args.length<9223372036854775807/\(f.ty=A.kind->∀(j:Nat) (a:fK),A.args[j]? =some a->∃v,f.args[j]? =some v))
  (h:Inv S C T0 (λ_=>T0) (λ_ _=>(T0,T0)) (λ_=>False) none loc s) (hP:∀(r:Nat) (R:fH) (π:aq Int),C.rows[r]? =some R->gL S (jw T0 f) R.steps (R.hs,R.vs) π≠none->f.id∉π->∃y,loc y=some (r,π))
  (hQ:∀bq s',Inv S C (jw T0 f) (λ_=>jw T0 f) (λ_ _=>(jw T0 f,jw T0 f)) (λ_=>False) none bq s'->(∀y r π,loc y=some (r,π)->(¬∃R k,C.rows[r]? =some R/\HU S (jw T0 f) f R π k)->bq y=some (r,π))->(rY bq->yR S C (jw T0 f) bq)->Q s'):Q6s N C.g f.id f.ty f.args s Q:=by
 have hf:jw T0 f f.id=some f:=if_pos rfl
 have iY:zk T0 (jw T0 f):=λi g hg=>by
  unfold jw;rw[if_neg (λe=>by rw[e,OI]at hg;cases hg)];exact hg
 have h1:=h.congrT (T':=jw T0 f) (λp r π R e _ _ he=>uk iY he)
 have Rq:∀y r π,loc y=some (r,π)->f.id∉π:=λy r π hy=>by
  obtain⟨R,x,_,_,a3⟩:=h.part y r π hy;exact mF OI hid a3.env
 refine PI (K:=λj=>fu (Gr (λnj ni=>Z1 N nj f.id f.ty f.args ni) C.g j) λs5=>fu (Gr (λnj ni=>Z2 N nj f.id f.ty f.args ni) C.g s5) λs6=>fq s6) hA hAN OI U h1 λs3 h3=>?_;refine gV ?_;refine PJ (I:=I) hW hlen (λR hR=>⟨(hsl R hR).1,by have:=(hsl R hR).2;omega⟩) au dh hI U hf OI (λi hi=>(if_neg hi).symm) h3 λeu s1 h4 jx=>?_;refine gV ?_;refine PK (I:=I) hW hT hD hlen (λR hR=>⟨(hsl R hR).1,by have:=(hsl R hR).2;omega⟩) au dh hI U hf hid h4 (λy r π hy=>Rq y r π ((jx y r π).1 hy).1) (λr R π hr hi hn=>?_) λfa s2 h5 jh _ hc=>hQ fa s2 h5 (λy r π hy og=>jh _ _ ((jx y r π).2 ⟨hy,og⟩)) hc;obtain⟨y,hy⟩:=hP r R π hr hi hn;refine⟨y,(jx y r π).2 ⟨hy,λ⟨R',k,e1,e2⟩=>?_⟩⟩;rw[hr]at e1;cases e1;exact RW hf hi k e2
end
end
section
open Go Go.RowKit
structure lO where
 mt:Qq->List Bool->List V->Qg->Option (List Bool×List V)
 ev:Qq->List V->Bool
 sm:Qq->List Bool->List V->Bool
section
variable (S:lO) (facts:aq Qg)
def goN:aq Qq->aq Bool->aq V->aq Int->aq (aq Int×aq V)
 |[],_,vs,ids=>[(ids,vs)]
 | c::cs,hs,vs,ids=>
   if c.kind=3 then(if S.ev c vs then goN cs hs vs ids else[])
   else if c.kind=2 then(if S.sm c hs vs then[]else goN cs hs vs ids)
   else facts.flatMap λf=>match S.mt c hs vs f with
    |some p=>goN cs p.1 p.2 (ids++[f.id])
    |none=>[]
def jk:aq Qq->aq Bool->aq V->Nat
 |[],_,_=>0
 | c::cs,hs,vs=>
   if c.kind=3 then(if S.ev c vs then 1+jk cs hs vs else 0)
   else if c.kind=2 then(if S.sm c hs vs then 0 else 1+jk cs hs vs)
   else (facts.map λf=>match S.mt c hs vs f with
    |some p=>1+jk cs p.1 p.2
    |none=>0).sum
def CD (c:Qq)(cs:aq Qq)(hs:aq Bool)(vs:aq V)(ids:aq Int)(f:Qg):aq (aq Int×aq V):=match S.mt c hs vs f with
 |some p=>goN S facts cs p.1 p.2 (ids++[f.id])
 |none=>[]
def ud (c:Qq)(cs:aq Qq)(hs:aq Bool)(vs:aq V)(f:Qg):Nat:=match S.mt c hs vs f with
 |some p=>1+jk S facts cs p.1 p.2
 |none=>0
end
def kS (r:Int)(x:aq Int×aq V):Qb:=⟨r,x.1⟩
theorem L8 {α β:Type} {l:aq α} {g:α->aq β} {h:α->Nat} (U:∀x∈l,(g x).length<=h x):(l.flatMap g).length<=(l.map h).sum:=by
 induction l with
 |nil=>simp
 | cons x l ih=>
   rw[a!,m',d!,A!];have:=ih λy hy=>U y (g' _ hy)
   have:=U x K';omega
theorem uD {S:lO} {facts:aq Qg}:∀(cs:aq Qq)(hs:aq Bool)(vs:aq V)(ids:aq Int),(goN S facts cs hs vs ids).length<=jk S facts cs hs vs+1
 |[],hs,vs,ids=>by simp[goN,jk]
 | c ::cs,hs,vs,ids=>by
   unfold goN jk;split
   ·split;· have:=uD (S:=S) (facts:=facts) cs hs vs ids;omega
    · simp
   ·split
    ·split;· simp
     · have:=uD (S:=S) (facts:=facts) cs hs vs ids;omega
    ·refine Nat.le_succ_of_le (L8 λf _=>?_);cases hm:S.mt c hs vs f with
     |some p=>have:=uD (S:=S) (facts:=facts) cs p.1 p.2 (ids++[f.id]);simp only;omega
     |none=>simp
section
variable {S:lO} {facts:aq Qg} {c:Qq} {cs:aq Qq} {hs:aq Bool} {vs:aq V} {ids:aq Int}
theorem To (h:c.kind=3):jk S facts (c::cs) hs vs=if S.ev c vs then 1+jk S facts cs hs vs else 0:=by rw[jk,if_pos h]
theorem Tm (U:¬c.kind=3)(h:c.kind=2):jk S facts (c::cs) hs vs=if S.sm c hs vs then 0 else 1+jk S facts cs hs vs:=by rw[jk,if_neg U,if_pos h]
theorem Tl (U:¬c.kind=3)(h:¬c.kind=2):jk S facts (c::cs) hs vs=(facts.map (ud S facts c cs hs vs)).sum:=by rw[jk,if_neg U,if_neg h];rfl
theorem go3 (h:c.kind=3):goN S facts (c::cs) hs vs ids=if S.ev c vs then goN S facts cs hs vs ids else[]:=by rw[goN,if_pos h]
theorem go2 (U:¬c.kind=3)(h:c.kind=2):goN S facts (c::cs) hs vs ids=if S.sm c hs vs then[]else goN S facts cs hs vs ids:=by rw[goN,if_neg U,if_pos h]
theorem go1 (U:¬c.kind=3)(h:¬c.kind=2):goN S facts (c::cs) hs vs ids=facts.flatMap (CD S facts c cs hs vs ids):=by rw[goN,if_neg U,if_neg h];rfl
end
structure OkS (S:lO) (I:List Bool->List V->Prop) (conds:List Qq) (facts:List Qg):Prop where
 mt:∀N,9223372036855775808<=N->∀c∈conds,c.kind≠3->c.kind≠2->∀f∈facts,∀hs vs,I hs vs->
  ∃a b,Jy N c.kind c.type c.args c.test.kind c.test.value.k c.test.value.n c.test.value.s c.test.var c.test.op c.test.kids f.id f.ty f.args hs vs=some (a,b,(S.mt c hs vs f).isSome)/\∀p,S.mt c hs vs f=some p->p=(a,b)/\I a b
 ev:∀N,9223372036855775808<=N->∀c∈conds,c.kind=3->∀hs vs,I hs vs->
  ∃k n s e,w5 N c.test.kind c.test.value.k c.test.value.n c.test.value.s c.test.var c.test.op c.test.kids vs=some (k,n,s,e)/\S.ev c vs=(e==0&&(k==1&&n !=0))
 sm:∀N,9223372036855775808<=N->∀c∈conds,c.kind=2->∀hs vs,I hs vs->
  Z9 N c.kind c.type c.args c.test.kind c.test.value.k c.test.value.n c.test.value.s c.test.var c.test.op c.test.kids hs vs facts=some (S.sm c hs vs)
 len:∀hs vs,I hs vs->vs.length<=1000
end
section
open Go Go.RowKit Classical
def fo (facts:aq Qg):dc:=λi=>facts.find? λf=>decide (f.id=i)
theorem HW {facts:aq Qg} (hn:(facts.map (·.id)).Nodup) {i:Int} {f:Qg}:fo facts i=some f↔f∈facts/\f.id=i:=by
 unfold fo;induction facts with
 |nil=>simp
 | cons g l ih=>
   rw[d!,W']at hn;rw[List.find?_cons];by_cases hg:g.id=i
   ·rw [decide_eq_true hg];constructor;· intro h;cases h;exact⟨K',hg⟩
    ·rintro⟨h1,U⟩;rcases v'.1 h1 with rfl|h1;· rfl
     · exact absurd (f'.2 ⟨f,h1,by rw[U,hg]⟩) hn.1
   ·rw [decide_eq_false hg];rw[ih hn.2];constructor;· rintro⟨h1,U⟩;exact⟨g' _ h1,U⟩
    ·rintro⟨h1,U⟩;rcases v'.1 h1 with rfl|h1;· exact absurd U hg
     · exact⟨h1,U⟩
theorem G2 {facts:aq Qg} {i:Int}:fo facts i=none↔∀f∈facts,f.id≠i:=by
 unfold fo;rw[List.find?_eq_none];simp
def pn (S:fY)(facts:aq Qg):lO:=⟨S.mt,S.ev,λc hs vs=>facts.any λf=>(S.mt c hs vs f).isSome⟩
def I5 (sc:fz):Prop:=match sc.st with
 | .join _=>sc.c.kind=1
 | .nt _=>sc.c.kind=2
 | .test _=>sc.c.kind=3
def Gp (facts:aq Qg)(sc:fz):aq Int:=match sc.st with
 | .join _=>facts.map (·.id)
 | .nt _=>[0]
 | .test _=>[0]
noncomputable section
def uP (S:fY)(facts:aq Qg):aq fz->fb->aq (aq Int)
 |[],_=>[]
 | sc::l,e=>(Gp facts sc).flatMap λi=>match jP S (fo facts) sc e i with
   |some U=>[i]::(uP S facts l U).map λπ=>i::π
   |none=>[]
def yK (S:fY)(facts:aq Qg):aq fz->fb->aq (aq Int)
 |[],_=>[[]]
 | sc::l,e=>(Gp facts sc).flatMap λi=>match jP S (fo facts) sc e i with
   |some U=>(yK S facts l U).map λπ=>i::π
   |none=>[]
end
section
variable {S:fY} {facts:aq Qg}
variable {sc:fz}{e:fb}{a:Nat}{i:Int}
theorem Cv (hn:(facts.map (·.id)).Nodup) {e':fb} (h:jP S (fo facts) sc e i=some e'):i∈Gp facts sc:=by
 unfold jP at h;unfold Gp;cases cx:sc.st with
 | join a=>
   rw[cx]at h;cases hT:fo facts i with
   |none=>rw[hT]at h;cases h
   | some f=>
     obtain⟨h1,h2⟩:=(HW hn).1 hT;exact f'.2 ⟨f,h1,h2⟩
 | nt a=>
   rw[cx]at h;simp only at h⊢;split at h;· rename_i U;rw[U.1];simp
   · cases h
 | test a=>
   rw[cx]at h;simp only at h⊢;split at h;· rename_i U;rw[U.1];simp
   · cases h
theorem la (hn:(facts.map (·.id)).Nodup):∀{l:aq fz} {e:fb} {π:aq Int},π∈uP S facts l e↔π≠[]/\gL S (fo facts) l e π≠none
 |[],e,[]=>by simp[uP]
 |[],e,i::π=>by simp[uP,gL]
 | sc::l,e,[]=>by
   simp only[uP,j!,ne_eq,not_true_eq_false,false_and,iff_false,not_exists,not_and];intro i _ h;split at h
   ·rcases v'.1 h with h|h;· cases h
    · obtain⟨_,_,h⟩:=f'.1 h;cases h
   · cases h
 | sc ::l,e,i::π=>by
   simp only[uP,j!,gL];constructor
   ·rintro⟨j,_,h⟩;cases U:jP S (fo facts) sc e j with
    |none=>rw[U]at h;cases h
    | some e'=>
      rw[U]at h;rcases v'.1 h with h|h
      ·cases h;rw[U];refine⟨bh,?_⟩;cases l<;>simp[gL]
      ·obtain⟨ρ,h1,h2⟩:=f'.1 h;cases h2;rw[U];exact⟨bh,((la hn).1 h1).2⟩
   ·rintro⟨_,h⟩;cases U:jP S (fo facts) sc e i with
    |none=>rw[U]at h;exact absurd rfl h
    | some e'=>
      rw[U]at h;refine⟨i,Cv hn U,?_⟩;rw[U];by_cases hp:π=[]
      · subst hp;simp
      · exact g' _ (f'.2 ⟨π,(la hn).2 ⟨hp,h⟩,rfl⟩)
theorem V0 (hn:(facts.map (·.id)).Nodup):∀{l:aq fz} {e:fb} {π:aq Int},π∈yK S facts l e↔π.length=l.length/\gL S (fo facts) l e π≠none
 |[],e,[]=>by simp[yK,gL]
 |[],e,i::π=>by simp[yK]
 | sc::l,e,[]=>by
   simp only[yK,j!,E',d'];constructor
   ·rintro⟨i,_,h⟩;split at h;· obtain⟨_,_,h⟩:=f'.1 h;cases h
    · cases h
   · rintro⟨h,_⟩;cases h
 | sc ::l,e,i::π=>by
   simp only[yK,j!,gL,d',Nat.add_right_cancel_iff];constructor
   ·rintro⟨j,_,h⟩;cases U:jP S (fo facts) sc e j with
    |none=>rw[U]at h;cases h
    | some e'=>
      rw[U]at h;obtain⟨ρ,h1,h2⟩:=f'.1 h;cases h2;rw[U];exact(V0 hn).1 h1
   ·rintro⟨h0,h⟩;cases U:jP S (fo facts) sc e i with
    |none=>rw[U]at h;exact absurd rfl h
    | some e'=>
      rw[U]at h;refine⟨i,Cv hn U,?_⟩;rw[U];exact f'.2 ⟨π,(V0 hn).2 ⟨h0,h⟩,rfl⟩
theorem Bn (U:(facts.map (·.id)).Nodup)(sc:fz):(Gp facts sc).Nodup:=by
 unfold Gp;split;· exact U
 · simp
 · simp
theorem wX {L:aq (aq Int)} (h:L.Nodup):(L.map λπ=>i::π).Nodup:=by
 refine List.Pairwise.map _ (λa b U=>?_) h;intro e;exact U (List.cons.inj e).2
theorem xZ (hn:(facts.map (·.id)).Nodup):∀{l:aq fz} {e:fb},(uP S facts l e).Nodup
 |[],e=>by simp[uP]
 | sc ::l,e=>by
   refine w!.2 ⟨λi _=>?_,List.Pairwise.imp (λDW=>?_) (Bn hn sc)⟩
   ·cases hj:jP S (fo facts) sc e i with
    |none=>exact List.Pairwise.nil
    | some e'=>
      refine W'.2 ⟨λh=>?_,wX (xZ hn)⟩;obtain⟨ρ,h1,h2⟩:=f'.1 h;cases h2;exact((la hn).1 h1).1 rfl
   ·rename_i i j
    have hd:∀k x,(x∈match jP S (fo facts) sc e k with|some e'=>[k]::(uP S facts l e').map (λπ=>k::π)|none=>[])->x.head? =some k:=λk x U=>by
      split at U
      ·rcases v'.1 U with rfl|U;· rfl
       · obtain⟨ρ,_,rfl⟩:=f'.1 U;rfl
      · cases U
    intro x U y hy K0;have h1:=hd i x U;have h2:=hd j y hy;rw[K0,h2]at h1;exact DW (Option.some.inj h1).symm
theorem GF (U:(facts.map (·.id)).Nodup):(∀j,¬kT S sc e (fo facts) j)↔(facts.any λf=>(S.mt sc.c e.1 e.2 f).isSome)=false:=by
 rw[List.any_eq_false];constructor
 ·intro h f hf hs;exact h f.id ⟨f,(HW U).2 ⟨hf,rfl⟩,hs⟩
 ·rintro h j ⟨f,h1,h2⟩;exact h f ((HW U).1 h1).1 h2
theorem Cw (hn:(facts.map (·.id)).Nodup) (U:sc.st=.join a) {f:Qg} (hf:f∈facts):jP S (fo facts) sc e f.id=S.mt sc.c e.1 e.2 f:=by
 unfold jP;rw[U];rw[(HW hn).2 ⟨hf,rfl⟩];rfl
theorem MD (U:(facts.map (·.id)).Nodup) (cx:sc.st=.nt a):jP S (fo facts) sc e 0=if(facts.any λf=>(S.mt sc.c e.1 e.2 f).isSome)=true then none else some e:=by
 unfold jP;rw[cx];simp only;cases hx:(facts.any λf=>(S.mt sc.c e.1 e.2 f).isSome)with
 |false=>rw[if_pos ⟨bh,(GF U).2 hx⟩,if_neg bh]
 |true=>rw[if_neg (λh=>by have:=(GF U).1 h.2;rw[hx]at this;cases this),if_pos rfl]
theorem Cx {T:dc} (U:sc.st=.test a):jP S T sc e 0=if S.ev sc.c e.2=true then some e else none:=by
 unfold jP;rw[U];simp only;cases S.ev sc.c e.2 with
 |false=>rw[if_neg bh,if_neg bh]
 |true=>rw[if_pos ⟨bh,bh⟩,if_pos rfl]
theorem Qd3 {α β:Type}:∀{l:aq α} {g h:α->aq β},(∀x∈l,g x=h x)->l.flatMap g=l.flatMap h
 |[],_,_,_=>rfl
 |x::l,g,h,U=>by rw[a!,a!,U x K',Qd3 λy hy=>U y (g' _ hy)]
theorem H7 (hn:(facts.map (·.id)).Nodup):∀{l:aq fz} {e:fb},(∀sc∈l,I5 sc)->(uP S facts l e).length=jk (pn S facts) facts (l.map (·.c)) e.1 e.2
 |[],e,_=>by simp[uP,jk]
 | sc::l,e,hk=>by
   have ih:=λe'=>H7 hn (l:=l) (e:=e') λs hs=>hk s (g' _ hs);have h0:=hk sc K';unfold I5 at h0;rw[uP,List.length_flatMap,d!];cases cx:sc.st with
   | join a=>
     rw[cx]at h0;rw[Tl au au];unfold Gp;rw[cx];simp only[l!];congr 1;refine c! λf hf=>?_
     simp only[Function.comp_apply];rw[Cw hn cx hf];unfold ud pn;simp only;cases hm:S.mt sc.c e.1 e.2 f with
     |none=>rfl
     | some p=>
       simp only[d',c'];have:=ih p;unfold pn at this;omega
   | nt a=>
     rw[cx]at h0;rw[Tm au h0];unfold Gp;rw[cx];simp only[d!,L!,A!,M!,N!];rw[MD hn cx];show _=if(facts.any λf=>(S.mt sc.c e.1 e.2 f).isSome)=true then _ else _
     by_cases U:(facts.any λf=>(S.mt sc.c e.1 e.2 f).isSome)=true;· rw[if_pos U,if_pos U];rfl
     · rw[if_neg U,if_neg U];simp only[d',c'];have:=ih e;omega
   | test a=>
     rw[cx]at h0;rw[To h0];unfold Gp;rw[cx];simp only[d!,L!,A!,M!,N!];rw[Cx cx];show _=if S.ev sc.c e.2=true then _ else _
     by_cases U:S.ev sc.c e.2=true
     · rw[if_pos U,if_pos U];simp only[d',c'];have:=ih e;omega
     · rw[if_neg U,if_neg U];rfl
theorem GR (hn:(facts.map (·.id)).Nodup)(iM:∀f∈facts,0<f.id):∀{l:aq fz} {e:fb} {ids:aq Int},(∀sc∈l,I5 sc)->(goN (pn S facts) facts (l.map (·.c)) e.1 e.2 ids).map (·.1)=(yK S facts l e).map λπ=>ids++π.filter λi=>decide (0<i)
 |[],e,ids,_=>by simp[yK,goN]
 | sc::l,e,ids,hk=>by
   have ih:=λe' a3o=>GR hn iM (l:=l) (e:=e') (ids:=a3o) λs hs=>hk s (g' _ hs);have h0:=hk sc K';unfold I5 at h0;rw[yK,d!];cases cx:sc.st with
   | join a=>
     rw[cx]at h0;rw[go1 au au];unfold Gp;rw[cx];simp only[List.map_flatMap,List.flatMap_map];refine Qd3 λf hf=>?_
     rw[Cw hn cx hf];show List.map _ (match S.mt sc.c e.1 e.2 f with|some p=>_|none=>_)=_;cases hm:S.mt sc.c e.1 e.2 f with
     |none=>rfl
     | some p=>
       simp only[ih p (ids++[f.id]),l!];refine c! λπ _=>?_
       simp only[Function.comp_apply];rw[w' (du (iM f hf))];simp
   | nt a=>
     rw[cx]at h0;rw[go2 au h0];unfold Gp;rw[cx];simp only[a!,F!,G!];rw[MD hn cx];show List.map _ (if(facts.any λf=>(S.mt sc.c e.1 e.2 f).isSome)=true then _ else _)=_;by_cases U:(facts.any λf=>(S.mt sc.c e.1 e.2 f).isSome)=true;· rw[if_pos U,if_pos U];rfl
     · rw[if_neg U,if_neg U];simp only[ih e ids,l!];refine c! λπ _=>?_
       simp only[Function.comp_apply];rw[B' bh]
   | test a=>
     rw[cx]at h0;rw[go3 h0];unfold Gp;rw[cx];simp only[a!,F!,G!];rw[Cx cx];show List.map _ (if S.ev sc.c e.2=true then _ else _)=_;by_cases U:S.ev sc.c e.2=true
     · rw[if_pos U,if_pos U];simp only[ih e ids,l!];refine c! λπ _=>?_
       simp only[Function.comp_apply];rw[B' bh]
     · rw[if_neg U,if_neg U];rfl
end
end
section
open Go Go.RowKit Classical
section
variable {S:fY} {C:gA} {T:dc} {Ta:Nat->dc} {Zo:Nat->Prop} {di:bf Nat} {loc:Loc} {s:Qe} {facts:aq Qg}
theorem Inv.sound (h:Inv S C T Ta (λ_ _=>(T,T)) Zo di loc s) {r:Nat} {R:fH} (hr:C.rows[r]? =some R):∀(n:Nat)(π:aq Int)(p:Nat),π.length=n->loc p=some (r,π)->gL S T R.steps (R.hs,R.vs) π≠none:=by
 intro n;induction n with
 | zero=>
   intro π p hn hp;rw[u!.1 hn];cases R.steps<;>simp[gL]
 | succ n ih=>
   intro π p hn hp;rcases h! π with e|⟨ρ,i,e⟩
   · subst e;cases hn
   ·have e:π=ρ++[i]:=by simpa using e
    subst e;obtain⟨R',x,a1,_,a3⟩:=h.part p r _ hp;rw[hr]at a1;cases a1;obtain⟨_,q,_,hq⟩:=a3.up ρ i rfl;have TW:=ih ρ q (du hn) hq;obtain⟨e',GW⟩:=H'.1 TW;obtain⟨R',z,b1,_,b3⟩:=h.part q r ρ hq;rw[hr]at b1;cases b1;have hee:e'=(z.has,z.vals):=by have:=Ou GW;rw[b3.env]at this;exact(Option.some.inj this).symm
    have U:=a3.env;rw[QbF,b3.env,j']at U;cases fj:R.steps[ρ.length]? with
    |none=>rw[fj]at U;cases U
    | some sc=>
      rw[fj,j']at U;rw[T5,GW,j',y' (b'.1 fj).1,(b'.1 fj).2]
      have dh:jP S T sc e' i=some (x.has,x.vals):=by
       rw[hee];unfold hY at U;unfold jP;cases cx:sc.st with
       |join a=>rw[cx]at U;exact U
       | nt a=>
         rw[cx]at U;simp only at U⊢;split at U
         ·rename_i hi;rw[if_pos ⟨hi,b3.free sc a fj cx ⟨p,i,hp⟩⟩];exact U
         · cases U
       |test a=>rw[cx]at U;exact U
      simp only[gL,dh,j'];cases R.steps.drop (ρ.length+1)<;>simp
noncomputable def zl (S:fY)(facts:aq Qg):aq fH->Nat->aq (Nat×aq Int)
 |[],_=>[]
 |R::l,k=>((uP S facts R.steps (R.hs,R.vs)).map λπ=>(k,π))++zl S facts l (k+1)
theorem nS (hn:(facts.map (·.id)).Nodup):∀{l:aq fH} {k r:Nat} {π:aq Int},(r,π)∈zl S facts l k↔∃R j,l[j]? =some R/\r=k+j/\π≠[]/\gL S (fo facts) R.steps (R.hs,R.vs) π≠none
 |[],k,r,π=>by simp[zl]
 | R::l,k,r,π=>by
   rw[zl,t',nS hn (l:=l)];constructor
   ·rintro(h|⟨R',j,h1,U,h3⟩)
    · obtain⟨ρ,h1,U⟩:=f'.1 h;cases U;exact⟨R,0,rfl,rfl,(la hn).1 h1⟩
    · exact⟨R',j+1,by simpa using h1,au,h3⟩
   ·rintro⟨R',j,h1,U,h3⟩;cases j with
    | zero=>
      left;simp only[t!,Option.some.injEq]at h1;subst h1;exact f'.2 ⟨π,(la hn).2 h3,by rw[U];rfl⟩
    |succ j=>exact .inr ⟨R',j,by simpa using h1,au,h3⟩
theorem tV (U:(facts.map (·.id)).Nodup):∀{l:aq fH} {k:Nat},(zl S facts l k).Nodup
 |[],k=>by simp[zl]
 | R::l,k=>by
   rw[zl];refine M'.2 ⟨?_,tV U,λx hx y hy K0=>?_⟩;· exact List.Pairwise.map _ (λa b DS e=>DS (Prod.mk.inj e).2) (xZ U)
   ·obtain⟨ρ,_,rfl⟩:=f'.1 hx;subst K0;obtain⟨_,j,_,h2,_⟩:=(nS U).1 hy;omega
noncomputable def ia (S:fY)(facts:aq Qg)(l:aq fH):Nat:=(l.map λR=>(uP S facts R.steps (R.hs,R.vs)).length).sum
theorem tU:∀{l:aq fH} {k:Nat},(zl S facts l k).length=ia S facts l
 |[],k=>rfl
 | R::l,k=>by
   rw[zl,m',c',tU (l:=l)];rfl
theorem Inv.cnt_le (hn:(facts.map (·.id)).Nodup)(h:Inv S C (fo facts) Ta (λ_ _=>(fo facts,fo facts)) Zo di loc s) {n:Nat} (hc:jd loc n):n<=ia S facts C.rows:=by
 obtain⟨L,a1,a2,rfl⟩:=hc;rw[<-tU (k:=0),<-c' (f:=λp=>(loc p).getD (0,[]))];refine JC ?_ λz hz=>?_
 ·refine List.Pairwise.map _ (λa b DS e=>?_) (List.Pairwise.and_mem.1 a1);obtain⟨ha,hb,DS⟩:=DS;obtain⟨r,π,h1,_⟩:=(a2 a).1 ha;obtain⟨r',fV,U,_⟩:=(a2 b).1 hb;rw[h1,U]at e;simp only[Option.getD_some]at e;rw[<-e]at U;exact DS (h.inj _ _ _ h1 U)
 ·obtain⟨p,hp,rfl⟩:=f'.1 hz;obtain⟨r,π,h1,U⟩:=(a2 p).1 hp;rw[h1];obtain⟨R,x,b1,_,_⟩:=h.part p r π h1;exact(nS hn).2 ⟨R,r,b1,bh,U,h.sound b1 _ _ _ rfl h1⟩
theorem Vr (U:(facts.map (·.id)).Nodup)(hC:yR S C (fo facts) loc) {n:Nat} (hc:jd loc n):ia S facts C.rows<=n:=by
 obtain⟨L,a1,a2,rfl⟩:=hc;rw[<-tU (k:=0),show L.length=(L.map λp=>(loc p).getD (0,[])).length from(c' _).symm];refine JC (tV U) λz hz=>?_;obtain⟨r,π⟩:=z;obtain⟨R,j,h1,h2,h3,h4⟩:=(nS U).1 hz;obtain rfl:r=j:=au
 obtain⟨y,hy⟩:=hC r R h1 π h4;rw[k!]at hy;exact f'.2 ⟨y,(a2 y).2 ⟨r,π,hy,h3⟩,by rw[hy];rfl⟩
theorem Inv.notFull (hn:(facts.map (·.id)).Nodup)(h:Inv S C (fo facts) Ta (λ_ _=>(fo facts,fo facts)) Zo di loc s)(hC:rY loc->yR S C (fo facts) loc):rY loc↔ia S facts C.rows<=4096:=by
 constructor
 ·intro hf;refine Nat.le_of_not_lt λcj=>?_
  obtain⟨n,U⟩:=h.cnt;have:=hf n U;have:=Vr hn (hC hf) U;omega
 · exactλhf n U=>C! (h.cnt_le hn U) hf
end
def mz (f:Qg):aq Qg->aq Qg
 |[]=>[f]
 |g::l=>if f.id<g.id then f::g::l else g::mz f l
def jm (id:Int)(l:aq Qg):aq Qg:=l.filter λg=>decide (g.id≠id)
section
variable {f g:Qg} {facts:aq Qg} {id:Int}
theorem Qd4:∀{l:aq Qg},g∈mz f l↔g=f\/g∈l
 |[]=>by simp[mz]
 | x ::l=>by
   rw[mz];split;· simp
   ·rw [v',Qd4,v'];constructor
    ·rintro(h|h|h);· exact .inr (.inl h)
     · exact .inl h
     · exact .inr (.inr h)
    ·rintro(h|h|h);· exact .inr (.inl h)
     · exact .inl h
     · exact .inr (.inr h)
theorem Br {l:aq Qg}:g∈jm id l↔g∈l/\g.id≠id:=by
 unfold jm;rw[List.mem_filter];simp
abbrev tR (l:aq Qg):Prop:=l.Pairwise λa b=>a.id<b.id
theorem tR.nodup {l:aq Qg} (h:tR l):(l.map (·.id)).Nodup:=List.Pairwise.map _ (λ_ _ U=>Int.ne_of_lt U) h
theorem tR.ins:∀{l:aq Qg},tR l->(∀g∈l,g.id≠f.id)->tR (mz f l)
 |[],_,_=>by simp[mz]
 | x::l,h,hn=>by
   obtain⟨h1,h2⟩:=n!.1 h;rw[mz];have hx:=hn x K';split
   ·rename_i U;refine n!.2 ⟨λy hy=>?_,h⟩;rcases v'.1 hy with rfl|hy;· exact U
    · have:=h1 y hy;omega
   ·rename_i U;refine n!.2 ⟨λy hy=>?_,tR.ins h2 λg hg=>hn g (g' _ hg)⟩;rcases Qd4.1 hy with rfl|hy;· omega
    · exact h1 y hy
theorem tR.del {l:aq Qg} (h:tR l):tR (jm id l):=h.filter _
theorem St (h:tR facts)(hn:∀g∈facts,g.id≠f.id):fo (mz f facts)=jw (fo facts) f:=by
 funext i;refine O! λx=>?_
 rw[HW (h.ins hn).nodup,Qd4];unfold jw;by_cases hi:i=f.id
 ·rw [if_pos hi];constructor
  ·rintro⟨rfl|h1,U⟩;· rfl
   · exact absurd (U.trans hi) (hn x h1)
  · intro h1;cases h1;exact⟨.inl rfl,hi.symm⟩
 ·rw [if_neg hi,HW h.nodup];constructor
  ·rintro⟨rfl|h1,U⟩;· exact absurd U.symm hi
   · exact⟨h1,U⟩
  · rintro⟨h1,U⟩;exact⟨.inr h1,U⟩
theorem Ss (h:tR facts):fo (jm id facts)=my (fo facts) id:=by
 funext i;refine O! λx=>?_
 rw[HW (h.del).nodup,Br];unfold my;by_cases hi:i=id
 ·rw[if_pos hi];constructor
  ·rintro⟨⟨_,h1⟩,U⟩;exact absurd (U.trans hi) h1
  · intro h1;cases h1
 ·rw[if_neg hi,HW h.nodup];constructor;· rintro⟨⟨h1,_⟩,U⟩;exact⟨h1,U⟩
  · rintro⟨h1,U⟩;exact⟨⟨h1,λe=>hi (U.symm.trans e)⟩,U⟩
theorem uQ:∀{l:aq Qg},(mz f l).length=l.length+1
 |[]=>rfl
 | x::l=>by
   rw[mz];split;· rfl
   · rw[d',uQ];rfl
theorem KQ {l:aq Qg}:(jm id l).length<=l.length:=x! _ _
end
end
section
open Go Go.RowKit Classical
theorem mT {A R:Type} {Q:R->Prop} {f:A->WM R} {g:(A->WM R)->WM R} (h:∀k,k=f->g k Q):lA f g Q:=h f rfl
section
variable {S:fY} {T T':dc}
theorem MC {sc:fz} {e:fb} {i id:Int} (hs:zk T T')(hi:∀j,j≠id->T j=T' j)(hn:i≠id) {U:fb} (h:jP S T' sc e i=some U):jP S T sc e i=some U:=by
 unfold jP at h⊢;cases cx:sc.st with
 |join a=>rw[cx]at h;simp only at h⊢;rw[hi i hn];exact h
 | nt a=>
   rw[cx]at h;simp only at h⊢;split at h
   ·rename_i hh;rw[if_pos ⟨hh.1,λj ⟨f,h1,h2⟩=>hh.2 j ⟨f,hs j f h1,h2⟩⟩];exact h
   · cases h
 |test a=>rw[cx]at h;exact h
theorem BZ {id:Int} (hs:zk T T')(hi:∀j,j≠id->T j=T' j):∀{π:aq Int} {l:aq fz} {e:fb},id∉π->gL S T' l e π≠none->gL S T l e π≠none
 |[],l,e,_,_=>by cases l<;>simp[gL]
 |i::π,[],e,_,h=>by simp[gL]at h
 | i ::π,sc::l,e,hn,h=>by
   simp only[gL]at h⊢;cases h1:jP S T' sc e i with
   |none=>rw[h1]at h;exact absurd rfl h
   | some e1=>
     rw[h1]at h;rw[MC hs hi (λU=>hn (by rw[U];simp)) h1];exact BZ hs hi (λU=>hn (g' _ U)) h
theorem Mo (hs:zk T T') {l:aq fz} {e:fb} {π:aq Int} (hb:∀n sc a e1,n<π.length->l[n]? =some sc->sc.st=.nt a->gL S T l e (π.take n)=some e1->∀j,kT S sc e1 T' j->kT S sc e1 T j) (h:gL S T l e π≠none):∀n,n<=π.length->∃e1,gL S T l e (π.take n)=some e1/\gL S T' l e (π.take n)=some e1:=by
 intro n;induction n with
 |zero=>intro _;exact⟨e,by rw[I!];cases l<;>rfl,by rw[I!];cases l<;>rfl⟩
 | succ n ih=>
   intro hn;obtain⟨e1,h1,h2⟩:=ih au;have hx:gL S T l e (π.take (n+1)++π.drop (n+1))≠none:=by rw[u'];exact h
   rw[T5]at hx
   obtain ⟨e2,U⟩:∃e2,gL S T l e (π.take (n+1))=some e2:=by
     cases hh:gL S T l e (π.take (n+1))with
     |none=>rw[hh]at hx;exact absurd rfl hx
     |some e2=>exact⟨e2,rfl⟩
   refine⟨e2,U,?_⟩;have lN:π[n]? =some π[n]:=i' au;have hlen:(π.take n).length=n:=by simp;omega
   rw[D!,lN,Option.toList_some,T5]at U⊢;rw[h1,j',hlen]at U;rw[h2,j',hlen];cases hd:l.drop n with
   |nil=>rw[hd]at U;cases U
   | cons sc l'=>
     rw[hd]at U
     have fj:l[n]? =some sc:=by
       have:=congrArg (λx=>x[0]?) hd;simpa using this
     simp only[gL]at U⊢;cases ho:jP S T sc e1 π[n]with
     |none=>rw[ho]at U;cases U
     | some e3=>
       rw[ho,j']at U
       have ho2:jP S T' sc e1 π[n]=some e3:=by
        unfold jP at ho⊢;cases cx:sc.st with
        | join a=>
          rw[cx]at ho;cases hT:T π[n]with
          |none=>rw[hT]at ho;cases ho
          |some f=>rw[hT]at ho;rw[hs _ _ hT];exact ho
        | nt a=>
          rw[cx]at ho;simp only at ho⊢;split at ho
          ·rename_i hh;rw[if_pos ⟨hh.1,λj hj=>hh.2 j (hb n sc a e1 au fj cx h1 j hj)⟩];exact ho
          · cases ho
        |test a=>rw[cx]at ho;exact ho
       rw[ho2,j'];exact U
end
structure tN (S:fY) (I:fb->Prop) (P:Qg->Prop) (C:gA):Prop where
 W:pV C
 A:ZH C
 rP:C.rP.isNone=false
 rows:C.rows.length<=1000
 steps:∀R∈C.rows,R.steps.length<=1000
 alk:C.alphas.keys.length<=1000000
 ok:∀T:dc,(∀i f,T i=some f->P f)->∀R∈C.rows,∀sc∈R.steps,yY S I C T sc
 I0:∀R∈C.rows,I (R.hs,R.vs)
 ar:∀A∈C.als,A.args.length<=1000000/\∀f,P f->f.ty=A.kind->A.args.length<=f.args.length
structure rU (S:fY) (P:Qg->Prop) (C:gA) (facts:List Qg) (loc:Loc) (s:Qe):Prop where
 inv:Inv S C (fo facts) (λ_=>fo facts) (λ_ _=>(fo facts,fo facts)) (λ_=>False) none loc s
 comp:yR S C (fo facts) loc
 ris:tR facts
 fr:∀f∈facts,P f/\1<=f.id/\f.id<=1099511627776
 le:ia S facts C.rows<=4096
section
variable {S:fY} {I:fb->Prop} {P:Qg->Prop} {C:gA} {loc:Loc} {s:Qe} {facts:aq Qg} {f:Qg} {id:Int}
variable {N:Nat}{Q:Nat×Qe->Prop}
theorem Qdk (hr:tR facts)(hf:∀f∈facts,P f/\1<=f.id/\f.id<=1099511627776)(hl:facts.length<=1000001):jl (fo facts) (facts.map (·.id)):=
 ⟨λi f h=>by
  obtain⟨h1,U⟩:=(HW hr.nodup).1 h;obtain⟨_,h3,h4⟩:=hf f h1;exact⟨f'.2 ⟨f,h1,U⟩,U,au,au⟩,by rw[c'];omega⟩
theorem pk (hr:tR facts)(U:∀f∈facts,P f/\1<=f.id/\f.id<=1099511627776):∀i f,fo facts i=some f->P f:=λi f h=>(U f ((HW hr.nodup).1 h).1).1
theorem tN.hI (U:tN S I P C)(hr:tR facts)(hf:∀f∈facts,P f/\1<=f.id/\f.id<=1099511627776)(hl:facts.length<=1000001):∀R∈C.rows,∀π e,gE S (fo facts) R.steps (R.hs,R.vs) π=some e->I e:=
 λR hR _ _ he=>KX (Qdk hr hf hl) (U.ok _ (pk hr hf) R hR) (U.I0 R hR) he
theorem tN.hsl (U:tN S I P C) {N:Nat} {D:aq Int} (hN:B0+4000000<=N)(hl:D.length<=1000001):∀R∈C.rows,R.steps.length<9223372036854775807/\B0+D.length+R.steps.length+R.steps.length+4099<N:=λR hR=>by
 have:=U.steps R hR;omega
theorem Sl (hn:fo facts f.id=none):zk (fo facts) (jw (fo facts) f):=λi g U=>by
 unfold jw;rw[if_neg (λe=>by rw[e,hn]at U;cases U)];exact U
theorem PN {T:dc} (U:T f.id=none):my (jw T f) f.id=T:=by
 funext i;unfold my jw;by_cases hi:i=f.id;· rw[if_pos hi,hi,U]
 · rw[if_neg hi,if_neg hi]
theorem Sa {T:dc} (U:T f.id=some f):jw (my T f.id) f=T:=by
 funext i;unfold jw;by_cases hi:i=f.id;· rw[if_pos hi,hi,U]
 ·rw[if_neg hi];exact if_neg hi
theorem Is {T:dc} {R:fH} {π:aq Int} {k:Nat} (hn:T f.id=none)(hi:gL S T R.steps (R.hs,R.vs) π≠none)(h:HU S (jw T f) f R π k):K5 S T (jw T f) f.id R π k:=by
 obtain⟨h1,sc,a,e,h2,h3,h4,h5⟩:=h
 have iY:zk T (jw T f):=λi g U=>by
   unfold jw;rw[if_neg (λe=>by rw[e,hn]at U;cases U)];exact U
 have hx:gL S T R.steps (R.hs,R.vs) (π.take k++π.drop k)≠none:=by rw[u'];exact hi
 rw[T5]at hx;cases hh:gL S T R.steps (R.hs,R.vs) (π.take k)with
 |none=>rw[hh]at hx;exact absurd rfl hx
 | some e'=>
   have h6:=Ou hh;have h7:=uk iY h6;rw[h4]at h7;cases h7;exact⟨h1,sc,a,e,h2,h3,h6,f,if_pos rfl,h5⟩
noncomputable def addN (S:fY)(rt:Qg->Bool)(C:gA)(facts:aq Qg)(f:Qg):aq Qg×Nat:=
 if rt f=true then(if(fo facts f.id).isSome=true then(facts,7)else if ia S (mz f facts) C.rows<=4096 then(mz f facts,0)else(facts,204))else(facts,2)
noncomputable def ui (S:fY)(C:gA)(facts:aq Qg)(id:Int):aq Qg×Nat:=
 if(fo facts id).isSome=true then(if ia S (jm id facts) C.rows<=4096 then(jm id facts,0)else(facts,204))else(facts,6)
def DJ (vb:V->Bool)(types:aq Q9)(f:Qg):Bool:=
 decide (1<=f.id/\f.id<=1099511627776)&&(decide (0<=f.ty)&&((match types[f.ty.toNat]? with
  |some t=>t.fields==((f.args.length:Nat):Int)
  |none=>false)&&f.args.all vb))
theorem tB {R:Type} {K:Bool->WM R} {Q:R->Prop} (hG:tN S I P C)(h:rU S P C facts loc s)(hQ:K true Q):fu (UD N C.g s) K Q:=by
 obtain⟨x,h1,_,_,_,U,_⟩:=h.inv.gNet;refine gV ?_;refine Qo h1 ?_;rw[U,hG.rP];exact hQ
theorem Η {Q:Nat->Prop} (hG:tN S I P C)(h:rU S P C facts loc s)(hQ:Q facts.length):Q8C N C.g s Q:=by
 refine tB hG h ?_;refine B9 rfl ?_;obtain⟨x,h1,_,_,_,_,_,_,_,U,_⟩:=h.inv.gNet;refine Qo h1 ?_
 have e:x.facts.es.length=facts.length:=by
  have e1:x.facts.keys.length=x.facts.es.length:=by unfold MS.keys;rw[c']
  have e2:(facts.map (·.id)).length=facts.length:=c' _
  have hk:∀i,i∈x.facts.keys↔i∈facts.map (·.id):=λi=>by
   rw[MS.look_iff];constructor
   ·rintro⟨f,hf⟩;rw[U.2]at hf;obtain⟨g1,g2⟩:=(HW h.ris.nodup).1 hf;exact f'.2 ⟨f,g1,g2⟩
   ·intro hi;obtain⟨f,g1,g2⟩:=f'.1 hi;exact⟨f,by rw[U.2];exact(HW h.ris.nodup).2 ⟨g1,g2⟩⟩
  rw[<-e1,<-e2];exact Nat.le_antisymm (JC U.1 λz hz=>(hk z).1 hz) (JC h.ris.nodup λz hz=>(hk z).2 hz)
 rw[e];exact hQ
theorem rU.parts (h:Inv S C (fo facts) (λ_=>fo facts) (λ_ _=>(fo facts,fo facts)) (λ_=>False) none loc s)(hr:tR facts)(hc:rY loc->yR S C (fo facts) loc):∃x,gNet s C.g=some x/\(x.parts>4096↔¬ia S facts C.rows<=4096):=by
 obtain⟨x,h1,_,_,_,_,_,_,_,_,n,h4,h5⟩:=h.gNet;refine⟨x,h1,?_⟩;rw[h4];have h6:=h.notFull hr.nodup hc;rw[<-h6];constructor
 ·intro hn U;have:=U n h5;omega
 ·intro U;refine Int.not_le.1 λhn=>U λm hm=>?_
  have:=hm.unique h5;omega
theorem Β {vb:V->Bool} (hN:B0+4000000<=N)(hG:tN S I P C)(h:rU S P C facts loc s)(hl:facts.length<=1000000)(hC:YL N f.args=some (!(f.args.all vb)))(fC:DJ vb C.types f=true->P f)(GU:f.args.length<=4398046511104)
  (hQ:∀bq s',rU S P C (addN S (DJ vb C.types) C facts f).1 bq s'->Q ((addN S (DJ vb C.types) C facts f).2,s')):Q8B N C.g f.id f.ty f.args s Q:=by
 obtain⟨x,ZX,_,IP,_,_,_,_,_,hx3,_⟩:=h.inv.gNet;refine tB hG h ?_;refine B9 rfl ?_;refine mT λkj Fi=>?_
 have kA:DJ vb C.types f=false->kj true Q:=λhr=>by
  subst Fi;refine kE rfl ?_;have:=hQ loc s;unfold addN at this;rw[if_neg (by rw[hr];simp)]at this;exact this h
 have a0L:DJ vb C.types f=true->kj false Q:=λhr=>by
  subst Fi;refine B9 rfl ?_;refine mT λkj2 Rn=>?_
  refine Qo ZX ?_;refine A7 (λog=>?_) (λg hg=>?_)
  ·subst Rn;refine B9 rfl ?_;refine gY GU ?_;rw[hx3.2]at og;have hid:=hr;unfold DJ at hid;simp only[Bool.and_eq_true,decide_eq_true_eq]at hid;have hnm:∀g∈facts,g.id≠f.id:=G2.1 og;have qk:=h.ris.ins hnm
   have mM:∀g∈mz f facts,P g/\1<=g.id/\g.id<=1099511627776:=λg hg=>by
    rcases Qd4.1 hg with rfl|hg;· exact⟨fC hr,hid.1⟩
    · exact h.fr g hg
   have hlen:(mz f facts).length<=1000001:=by rw[uQ];omega
   have et:=St h.ris hnm;have hTo:=Qdk qk mM hlen;refine gV ?_
   refine KM (I:=I) (T0:=fo facts) (D:=(mz f facts).map (·.id)) hG.W hG.A (by rw[<-et];exact hTo) (by rw[c'];omega) (by have:=hG.rows;omega) (hG.hsl hN (by rw[c'];exact hlen)) (by have:=hG.alk;omega) (by rw[<-et];exact hG.ok _ (pk qk mM)) (by rw[<-et];exact hG.hI qk mM hlen) au au og
    (λA hA=>⟨by have:=(hG.ar A hA).1;omega,by have:=(hG.ar A hA).1;omega,λXm j a hj=>by
     have h1:=(hG.ar A hA).2 f (fC hr) Xm;have h2:=(b'.1 hj).1;exact⟨_,i' au⟩⟩) h.inv (λr R π hR hi hn=>?_) λbq s' h1 h2 h3=>?_
   ·have:=h.comp r R hR π (BZ (id:=f.id) (Sl og) (λj hj=>by unfold jw;rw[if_neg hj]) hn hi);simpa using this
   ·rw [<-et]at h1 h3;obtain⟨z,hz1,Ml⟩:=rU.parts h1 qk h3;refine Qo hz1 ?_;refine jj (λU=>?_) (λU=>?_)
    ·
     have Md:=Ml.1 (of_decide_eq_true U);refine gV ?_;rw[et]at h1;have ed:my (jw (fo facts) f) f.id=fo facts:=PN og;refine LI (I:=I) (T0:=jw (fo facts) f) (D:=facts.map (·.id)) hG.W hG.A (by rw[ed];exact Qdk h.ris h.fr au) (by rw[c'];omega) (by have:=hG.rows;omega) (hG.hsl hN (by rw[c'];omega)) (by have:=hG.alk;omega) (by rw[ed];exact hG.ok _ (pk h.ris h.fr)) (by rw[ed];exact hG.hI h.ris h.fr au) au au h1 (λr R π hR hi U=>?_) λfa s2 g1 _ g3=>?_
     ·rw [ed]at hi U;obtain⟨y,hy⟩:=h.comp r R hR π hi;rw[k!]at hy
      exact ⟨y,h2 y r π hy λ⟨R',k,e1,e2⟩=>by
       rw[hR]at e1;cases e1;exact U k (Is og hi e2)⟩
     ·rw[ed]at g1 g3;have hq:=hQ fa s2;unfold addN at hq;rw[if_pos hr,og,if_neg bh,if_neg Md]at hq;exact hq ⟨g1,g3 ((g1.notFull h.ris.nodup g3).2 h.le),h.ris,h.fr,h.le⟩
    ·have Ff:ia S (mz f facts) C.rows<=4096:=Classical.byContradiction λhh=>(of_decide_eq_false U) (Ml.2 hh)
     have hq:=hQ bq s';unfold addN at hq;rw[if_pos hr,og,if_neg bh,if_pos Ff]at hq;exact hq ⟨h1,h3 ((h1.notFull qk.nodup h3).2 Ff),qk,mM,Ff⟩
  ·subst Rn;refine kE rfl ?_;rw[hx3.2]at hg;have hq:=hQ loc s;unfold addN at hq;rw[if_pos hr,hg,if_pos bh]at hq;exact hq h
 refine Qo ZX ?_;refine jj (λU=>kA ?_) (λh1=>jj (λU=>kA ?_) (λh2=>jj (λU=>kA ?_) (λh3=>jj (λU=>kA ?_) (λh4=>?_))))
 ·have:=of_decide_eq_true U;unfold DJ;rw[decide_eq_false au,o!]
 ·have:=of_decide_eq_true U;unfold DJ;rw[decide_eq_false au,o!]
 ·have:=of_decide_eq_true U;unfold DJ;rw[decide_eq_false (show¬0<=f.ty by omega),o!,Bool.and_false]
 ·have:=of_decide_eq_true U;rw[IP]at this;unfold DJ;rw[List.getElem?_eq_none au];simp
 ·have h1:=of_decide_eq_false h1;have h2:=of_decide_eq_false h2;have h3:=of_decide_eq_false h3;have h4:=of_decide_eq_false h4;rw[IP]at h4;have cj:f.ty.toNat<C.types.length:=au
  refine gY au ?_;refine Qo (a:=C.types[f.ty.toNat]) (by rw[IP];exact i' cj) ?_
  have er:DJ vb C.types f=((C.types[f.ty.toNat].fields==((f.args.length:Nat):Int))&&f.args.all vb):=by
   unfold DJ;rw[decide_eq_true (show 1<=f.id/\f.id<=1099511627776 by omega),decide_eq_true (show 0<=f.ty by omega),i' cj,B!,B!]
  refine jj (λU=>kA ?_) (λU=>?_)
  ·rw [er]
   have:(C.types[f.ty.toNat].fields==((f.args.length:Nat):Int))=false:=by
    rw[bne_iff_ne]at U;exact beq_eq_false_iff_ne.2 (Ne.symm U)
   rw[this,o!]
  ·refine Qo hC ?_
   have:(C.types[f.ty.toNat].fields==((f.args.length:Nat):Int))=true:=by
    have lU:¬((((f.args.length:Nat):Int) !=C.types[f.ty.toNat].fields)=true):=by rw[U];simp
    rw[bne_iff_ne,ne_eq,Classical.not_not]at lU;rw[lU];simp
   rw[this,B!]at er;cases ha:f.args.all vb with
   |true=>exact a0L (by rw[er,ha])
   |false=>exact kA (by rw[er,ha])
theorem Un (hN:B0+4000000<=N)(U:tN S I P C)(h:rU S P C facts loc s)(hl:facts.length<=1000000)
  (hQ:∀bq s',rU S P C (ui S C facts id).1 bq s'->Q ((ui S C facts id).2,s')):Q84 N C.g id s Q:=by
 obtain⟨x,ZX,_,IP,_,_,_,_,_,hx3,_⟩:=h.inv.gNet;refine tB U h ?_;refine B9 rfl ?_;refine mT λkj Fi=>?_;refine Qo ZX ?_;refine A7 (λog=>?_) (λf hf=>?_)
 ·subst Fi;refine kE rfl ?_;rw[hx3.2]at og;have hq:=hQ loc s;unfold ui at hq;rw[og,if_neg bh]at hq;exact hq h
 ·subst Fi;refine B9 rfl ?_;rw[hx3.2]at hf;obtain⟨hm,rfl⟩:=(HW h.ris.nodup).1 hf;have qk:tR (jm f.id facts):=h.ris.del;have mM:∀g∈jm f.id facts,P g/\1<=g.id/\g.id<=1099511627776:=λg hg=>h.fr g (Br.1 hg).1
  have hlen:(jm f.id facts).length<=1000001:=by have:=KQ (id:=f.id) (l:=facts);omega
  have et:fo (jm f.id facts)=my (fo facts) f.id:=Ss h.ris;have hid:=(h.fr f hm).2
  have iY:zk (my (fo facts) f.id) (fo facts):=λi g hg=>by
   unfold my at hg;split at hg;· cases hg
   · exact hg
  refine gV ?_;refine LI (I:=I) (T0:=fo facts) (D:=(jm f.id facts).map (·.id)) U.W U.A (by rw[<-et];exact Qdk qk mM hlen) (by rw[c'];omega) (by have:=U.rows;omega) (U.hsl hN (by rw[c'];exact hlen)) (by have:=U.alk;omega) (by rw[<-et];exact U.ok _ (pk qk mM)) (by rw[<-et];exact U.hI qk mM hlen) au au h.inv (λr R π hR hi hb=>?_) λbq s' h1 h2 h3=>?_
  ·obtain ⟨e1,_,he⟩:=Mo (S:=S) iY (l:=R.steps) (e:=(R.hs,R.vs)) (π:=π) (λn sc a e1 hn fj cx he j ⟨g,DV,oe⟩=>by
    by_cases hj:j=f.id
    ·subst hj;exact absurd ⟨hn,sc,a,e1,fj,cx,Ou he,g,DV,oe⟩ (hb n)
    · exact⟨g,by unfold my;rw[if_neg hj];exact DV,oe⟩) hi π.length (q! _)
   rw[List.take_length]at he;have:=h.comp r R hR π (by rw[he];simp);simpa using this
  ·rw [<-et]at h1 h3;obtain⟨z,hz1,Ml⟩:=rU.parts h1 qk h3;refine Qo hz1 ?_;refine jj (λhb=>?_) (λhb=>?_)
   ·have Md:=Ml.1 (of_decide_eq_true hb);refine gV ?_;rw[et]at h1;have ed:jw (my (fo facts) f.id) f=fo facts:=Sa hf
    refine KM (I:=I) (T0:=my (fo facts) f.id) (D:=facts.map (·.id)) U.W U.A (by rw[ed];exact Qdk h.ris h.fr au) (by rw[c'];omega) (by have:=U.rows;omega) (U.hsl hN (by rw[c'];omega)) (by have:=U.alk;omega) (by rw[ed];exact U.ok _ (pk h.ris h.fr)) (by rw[ed];exact U.hI h.ris h.fr au) au au (if_pos rfl)
     (λA hA=>⟨by have:=(U.ar A hA).1;omega,by have:=(U.ar A hA).1;omega,λXm j a hj=>by
      have h1:=(U.ar A hA).2 f (h.fr f hm).1 Xm;have h2:=(b'.1 hj).1;exact⟨_,i' au⟩⟩) h1 (λr R π hR hi hn=>?_) λfa s2 g1 _ g3=>?_
    ·rw[ed]at hi;obtain⟨y,hy⟩:=h.comp r R hR π hi;rw[k!]at hy;exact⟨y,h2 y r π hy hn⟩
    ·rw[ed]at g1 g3;have hq:=hQ fa s2;unfold ui at hq;rw[hf,if_pos bh,if_neg Md]at hq;exact hq ⟨g1,g3 ((g1.notFull h.ris.nodup g3).2 h.le),h.ris,h.fr,h.le⟩
   ·have Ff:ia S (jm f.id facts) C.rows<=4096:=Classical.byContradiction λhh=>(of_decide_eq_false hb) (Ml.2 hh)
    have hq:=hQ bq s';unfold ui at hq;rw[hf,if_pos bh,if_pos Ff]at hq;exact hq ⟨h1,h3 ((h1.notFull qk.nodup h3).2 Ff),qk,mM,Ff⟩
end
end
section
open Go Go.RowKit Classical
def gU:aq Int->aq Int->Int
 |[],[]=>0
 |[],_::_=>-1
 |_::_,[]=>1
 |a::l,b::m=>if a<b then-1 else if b<a then 1 else gU l m
theorem qp:∀l:aq Int,gU l l=0
 |[]=>rfl
 |a::l=>by rw[gU,if_neg au,if_neg au];exact qp l
theorem Qdy:∀l m:aq Int,gU m l=-gU l m
 |[],[]=>rfl
 |[],_::_=>rfl
 |_::_,[]=>rfl
 | a::l,b::m=>by
   simp only[gU];by_cases h1:a<b;· rw[if_pos h1,if_neg (by omega:¬b<a),if_pos h1];decide
   ·by_cases U:b<a;· rw[if_pos U,if_neg h1,if_pos U]
    · rw[if_neg h1,if_neg U,if_neg U,if_neg h1];exact Qdy l m
theorem qq:∀l m:aq Int,gU l m=0->l=m
 |[],[],_=>rfl
 |[],_::_,h=>by cases h
 |_::_,[],h=>by cases h
 | a::l,b::m,h=>by
   simp only[gU]at h;split at h;· cases h
   ·split at h;· cases h
    ·rw[qq l m h];congr 1;omega
theorem mU:∀l m n:aq Int,gU l m<0->gU m n<0->gU l n<0
 |[],[],n,h,_=>by simp[gU]at h
 |_::_,[],n,h,_=>by simp[gU]at h
 |l,_::_,[],_,h=>by simp[gU]at h
 |[],b::m,c::n,_,_=>by simp[gU]
 | a ::l,b::m,c::n,h1,U=>by
   simp only[gU]at h1 U⊢;by_cases e1:a<b
   ·by_cases e2:b<c;· rw[if_pos au];decide
    ·rw[if_neg e2]at U;by_cases e3:c<b;· rw[if_pos e3]at U;omega
     · rw[if_pos au];decide
   ·rw [if_neg e1]at h1;by_cases e4:b<a;· rw[if_pos e4]at h1;omega
    ·rw [if_neg e4]at h1;by_cases e2:b<c;· rw[if_pos au];decide
     ·rw[if_neg e2]at U;by_cases e3:c<b;· rw[if_pos e3]at U;omega
      ·rw[if_neg e3]at U;rw[if_neg au,if_neg au];exact mU l m n h1 U
theorem EE {N:Nat} {l m:aq Int} (hl:l.length<1000000) (hN:1000000<=N):Q5A N l m=some (gU l m):=by
 have key:∀(k i fuel:Nat),i+k=l.length->i<=m.length->k<fuel->(iT (fp (SE N l m) fuel i) λ_=>if(decide (l.length<m.length))=true then some (-1)else some 0)=some (gU (l.drop i) (m.drop i)):=by
  intro k;induction k with
  | zero=>
    intro i fuel hi him hf;obtain⟨fuel,rfl⟩:∃q,fuel=q+1:=⟨fuel-1,au⟩
    rw[pJ (o:=.inl ()) (by unfold SE;rw[if_neg fh]),lH,g! (by omega:l.length<=i)];by_cases h:l.length<m.length;· rw[cg h,y' (by omega:i<m.length)];rfl
    · rw[ct h,g! (by omega:m.length<=i)];rfl
  | succ k ih=>
    intro i fuel hi him hf;obtain⟨fuel,rfl⟩:∃q,fuel=q+1:=⟨fuel-1,au⟩
    have h1:i<l.length:=au
    rw[y' h1];by_cases h2:m.length<=i
    ·rw[pJ (o:=.inr 1) (by unfold SE;rw[cg h1,i' h1,Q1,cg h2]),B5,g! h2];rfl
    ·have h3:i<m.length:=au
     rw[y' h3,gU]
     have hc:Q5v N l[i] m[i]=some (if l[i]<m[i]then-1 else if m[i]<l[i]then 1 else 0):=by
      unfold Q5v Q6r;rw[Q1,Q1,if_neg bh,if_neg bh];by_cases U:l[i]<m[i];· rw[cg U,if_pos U]
      ·rw[ct U,if_neg U];by_cases q2:m[i]<l[i];· rw[cg q2,if_pos q2]
       · rw[ct q2,if_neg q2]
     have hs:SE N l m i=if l[i]<m[i]then some (.inr (.inr (-1)))else if m[i]<l[i]then some (.inr (.inr 1))else some (.inl (i+1)):=by
      unfold SE;rw[cg h1,i' h1,Q1,ct h3,i' h3,Q1,hc,Q1];by_cases U:l[i]<m[i];· simp only[if_pos U];rfl
      ·by_cases q2:m[i]<l[i];· simp only[if_neg U,if_pos q2];rfl
       ·simp only[if_neg U,if_neg q2];rw[if_neg bp,QC au]
     by_cases U:l[i]<m[i]
     ·rw[if_pos U]at hs⊢;rw[pJ hs,B5]
     ·by_cases q2:m[i]<l[i]
      ·rw[if_neg U,if_pos q2]at hs⊢;rw[pJ hs,B5]
      ·rw[if_neg U,if_neg q2]at hs⊢;rw[Gh hs];exact ih (i+1) fuel au au au
 have:=key l.length 0 N au au au;rw[J!,J!]at this;exact this
theorem NR {N:Nat} {k:Int} {l l':aq Qb} (hN:1000000<=N)(hk:∀t∈l,t.rule=k/\t.ids.length<1000000)(hl:l.length<4611686018427387904)(hp:l'.Perm l)(hs:l'.Pairwise λa b=>gU a.ids b.ids<0):
  rI (λx_ y_=>SG N x_.rule x_.ids y_.rule y_.ids) l=some l':=by
 have cm:∀x∈l,∀y:Qb,SG N x.rule x.ids y.rule y.ids=some (gU x.ids y.ids):=λx U y=>by
  unfold SG;rw[EE (hk x U).2 hN];rfl
 have cf:∀x∈l,∀y:Qb,DR (λx_ y_=>SG N x_.rule x_.ids y_.rule y_.ids) x y=gU x.ids y.ids:=λx U y=>by
  show(SG N x.rule x.ids y.rule y.ids).getD 0=_;rw[cm x U y];rfl
 refine Na ⟨λx U y _=>⟨_,cm x U y⟩,λx U=>?_,λx U y hy z _ h1 h2=>?_,λx U y hy z _ h1 h2=>?_,λx U y hy h1 h2=>?_,hl⟩ hp ?_;· rw[cf x U,qp];decide
 ·rw[cf x U]at h1⊢;rw[cf y hy]at h2;exact mU _ _ _ h1 h2
 ·rw [cf x U]at h1⊢;rw[cf y hy]at h2;intro h3;by_cases h4:gU x.ids y.ids=0;· rw[qq _ _ h4]at h3;exact h2 h3
  ·have h5:gU y.ids x.ids<0:=by rw[Qdy];omega
   exact h2 (mU _ _ _ h5 h3)
 ·rw[cf x U]at h1;rw[cf y hy,Qdy]at h2;have h3:=qq _ _ (show gU x.ids y.ids=0 by omega);obtain⟨r1,i1⟩:=x;obtain⟨r2,i2⟩:=y;have h4:=(hk _ U).1;have h5:=(hk _ hy).1;simp only at h3 h4 h5;rw[h3,h4,h5]
 ·refine(List.Pairwise.and_mem.1 hs).imp λ{a b} h=>?_;rw[cf b (hp.mem_iff.1 h.2.1),Qdy];omega
def qz (π:aq Int):aq Int:=π.filter λi=>decide (0<i)
section
variable {S:fY} {facts:aq Qg}
theorem nv (hr:facts.Pairwise λa b=>a.id<b.id)(iM:∀f∈facts,0<f.id):∀{l:aq fz} {e:fb},(yK S facts l e).Pairwise λa b=>gU (qz a) (qz b)<0
 |[],e=>by simp[yK]
 | sc ::l,e=>by
   have ih:=λU=>nv hr iM (l:=l) (e:=U);refine w!.2 ⟨λi _=>?_,?_⟩
   ·cases hj:jP S (fo facts) sc e i with
    |none=>exact List.Pairwise.nil
    | some U=>
      refine List.Pairwise.map _ (λa b DS=>?_) (ih U);unfold qz;by_cases hi:0<i
      ·rw[w' (du hi),w' (du hi),gU,if_neg au,if_neg au];exact DS
      ·rw[B' (du hi),B' (du hi)];exact DS
   ·have hd:∀k x,(x∈match jP S (fo facts) sc e k with|some U=>(yK S facts l U).map (λπ=>k::π)|none=>[])->∃ρ,x=k::ρ:=λk x hx=>by
      split at hx;· obtain⟨ρ,_,rfl⟩:=f'.1 hx;exact⟨ρ,rfl⟩
      · cases hx
    unfold Gp;cases cx:sc.st with
    |nt a=>simp
    |test a=>simp
    | join a=>
      refine List.Pairwise.map _ (λf g hfg=>?_) (List.Pairwise.and_mem.1 hr);intro x hx y hy;obtain⟨ρ,rfl⟩:=hd _ x hx;obtain⟨σ,rfl⟩:=hd _ y hy;obtain⟨h1,h2,h3⟩:=hfg;unfold qz;rw[w' (du (iM f h1)),w' (du (iM g h2)),gU,if_pos h3];decide
theorem yL (U:facts.Pairwise λa b=>a.id<b.id)(iM:∀f∈facts,0<f.id) {l:aq fz} {e:fb}:(yK S facts l e).Nodup:=
 (nv U iM).imp λ{a b} h e=>by subst e;rw[qp]at h;omega
end
def G5 (k:Nat)(π:aq Int):Qb:=⟨((k:Nat):Int),qz π⟩
noncomputable def Gs (S:fY)(facts:aq Qg):aq fH->Nat->aq Qb
 |[],_=>[]
 |R::l,k=>(yK S facts R.steps (R.hs,R.vs)).map (G5 k)++Gs S facts l (k+1)
section
variable {S:fY} {I:fb->Prop} {P:Qg->Prop} {C:gA} {loc:Loc} {s:Qe} {facts:aq Qg} {T:dc} {Ta:Nat->dc} {B:Nat->aq Int->dc×dc} {Zo:Nat->Prop} {di:bf Nat}
theorem uw {R:fH}:∀{l:aq fH} {k:Nat},Gs S facts (l++[R]) k=Gs S facts l k++(yK S facts R.steps (R.hs,R.vs)).map (G5 (k+l.length))
 |[],k=>by simp[Gs]
 | x::l,k=>by
   rw[E!,Gs,Gs,uw,p!,d',show k+1+l.length=k+(l.length+1) by omega]
theorem HL (U:tR facts)(iM:∀f∈facts,0<f.id) {l:aq fz} {e:fb}:(yK S facts l e).length<=(uP S facts l e).length+1:=by
 rw[<-d' (a:=([]:aq Int))];refine JC (yL U iM) λπ ke=>?_
 by_cases h:π=[]
 · subst h;simp
 · exact g' _ ((la U.nodup).2 ⟨h,((V0 U.nodup).1 ke).2⟩)
theorem vK {l m:aq fH}:ia S facts (l++m)=ia S facts l+ia S facts m:=by
 unfold ia;rw[H!,List.sum_append]
theorem xH (U:tR facts)(iM:∀f∈facts,0<f.id):∀{l:aq fH} {k:Nat},(Gs S facts l k).length<=ia S facts l+l.length
 |[],k=>by simp[Gs]
 | R::l,k=>by
   have h1:=xH U iM (l:=l) (k:=k+1);have h2:=HL (S:=S) U iM (l:=R.steps) (e:=(R.hs,R.vs));have h3:ia S facts (R::l)=(uP S facts R.steps (R.hs,R.vs)).length+ia S facts l:=rfl;rw[Gs,m',c',d'];omega
theorem Qdz {ρ:aq Int} {i:Int}:qz (ρ++[i])=if 0<i then qz ρ++[i]else qz ρ:=by
 unfold qz;rw[List.filter_append];by_cases hi:0<i;· rw[if_pos hi,w' (du hi)];rfl
 · rw[if_neg hi,B' (du hi)];simp
theorem vi {π:aq Int}:(qz π).length<=π.length:=x! _ _
theorem Xu (h:Inv S C T Ta B Zo di loc s):∀(n:Nat)(π:aq Int)(p r N:Nat)(Q:aq Int->Prop),π.length=n->n<N->n<=1000->loc p=some (r,π)->Q (qz π)->Uz N (some p) s Q:=by
 intro n;induction n with
 | zero=>
   intro π p r N Q hn hN _ hp U;obtain⟨N,rfl⟩:∃M,N=M+1:=⟨N-1,au⟩
   obtain rfl:=u!.1 hn;obtain⟨R,x,a1,a2,_,a3⟩:=h.gPart hp;show I' N (Uz N) (some p) s Q;refine Qo rfl (Qo a2 (kE (by rw[(a3.top rfl).1];rfl) ?_));exact U
 | succ n ih=>
   intro π p r N Q hn hN TE hp U;obtain⟨N,rfl⟩:∃M,N=M+1:=⟨N-1,au⟩
   rcases h! π with e|⟨ρ,i,e⟩
   · subst e;cases hn
   ·have e:π=ρ++[i]:=by simpa using e
    subst e;have TW:ρ.length=n:=by simpa using hn
    obtain⟨R,x,a1,a2,_,a3⟩:=h.gPart hp;obtain⟨b1,q,b2,b3⟩:=a3.up ρ i rfl;show I' N (Uz N) (some p) s Q;refine Qo rfl (Qo a2 (B9 (by rw[b2];rfl) (Qo rfl (Qo a2 (gV ?_)))));rw[b2];refine ih ρ q r N _ TW au au b3 ?_;refine mT λkj Fi=>?_;refine Qo rfl (Qo a2 (jj (λhb=>?_) (λhb=>?_)))
    ·have hi:0<i:=by have:=of_decide_eq_true hb;rw[b1]at this;exact this
     refine Qo rfl (Qo a2 (gY ?_ ?_))
     ·have:=vi (π:=ρ);simp only[d',E'];omega
     ·subst Fi;rw[Qdz,if_pos hi]at U;rw[b1];exact U
    ·have hi:¬0<i:=by have:=of_decide_eq_false hb;rw[b1]at this;exact this
     subst Fi;rw[Qdz,if_neg hi]at U;exact U
theorem a1k (h:Inv S C T Ta B Zo di loc s) {π:aq Int} {p r N:Nat} {Q:aq Int->Prop} (hN:1000<N)(TE:π.length<=1000)(hp:loc p=some (r,π))(U:Q (qz π)):Q86 N p s Q:=by
 obtain⟨R,x,a1,a2,_,a3⟩:=h.gPart hp;refine Qo a2 ?_;rcases h! π with e|⟨ρ,i,e⟩
 ·subst e;refine kE (by rw[(a3.top rfl).1];rfl) ?_;exact U
 ·have e:π=ρ++[i]:=by simpa using e
  subst e;obtain⟨b1,q,b2,b3⟩:=a3.up ρ i rfl;have hl:ρ.length+1<=1000:=by simpa using TE
  refine B9 (by rw[b2];rfl) (gV ?_);rw[b2];refine Xu h _ ρ q r N _ rfl au au b3 ?_;refine mT λkj Fi=>?_;refine jj (λhb=>?_) (λhb=>?_)
  ·have hi:0<i:=by have:=of_decide_eq_true hb;rw[b1]at this;exact this
   refine gY ?_ ?_
   ·have:=vi (π:=ρ);simp only[d',E'];omega
   ·subst Fi;rw[Qdz,if_pos hi]at U;rw[b1];exact U
  ·have hi:¬0<i:=by have:=of_decide_eq_false hb;rw[b1]at this;exact this
   subst Fi;rw[Qdz,if_neg hi]at U;exact U
def I7 (loc:Loc)(y:Nat):aq Int:=((loc y).getD (0,[])).2
theorem Kw {N:Nat} {Q:aq Qb->Prop} (hN:B0+4000000<=N)(hG:tN S I P C)(h:rU S P C facts loc s)(hQ:Q (Gs S facts C.rows 0)):Q6M N C.g s Q:=by
 have iM:∀f∈facts,0<f.id:=λf hf=>by have:=(h.fr f hf).2;omega
 have hn:=h.ris.nodup;obtain⟨x,ZX,_,_,IP,_⟩:=h.inv.gNet;have H5:x.rows.length=C.rows.length:=by rw[IP,c']
 have TR:=hG.rows;refine tB hG h ?_;refine B9 rfl ?_;refine mT λkj Fi=>?_;refine Qo ZX ?_;refine z7 (λ(u,l)=>u<=C.rows.length/\l=Gs S facts (C.rows.take u) 0) (λ(u,_)=>C.rows.length-u) ?_ N (0,[]) ⟨r! _,by simp[Gs]⟩ (by dsimp only;omega);rintro⟨u,l⟩ ag ⟨hu,hl⟩ gQ;dsimp only at hu hl gQ⊢;refine jj (λhb=>?_) (λhb=>?_)
 ·have cj:u<C.rows.length:=by have:=of_decide_eq_true hb;omega
  obtain⟨R,hR⟩:∃R,C.rows[u]? =some R:=⟨_,i' cj⟩
  have qh:=p' hR;have cx:=hG.steps R qh;refine Qo (a:=R.b) (by rw[IP,List.getElem?_map,hR];rfl) ?_;refine mT λkj2 Rn=>?_;obtain⟨y,ZY,_,_,_,_,_,hy2⟩:=h.inv.gRow hR;refine Qo ZY ?_;have TU:=HL (S:=S) h.ris iM (l:=R.steps) (e:=(R.hs,R.vs));have uN:C.rows.take (u+1)=C.rows.take u++[R]:=by rw[D!,hR];rfl
  have a3R:(uP S facts R.steps (R.hs,R.vs)).length<=4096:=by
   have h1:=h.le;rw[<-u' (u+1) C.rows,uN,vK,vK]at h1;have h2:ia S facts [R]=(uP S facts R.steps (R.hs,R.vs)).length+0:=rfl;omega
  have kB:∀z,z∈y.whole.keys↔∃π,loc z=some (u,π)/\π.length=R.steps.length:=λz=>by
   rw[hy2 z];constructor;· rintro⟨h1,_⟩;exact h1
   · exactλh1=>⟨h1,bh⟩
  have ZW:∀z,z∈y.whole.keys->loc z=some (u,I7 loc z)/\I7 loc z∈yK S facts R.steps (R.hs,R.vs):=λz U=>by
   obtain⟨π,h1,h2⟩:=(kB z).1 U;have h3:I7 loc z=π:=by unfold I7;rw[h1];rfl
   rw[h3];exact⟨h1,(V0 hn).2 ⟨h2,h.inv.sound hR _ _ _ rfl h1⟩⟩
  have wL:∀d:aq Nat,d.Nodup->(∀z∈d,z∈y.whole.keys)->(d.map (I7 loc)).Nodup:=λd hd hk=>by
   refine List.Pairwise.map _ (λa b DS e=>?_) (List.Pairwise.and_mem.1 hd);obtain⟨h1,h2,h3⟩:=DS;have q1:=(ZW a (hk a h1)).1;have q2:=(ZW b (hk b h2)).1;rw[<-e]at q2;exact h3 (h.inv.inj _ _ _ q1 q2)
  have Rh:∀d:aq Nat,d.Nodup->(∀z∈d,z∈y.whole.keys)->d.length<=4097:=λd hd hk=>by
   have h1:=JC (wL d hd hk) λz U=>by
    obtain⟨w,hw,rfl⟩:=f'.1 U;exact(ZW w (hk w hw)).2
   rw[c']at h1;omega
  refine z7 (λ(d,t)=>d.Nodup/\(∀z∈d,z∈y.whole.keys)/\t=d.map λz=>G5 u (I7 loc z)) (λ(d,_)=>4097-d.length) ?_ N (([]:aq Nat),[]) ⟨e!,(λ_ h=>by cases h),rfl⟩ (by dsimp only;omega);rintro⟨d,t⟩ ag2 ⟨F6,wi,ZL⟩ Iy;dsimp only at F6 wi ZL Iy⊢;have a3J:=Rh d F6 wi;refine T7 (λeZ=>?_) (λz U hzd=>?_)
  ·subst Rn
   have TP:(d.map (I7 loc)).Perm (yK S facts R.steps (R.hs,R.vs)):=(List.perm_ext_iff_of_nodup (wL d F6 wi) (yL h.ris iM)).2 λπ=>by
    constructor
    ·intro ke;obtain⟨w,hw,rfl⟩:=f'.1 ke;exact(ZW w (wi w hw)).2
    ·intro ke;obtain⟨h1,h2⟩:=(V0 hn).1 ke;obtain⟨w,hw⟩:=h.comp u R hR π h2;rw[k!]at hw;have h3:I7 loc w=π:=by unfold I7;rw[hw];rfl
     exact f'.2 ⟨w,eZ w ((kB w).2 ⟨π,hw,h1⟩),h3⟩
   have jb:((yK S facts R.steps (R.hs,R.vs)).map (G5 u)).Perm t:=by
    rw[ZL];have:=(TP.map (G5 u)).symm;rw[l!]at this;exact this
   have htl:t.length=d.length:=by rw[ZL,c']
   refine Qo (NR (k:=((u:Nat):Int)) au (λw hw=>?_) au jb ?_) ?_
   ·rw[ZL]at hw;obtain⟨z,U,rfl⟩:=f'.1 hw;have h1:=((V0 hn).1 (ZW z (wi z U)).2).1;have h2:=vi (π:=I7 loc z);exact⟨rfl,by show(qz _).length<_;omega⟩
   · exact List.Pairwise.map _ (λa b DS=>DS) (nv h.ris iM)
   ·have ZN:=xH (S:=S) h.ris iM (l:=C.rows.take u) (k:=0)
    have htu:ia S facts (C.rows.take u)<=4096:=by
     have h1:=h.le;rw[<-u' u C.rows,vK]at h1;omega
    have hul:(C.rows.take u).length=u:=by rw[List.length_take];omega
    refine gY (by rw[hl,c'];omega) ?_;refine gY au ?_;refine gQ (u+1,l++(yK S facts R.steps (R.hs,R.vs)).map (G5 u)) ⟨au,?_⟩ au;rw[uN,uw,hl,hul,Nat.zero_add]
  ·obtain ⟨v,hv⟩:=MS.look_iff.1 U;refine Qo hv (gV ?_);obtain⟨w1,w2⟩:=ZW z U;have w3:=((V0 hn).1 w2).1;refine a1k h.inv au au w1 ?_
   have TH:(d++[z]).Nodup:=by
    rw[M'];refine⟨F6,bh,λa ha b hb e=>?_⟩;rw[n'.1 hb]at e;exact hzd (e▸ha)
   have eO:∀w∈d++[z],w∈y.whole.keys:=λw hw=>by
    rcases t'.1 hw with hw|hw;· exact wi w hw
    · rw[n'.1 hw];exact U
   have a2D:=Rh _ TH eO;rw[m',i!]at a2D;have htl:t.length=d.length:=by rw[ZL,c']
   refine gY (by rw[i!];omega) ?_;refine Iy (d++[z],t++[G5 u (I7 loc z)]) ⟨TH,eO,?_⟩ (by dsimp only;rw[m',i!];omega);rw[ZL,H!];rfl
 ·subst Fi;have:C.rows.take u=C.rows:=S' (by have:=of_decide_eq_false hb;omega);rw[this]at hl;rw[hl];exact hQ
end
end
end Go.Proofs.YtocfkfhdcnjklaaGreatDoor
