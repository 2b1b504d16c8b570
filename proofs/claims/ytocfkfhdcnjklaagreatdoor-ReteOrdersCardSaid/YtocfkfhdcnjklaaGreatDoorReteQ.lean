import Derived.Test.YtocfkfhdcnjklaaGreatDoorReteA
open List renaming getElem?_eq_some_iff->b',length_map->c',length_cons->d',mem_map->f',mem_cons_of_mem->g',getElem?_eq_getElem->i',length_append->m',mem_singleton->n',mem_of_getElem?->p',mem_append->t',take_append_drop->u',mem_cons->v',filter_cons_of_pos->w',drop_eq_getElem_cons->y',filter_cons_of_neg->B',length_nil->C',mem_cons_self->F',nodup_append->G',take_append_of_le_length->H',take_of_length_le->I',nodup_cons->J',flatMap_cons->K',mem_append_left->L',map_congr_left->M',map_cons->N',nodup_nil->O',drop_eq_nil_of_le->P',eq_nil_or_concat->S',length_singleton->U',mem_flatMap->V',nil_append->W',map_map->X',pairwise_cons->Y',append_assoc->a!,getElem?_cons_zero->d!,length_eq_zero_iff->e!,mem_iff_getElem?->g!,pairwise_flatMap->h!,length_filter_le->i!,length_pos_iff->j!,sum_cons->l!,take_add_one->p!,cons_append->q!,flatMap_nil->r!,append_nil->t!,map_append->u!,take_zero->v!,drop_zero->w!,map_nil->y!,sum_nil->z!
open Option renaming bind_some->j',ne_none_iff_exists'->E',filter->x!,ext->B!
open Nat renaming not_lt_zero->D',le_refl->b!,zero_le->c!,lt_irrefl->k!,le_trans->o!,add_zero->A!
open Bool renaming false_and->Z',true_and->n!
namespace Go.Proofs.YtocfkfhdcnjklaaGreatDoor
section
open Go Go.RowKit Classical
section
variable {S:gO} {I:fg->Prop} {C:ic} {T:cg} {Ta:Nat->cg} {B:Nat->List Int->cg×cg} {Zo:Nat->Prop} {cq:Option Nat} {loc:Loc} {s:Qc} {D:List Int}
theorem Lr {N a b:Nat} {i t:Int} {l:List V} {s:Qc} {Q:Bool->Prop} (e:a=b)(h:OD N b i t l s Q):OD N a i t l s Q:=e▸h
theorem Cu {N M r k a:Nat} {R:gp} {sc:gh} {f:Qo} {T0:cg} {Q:Qc->Prop} (hW:pS C) (hr:C.rows[r]? =some R) (hk:R.steps[k]? =some sc) (ca:sc.st=.nt a) (hlen:R.steps.length<9223372036854775807) (cr:yT S I C T sc) (hI:∀π e,ij S T R.steps (R.hs,R.vs) π=some e->I e)
    (hN0:B0<=N) (hM:M<4398046511103) (hN:M+R.steps.length+R.steps.length+2<N) (hA:∀A∈C.als,A.args.length<N/\A.args.length<9223372036854775807/\(f.ty=A.kind->∀(j:Nat) (a:gS),A.args[j]? =some a->∃v,f.args[j]? =some v)) (hZ:∀(k:Nat) (sc:gh),R.steps[k]? =some sc->¬Zo sc.st.adr) (hf:T f.id=some f) (Oj:T0 f.id=none) (PG:∀i,i≠f.id->T0 i=T i) (VS:∀π:List Int,π.length=k->B r π=(T0,T0))
    (h:Inv S C T Ta B Zo none loc s) (hc:∀n,jl loc n->n<=M)
    (hQ:∀bg s',Inv S C T Ta (oU B r k T) Zo none bg s'->(∀y l,bg y=some l↔loc y=some l/\¬∃q ρ e,loc q=some (r,ρ)/\ρ.length=k/\ij S T R.steps (R.hs,R.vs) ρ=some e/\(S.mt sc.c e.1 e.2 f).isSome=true/\∃τ,τ≠[]/\l=(r,ρ++τ))->Q s'):Q6R N a f.id f.ty f.args s Q:=by
  have h0:=h.step r R k sc hr hk (hZ k sc hk);unfold ju at h0;rw[ca]at h0;obtain⟨x,b1,b2,b3,b4,b5,b6⟩:=h0;have rU:s a=some (.nt x):=b1;have gy:sc.st.adr=a:=by rw[ca];rfl
  have ly:k<R.steps.length:=(b'.1 hk).1;obtain⟨L,hL1,VV⟩:=h.parts_list hr hc;obtain⟨n0,T5⟩:=h.cnt;obtain⟨A,rh,Oe,VR⟩:=cr.al (λa' e'=>by rw[ca]at e';cases e')
  have Eu:∀(e:fg) (i:Int),lq S sc e T i↔lq S sc e T0 i\/(i=f.id/\(S.mt sc.c e.1 e.2 f).isSome=true):=λe i=>by
    by_cases hi:i=f.id
    · subst hi;constructor
      · rintro⟨g,g1,g2⟩;rw[hf]at g1;cases g1;exact .inr ⟨rfl,g2⟩
      · rintro(⟨g,g1,_⟩|⟨_,g2⟩);· rw[Oj]at g1;cases g1
        · exact⟨f,hf,g2⟩
    · constructor;· rintro⟨g,g1,g2⟩;exact .inl ⟨g,by rw[PG i hi];exact g1,g2⟩
      · rintro(⟨g,g1,g2⟩|⟨g1,_⟩);· exact⟨g,by rw[<-PG i hi];exact g1,g2⟩
        · exact absurd g1 hi
  obtain⟨hAn,hAl,hAf⟩:=hA A rh;refine Qk (O3 rU) ?_;refine QZ ?_;refine Lr (b2.trans Oe.symm) (Ls (h.al A rh) hAn hAl hAf ?_)
  refine jA (λhb=>?_) (λhb=>?_)
  · have ou:∀e:fg,(S.mt sc.c e.1 e.2 f).isSome=false:=λe=>by
      cases U:S.mt sc.c e.1 e.2 f with
      |none=>rfl
      |some p=>have:=VR f e p U;rw[this]at hb;simp at hb
    refine hQ loc s (h.congrK λp r' π R' z di a' hp cz hx he q1 q2 i=>?_) λy l=>⟨λhy=>⟨hy,λ⟨q,ρ,e,_,_,_,e4,_⟩=>by rw[ou]at e4;cases e4⟩,λhy=>hy.1⟩
    unfold oU;by_cases U:r'=r/\π.length=k
    · rw[if_pos U];obtain⟨rfl,U⟩:=U;rw[hr]at cz;cases cz;rw[U,hk]at q1;cases q1;rw[VS π U];have:=Eu (z.has,z.vals) i;rw[ou]at this;have key:lq S sc (z.has,z.vals) T i↔lq S sc (z.has,z.vals) T0 i:=by rw[this];simp
      exact⟨key,key.1⟩
    · rw[if_neg U];exact⟨Iff.rfl,λh=>h⟩
  · let Bd:List Nat->Nat->List Int->cg×cg:=λd r' gL=>if r'=r/\∃q∈d,loc q=some (r,gL)then(T,T)else B r' gL
    refine yX (λ(b,m,d,σ)=>b=x.partsA/\m=x.parts/\d.Nodup/\(∀q∈d,q∈x.parts.keys)/\∃bg,Inv S C T Ta (Bd d) Zo none bg σ/\Frame s σ R (k+1)/\∀y l,bg y=some l↔loc y=some l/\¬∃q∈d,∃ρ e,loc q=some (r,ρ)/\ρ.length=k/\ij S T R.steps (R.hs,R.vs) ρ=some e/\(S.mt sc.c e.1 e.2 f).isSome=true/\∃τ,τ≠[]/\l=(r,ρ++τ)) (λ(_,_,d,_)=>M+1-d.length) ?_ N _ ⟨rfl,rfl,O',(λq hq=>by cases hq),loc,h.congrB (λp r' gL _=>if_neg λ⟨_,q,hq,_⟩=>by cases hq),(λ_ _ _ _=>rfl),λy l=>⟨λhy=>⟨hy,λ⟨q,hq,_⟩=>by cases hq⟩,λhy=>hy.1⟩⟩ (by show M+1-0<N;omega);rintro⟨b,m,d,σ⟩ ag ⟨rfl,rfl,lS,om,dc,kJ,DS,kr⟩ gH;dsimp only at lS om gH⊢;have mS:σ a=some (.nt x):=by rw[<-gy,DS k sc an hk,gy];exact rU
    refine Qk (O3 mS) ?_;refine iE ⟨rfl,rfl⟩ ?_;refine Sz (λfe=>?_) λq hq GL=>?_
    · refine hQ dc σ (kJ.congrB λp r' gL hp=>?_) λy l=>?_
      · have sR:=((kr p _).1 hp).1;show oU B r k T r' gL=if _ then _ else _
        unfold oU;by_cases U:r'=r/\gL.length=k
        · rw[if_pos U];obtain⟨rfl,U⟩:=U;rw[if_pos ⟨rfl,p,fe p ((b6 p).2 ⟨⟨gL,sR,U⟩,ax⟩),sR⟩]
        · rw[if_neg U];split
          · rename_i h2;obtain⟨rfl,q,hq,BU⟩:=h2;obtain⟨⟨ρ,e1,e2⟩,_⟩:=(b6 q).1 (om q hq);rw[e1]at BU;cases BU;exact absurd ⟨rfl,e2⟩ U
          · rfl
      · rw[kr];constructor
        · rintro⟨e1,e2⟩;refine⟨e1,λ⟨q,ρ,e,e3,e4,e5⟩=>e2 ⟨q,fe q ((b6 q).2 ⟨⟨ρ,e3,e4⟩,ax⟩),ρ,e,e3,e4,e5⟩⟩
        · rintro⟨e1,e2⟩;exact⟨e1,λ⟨q,_,ρ,e,e3⟩=>e2 ⟨q,ρ,e,e3⟩⟩
    · obtain ⟨⟨ρ,iY,jh⟩,_⟩:=(b6 q).1 hq
      have Iu:dc q=some (r,ρ):=(kr q _).2 ⟨iY,λ⟨q',_,ck,_,_,e4,_,_,τ,e5,e6⟩=>by
        have:=congrArg (λz:Nat×List Int=>z.2.length) e6;have:=j!.2 e5;simp only[m']at*;omega⟩
      obtain⟨v,hv⟩:=ZP hq;refine Qk hv ?_;obtain⟨R',z,r1,r2,r3,r4⟩:=kJ.gPart Iu;rw[hr]at r1;cases r1;have qf:=r4.env;have hIe:=hI _ _ qf;refine Qk r2 ?_;obtain⟨ha,hw,d1,d2⟩:=cr.mt (λa' e'=>by rw[ca]at e';cases e') N hN0 f hf _ hIe;refine Qk (a:=(ha,hw,(S.mt sc.c (z.has,z.vals).1 (z.has,z.vals).2 f).isSome)) (by rw[b5];exact d1) ?_;obtain⟨bb,m,m1,m2,m3⟩:=r4.blocks ax sc a (by rw[jh];exact hk) ca
      have VU:Bd d r ρ=(T0,T0):=by
        show(if _ then _ else _)=_;rw[if_neg];· exact VS ρ jh
        · rintro⟨_,q',ef,BU⟩;exact GL (by rw[h.inj _ _ _ iY BU];exact ef)
      rw[VU]at m2;dsimp only at m2
      have PM:d.length<M+1:=by
        have:=JV (l:=L) (J'.2 ⟨GL,lS⟩) λw hw=>by
          have:w∈x.parts.keys:=by
            rcases v'.1 hw with rfl|hw;· exact hq
            · exact om w hw
          obtain⟨⟨π,e1,_⟩,_⟩:=(b6 w).1 this;exact VV w π e1
        simp only[d']at this;omega
      have F4:(d++[q]).Nodup:=G'.2 ⟨lS,ax,λy hy w hw e1=>GL (by simp at hw;rw[<-hw,<-e1];exact hy)⟩
      have F3:∀w∈d++[q],w∈x.parts.keys:=λw hw=>by
        rcases t'.1 hw with hw|hw;· exact om w hw
        · rw[n'.1 hw];exact hq
      have um:Bd (d++[q]) r ρ=(T,T):=if_pos ⟨rfl,q,ax,iY⟩
      have BI:∀r' gL,(r',gL)≠(r,ρ)->Bd (d++[q]) r' gL=Bd d r' gL:=λr' gL de=>by
        show(if _ then _ else _)=(if _ then _ else _)
        by_cases U:r'=r/\∃q'∈d,loc q'=some (r,gL);· rw[if_pos U,if_pos ⟨U.1,U.2.choose,L' _ U.2.choose_spec.1,U.2.choose_spec.2⟩]
        · rw[if_neg U,if_neg];rintro⟨rfl,q',ef,BU⟩;rcases t'.1 ef with ef|ef;· exact U ⟨rfl,q',ef,BU⟩
          · rw[n'.1 ef,iY]at BU;cases BU;exact de rfl
      have hmu:M+1-(d++[q]).length<M+1-d.length:=by simp only[m',d',C'];omega
      have uo:a≠q:=λe1=>by rw[e1,r3]at mS;cases mS
      refine jA (λJv=>?_) (λJv=>?_)
      · refine Qk m1 ?_;refine nG ?_;refine Qk (a:=x) (by rw[ET uo];exact O3 mS) ?_;refine QZ ?_;rw[b3];let B1:Nat->List Int->cg×cg:=λr' gL=>if(r',gL)=(r,ρ)then(T,T0)else Bd d r' gL
        have VT:B1 r ρ=(T,T0):=if_pos rfl
        have zJ:Inv S C T Ta B1 Zo none dc (cu σ q (.part {z with blocks:=some (bb,m.put f.id true)})):=kJ.setBlocks hr Iu r3 (λr' gL de=>if_neg de) (λ_ di a' q1 q2=>by
          rw[jh,hk]at q1;cases q1;refine⟨bb,m.put f.id true,rfl,λi=>?_,λi v hv=>?_⟩
          · rw[MS.keys_put,m2,VT];refine Iff.trans ?_ (Eu _ _).symm;constructor
            · rintro(e|e);· exact .inr ⟨e,Jv⟩
              · exact .inl e
            · rintro(e|e);· exact .inr e
              · exact .inl e.1
          · rw[MS.look_put]at hv;split at hv;· cases hv;rfl
            · exact m3 i v hv) (λdi a' q1 q2 q3 i hi=>by
          have:=r4.free di a' q1 q2 q3 i;rw[VU]at this;rw[VT]at hi;exact this hi)
        have Jw:∀n,jl dc n->n<=M:=λn hn=>o! (hn.mono T5 λy l hy=>((kr y l).1 hy).1) (hc _ T5);refine Kv hW hr hlen an hZ (R.steps.length-k) k an N an dc _ q ρ _ zJ Jw Iu jh λff s2 kF a0L BO=>?_;refine gH _ ⟨rfl,rfl,F4,F3,ff,kF.congrB2 λp r' gL hp=>?_,λk' di e1 e2=>?_,λy l=>?_⟩ hmu
        · by_cases U:(r',gL)=(r,ρ)
          · cases U;exact .inr ⟨by rw[um,VT],λy i hy=>((a0L y _).1 hy).2 ⟨[i],ax,rfl⟩⟩
          · left;rw[BI _ _ U];exact(if_neg U).symm
        · show s2 di.st.adr=s di.st.adr;rw[BO k' di e1 e2,QG,DS k' di e1 e2];intro e3;have h1:=kJ.step r R k' di hr e2 (hZ _ _ e2);unfold ju at h1;split at h1;· obtain⟨w,f1,_⟩:=h1;rw[e3,r3]at f1;cases f1
          · obtain⟨w,f1,_⟩:=h1;rw[e3,r3]at f1;cases f1
          · obtain⟨w,f1,_⟩:=h1;rw[e3,r3]at f1;cases f1
        · rw[a0L,kr];constructor
          · rintro⟨⟨e1,e2⟩,e3⟩;refine⟨e1,λ⟨q',ef,ck,e,e4,e5,e6,e7,τ,e8,e9⟩=>?_⟩;rcases t'.1 ef with ef|ef;· exact e2 ⟨q',ef,ck,e,e4,e5,e6,e7,τ,e8,e9⟩
            · rw[n'.1 ef,iY]at e4;cases e4;exact e3 ⟨τ,e8,e9⟩
          · rintro⟨e1,e2⟩;exact⟨⟨e1,λ⟨q',ef,U⟩=>e2 ⟨q',L' _ ef,U⟩⟩,λ⟨τ,e8,e9⟩=>e2 ⟨q,ax,ρ,_,iY,jh,qf,Jv,τ,e8,e9⟩⟩
      · refine gH _ ⟨rfl,rfl,F4,F3,dc,kJ.congrK λp r' gL R' z' di a' hp cz hx he q1 q2 i=>?_,DS,λy l=>?_⟩ hmu
        · by_cases U:(r',gL)=(r,ρ)
          · cases U;rw[hr]at cz;cases cz;rw[qf]at he;have GI:=Option.some.inj he;rw[jh,hk]at q1;cases q1;rw[um,VU,<-GI]
            have key:lq S sc (z.has,z.vals) T i↔lq S sc (z.has,z.vals) T0 i:=by
              rw[Eu];constructor
              · rintro(e|e);· exact e
                · rw[e.2]at Jv;cases Jv
              · exact .inl
            exact⟨key,key.1⟩
          · rw[BI _ _ U];exact⟨Iff.rfl,λh=>h⟩
        · rw[kr];constructor
          · rintro⟨e1,e2⟩;refine⟨e1,λ⟨q',ef,ck,e,e4,e5,e6,e7,e8⟩=>?_⟩;rcases t'.1 ef with ef|ef;· exact e2 ⟨q',ef,ck,e,e4,e5,e6,e7,e8⟩
            · rw[n'.1 ef,iY]at e4;cases e4;rw[qf]at e6;cases e6;rw[e7]at Jv;cases Jv
          · rintro⟨e1,e2⟩;exact⟨e1,λ⟨q',ef,U⟩=>e2 ⟨q',L' _ ef,U⟩⟩
end
end
section
open Go Go.RowKit Classical
section
variable {S:gO} {I:fg->Prop} {C:ic} {T:cg} {Ta:Nat->cg} {B:Nat->List Int->cg×cg} {Zo:Nat->Prop} {cq:Option Nat} {loc:Loc} {s:Qc} {D:List Int}
theorem Ci {N M r k a:Nat} {R:gp} {sc:gh} {f:Qo} {Q:Qc->Prop} (hW:pS C) (hT:jC T D) (hD:D.length<=3518437208882) (hr:C.rows[r]? =some R) (hk:R.steps[k]? =some sc) (ca:sc.st=.join a) (hlen:R.steps.length<9223372036854775807) (cr:∀sc∈R.steps,yT S I C T sc) (hI:∀π e,ij S T R.steps (R.hs,R.vs) π=some e->I e)
  (hN:B0+D.length+R.steps.length+2<N) (hMN:M+2<N) (hA:∀A∈C.als,A.args.length<N/\A.args.length<9223372036854775807/\(f.ty=A.kind->∀(j:Nat) (a:gS),A.args[j]? =some a->∃v,f.args[j]? =some v)) (hZ:∀(k:Nat) (sc:gh),R.steps[k]? =some sc->¬Zo sc.st.adr) (hf:T f.id=some f) (Yx:∀π:List Int,k<π.length->B r π=(T,T))
  (h:Inv S C T (λ_=>T) B Zo none loc s) (hc:∀n,jl loc n->n<=M) (ou:∀y ρ,ρ.length=k->loc y≠some (r,ρ++[f.id]))
  (hQ:∀bg s',Inv S C T (λ_=>T) B Zo none bg s'->lZ loc bg->(∀y l,bg y=some l->loc y=none->∃q ρ τ,loc q=some (r,ρ)/\ρ.length=k/\l=(r,ρ++[f.id]++τ))->(rN bg->∀q ρ e U,loc q=some (r,ρ)->ρ.length=k->ij S T R.steps (R.hs,R.vs) ρ=some e->S.mt sc.c e.1 e.2 f=some U->jU S T bg r (ρ++[f.id]) (R.steps.drop (k+1)) U)->Q s'):Q6P N a f.id f.ty f.args s Q:=by
 have Ir:=cr sc (p' hk);have h0:=h.step r R k sc hr hk (hZ k sc hk);unfold ju at h0;rw[ca]at h0;obtain⟨x,b1,b2,b3,b4,b5,b6⟩:=h0;have rU:s a=some (.join x):=b1;have ly:k<R.steps.length:=(b'.1 hk).1;obtain⟨L,hL1,VV⟩:=h.parts_list hr hc;obtain⟨A,rh,Oe,VR⟩:=Ir.al (λa' U=>by rw[ca]at U;cases U);obtain⟨hAn,hAl,hAf⟩:=hA A rh;refine Qk (U8 rU) ?_;refine QZ ?_;refine Lr (b2.trans Oe.symm) (Ls (h.al A rh) hAn hAl hAf ?_)
 refine jA (λhb=>?_) (λhb=>?_)
 ·refine hQ loc s h (lZ.refl _) (λy l h1 h2=>by rw[h1]at h2;cases h2) λ_ q ρ e U _ _ _ e4=>?_;have:=VR f e U e4;rw[this]at hb;cases hb
 ·refine yX (λ(d,σ)=>d.Nodup/\(∀q∈d,q∈x.parts.keys)/\∃bg,Inv S C T (λ_=>T) B Zo none bg σ/\lZ loc bg/\(∀y l,bg y=some l->loc y=none->∃q ρ τ,q∈d/\loc q=some (r,ρ)/\ρ.length=k/\l=(r,ρ++[f.id]++τ))/\(rN bg->∀q∈d,∀ρ e U,loc q=some (r,ρ)->ij S T R.steps (R.hs,R.vs) ρ=some e->S.mt sc.c e.1 e.2 f=some U->jU S T bg r (ρ++[f.id]) (R.steps.drop (k+1)) U)) (λ(d,_)=>M+1-d.length) ?_ N ([],s) ⟨O',(λq hq=>by cases hq),loc,h,lZ.refl _,(λy l h1 h2=>by rw[h1]at h2;cases h2),λ_ q hq=>by cases hq⟩ (by show M+1-0<N;omega);rintro⟨d,σ⟩ ag ⟨lS,om,dc,kJ,AN,DT,EZ⟩ gH;dsimp only at lS om gH⊢;refine Sz (λfe=>?_) λq hq GL=>?_
  ·refine hQ dc σ kJ AN (λy l h1 h2=>?_) λiF q ρ e U hq Th=>EZ iF q (fe q ((b6 q).2 ⟨⟨ρ,hq,Th⟩,ax⟩)) ρ e U hq;obtain⟨q,ρ,τ,_,e2⟩:=DT y l h1 h2;exact⟨q,ρ,τ,e2⟩
  ·obtain ⟨⟨ρ,iY,jh⟩,_⟩:=(b6 q).1 hq;have Iu:=AN _ _ iY;obtain⟨v,hv⟩:=ZP hq;refine Qk hv ?_;obtain⟨R',z,r1,r2,r3,r4⟩:=kJ.gPart Iu;rw[hr]at r1;cases r1;have qf:=r4.env
   have PM:d.length<M+1:=by
    have:=JV (l:=L) (J'.2 ⟨GL,lS⟩) λw hw=>by
      have:w∈x.parts.keys:=by
        rcases v'.1 hw with rfl|hw;· exact hq
        · exact om w hw
      obtain⟨⟨π,e1,_⟩,_⟩:=(b6 w).1 this;exact VV w π e1
    simp only[d']at this;omega
   have F4:(d++[q]).Nodup:=G'.2 ⟨lS,ax,λy hy w hw e1=>GL (by simp at hw;rw[<-hw,<-e1];exact hy)⟩
   have F3:∀w∈d++[q],w∈x.parts.keys:=λw hw=>by
    rcases t'.1 hw with hw|hw;· exact om w hw
    · rw[n'.1 hw];exact hq
   refine QZ ?_;show Zt N (Ja N) a q f.id f.ty f.args σ _;refine Tm hW hlen an hr hk ca Ir (Rr (S:=S) (I:=I) (B:=B) hW hlen hT hD hr cr (R.steps.length-(k+1)) (k+1) an (λgL a1g=>Yx gL an) N an) kJ Iu jh qf (hI _ _ qf) hf (λy hy=>?_) (λk' di _ hs=>hZ k' di hs) λff s2 kF jx oq vT=>?_
   ·cases hl:loc y with
    |some l=>have:=AN _ _ hl;rw[hy]at this;cases this;exact ou y ρ jh hl
    | none=>
      obtain⟨q',ck,τ,e0,e1,e2,e3⟩:=DT y _ hy hl;simp only[Prod.mk.injEq,true_and]at e3
      have h5:ρ=ck:=by
        have:=congrArg (List.take k) e3;rw[H' an,a!,H' an,I' an,I' an]at this;exact this
      rw[<-h5]at e1;exact GL (by rw[h.inj _ _ _ iY e1];exact e0)
   ·refine gH (d++[q],s2) ⟨F4,F3,ff,kF,AN.trans jx,λy l h1 h2=>?_,λiF q' ef ck e U e1 e2 e3=>?_⟩ (by show M+1-(d++[q]).length<M+1-d.length;simp only[m',d',C'];omega)
    · cases hy:dc y with
      | some l'=>
        have:=jx _ _ hy;rw[h1]at this;cases this;obtain⟨q',ck,τ,e0,e1⟩:=DT y l hy h2;exact⟨q',ck,τ,L' _ e0,e1⟩
      | none=>
        obtain⟨τ,e1⟩:=oq y l h1 hy;exact⟨q,ρ,τ,ax,iY,jh,e1⟩
    · rcases t'.1 ef with ef|ef;· exact(EZ (ZV kJ.cnt jx iF kF.cnt) q' ef ck e U e1 e2 e3).mono jx
      · rw[n'.1 ef,iY]at e1;cases e1;rw[qf]at e2;cases e2;exact vT iF U e3
end
end
section
open Go Go.RowKit Classical
section
variable {S:gO} {I:fg->Prop} {C:ic} {T:cg} {Ta:Nat->cg} {B:Nat->List Int->cg×cg} {Zo:Nat->Prop} {cq:Option Nat} {loc:Loc} {s:Qc} {D:List Int}
theorem Inv.congrTa {Tb:Nat->cg} (h:Inv S C T Ta B Zo cq loc s)(hg:Tb C.g=Ta C.g)(ha:∀A∈C.als,Tb A.b=Ta A.b):Inv S C T Tb B Zo cq loc s:=by
 refine⟨?_,h.row,h.step,λA U=>by rw[ha A U];exact h.al A U,h.part,h.inj,h.root,h.le⟩;obtain⟨x,a1,a2,a3,a4,a5,a6,a7,a8,n,a9,js⟩:=h.net;exact⟨x,a1,a2,a3,a4,a5,a6,a7,by rw[hg];exact a8,n,a9,js⟩
theorem Inv.setNet {Tb:cg} {x:gT} {fm:MS Int Qo} (h:Inv S C T Ta B Zo cq loc s)(hx:s C.g=some (.net x))(hn:fm.keys.Nodup)(hl:∀i,fm.look i=Tb i):Inv S C T (λb=>if b=C.g then Tb else Ta b) B Zo cq loc (cu s C.g (.net {x with facts:=fm})):=by
 have ne:∀b o',s b=some o'->(∀z,o'≠.net z)->cu s C.g (.net {x with facts:=fm}) b=some o':=λb o' hb c1=>by
  rw[QG (λe=>by rw[e,hx]at hb;cases hb;exact c1 _ rfl)];exact hb
 refine⟨?_,?_,?_,?_,?_,h.inj,h.root,h.le⟩
 ·obtain⟨y,U,a2,a3,a4,a5,a6,a7,a8,n,a9,js⟩:=h.net;rw[hx]at U;cases U;exact⟨_,kf _ _ _,a2,a3,a4,a5,a6,a7,⟨hn,λi=>by rw[hl];show Tb i=(if C.g=C.g then Tb else Ta C.g) i;rw[if_pos rfl]⟩,n,a9,js⟩
 ·intro r' R' cz;obtain⟨y,U,a2⟩:=h.row r' R' cz;exact⟨y,ne _ _ U (λ_ e=>by cases e),a2⟩
 ·intro r' R' k' di cz ec zL;have h1:=h.step r' R' k' di cz ec zL;unfold ju at h1⊢;split at h1;· obtain⟨y,c1,c2⟩:=h1;exact⟨y,ne _ _ c1 (λ_ e=>by cases e),c2⟩
  · obtain⟨y,c1,c2⟩:=h1;exact⟨y,ne _ _ c1 (λ_ e=>by cases e),c2⟩
  · obtain⟨y,c1,c2⟩:=h1;exact⟨y,ne _ _ c1 (λ_ e=>by cases e),c2⟩
 ·intro A hA;obtain⟨y,U,a2⟩:=h.al A hA;refine⟨y,ne _ _ U (λ_ e=>by cases e),?_⟩;show _/\_/\_/\∀i,y.facts.look i=((if A.b=C.g then Tb else Ta A.b) i).filter (hasB A);rw[if_neg (λe=>by rw[e,hx]at U;cases U)];exact a2
 ·intro q r' ρ hl;obtain⟨R',y,U,a2,a3⟩:=h.part q r' ρ hl;exact⟨R',y,U,ne _ _ a2 (λ_ e=>by cases e),a3⟩
theorem Inv.setAlpha {Tb:cg} {A:JI} {x:O7} {fm:MS Int Qo} (h:Inv S C T Ta B Zo cq loc s)(hA:A∈C.als)(hx:s A.b=some (.alpha x))(hn:fm.keys.Nodup)(hl:∀i,fm.look i=(Tb i).filter (hasB A)):Inv S C T (λb=>if b=A.b then Tb else Ta b) B Zo cq loc (cu s A.b (.alpha {x with facts:=fm})):=by
 have ne:∀b o',s b=some o'->(∀z,o'≠.alpha z)->cu s A.b (.alpha {x with facts:=fm}) b=some o':=λb o' hb c1=>by
  rw[QG (λe=>by rw[e,hx]at hb;cases hb;exact c1 _ rfl)];exact hb
 refine⟨?_,?_,?_,?_,?_,h.inj,h.root,h.le⟩
 ·obtain⟨y,U,a2,a3,a4,a5,a6,a7,a8,n,a9,js⟩:=h.net;refine⟨y,ne _ _ U (λ_ e=>by cases e),a2,a3,a4,a5,a6,a7,?_,n,a9,js⟩;show _/\∀i,y.facts.look i=(if C.g=A.b then Tb else Ta C.g) i;rw[if_neg (λe=>by rw[e,hx]at U;cases U)];exact a8
 ·intro r' R' cz;obtain⟨y,U,a2⟩:=h.row r' R' cz;exact⟨y,ne _ _ U (λ_ e=>by cases e),a2⟩
 ·intro r' R' k' di cz ec zL;have h1:=h.step r' R' k' di cz ec zL;unfold ju at h1⊢;split at h1;· obtain⟨y,c1,c2⟩:=h1;exact⟨y,ne _ _ c1 (λ_ e=>by cases e),c2⟩
  · obtain⟨y,c1,c2⟩:=h1;exact⟨y,ne _ _ c1 (λ_ e=>by cases e),c2⟩
  · obtain⟨y,c1,c2⟩:=h1;exact⟨y,ne _ _ c1 (λ_ e=>by cases e),c2⟩
 ·intro A' wq;obtain⟨y,U,a2,a3,a4,a5⟩:=h.al A' wq;obtain⟨x',b1,b2,b3,_⟩:=h.al A hA;rw[hx]at b1;cases b1;by_cases e:A'.b=A.b
  ·rw [e,hx]at U;cases U;refine⟨{x with facts:=fm},(by rw[e,kf]),a2,a3,hn,λi=>?_⟩;show fm.look i=((if A'.b=A.b then Tb else Ta A'.b) i).filter (hasB A');rw[if_pos e,hl]
   have:hasB A'=hasB A:=by
    funext f;unfold hasB;rw[<-a2,<-a3,<-b2,<-b3]
   rw[this]
  ·refine⟨y,(by rw[QG e];exact U),a2,a3,a4,?_⟩;show∀i,y.facts.look i=((if A'.b=A.b then Tb else Ta A'.b) i).filter (hasB A');rw[if_neg e];exact a5
 ·intro q r' ρ hl;obtain⟨R',y,U,a2,a3⟩:=h.part q r' ρ hl;exact⟨R',y,U,ne _ _ a2 (λ_ e=>by cases e),a3⟩
end
end
section
open Go Go.RowKit Classical
section
variable {S:gO} {I:fg->Prop} {C:ic} {T T':cg} {Ta:Nat->cg} {B:Nat->List Int->cg×cg} {Zo:Nat->Prop} {cq:Option Nat} {loc:Loc} {s:Qc} {D:List Int}
variable {sc:gh}{e e':fg}{i:Int}
def zj (T T':cg):Prop:=∀i f,T i=some f->T' i=some f
theorem Mn (hs:zj T T')(h:iI S T sc e i=some e'):iI S T' sc e i=some e':=by
 unfold iI at h⊢;split at h
 ·cases hT:T i with
  |none=>rw[hT]at h;cases h
  |some f=>rw[hT]at h;rw[hs i f hT];exact h
 · exact h
 · exact h
theorem u5 (hs:zj T T'):∀{π:List Int} {l:List gh} {e e':fg},ij S T l e π=some e'->ij S T' l e π=some e'
 |[],l,e,e',h=>by cases l<;>exact h
 |i::π,[],e,e',h=>by cases h
 | i ::π,sc::l,e,e',h=>by
   simp only[ij]at h⊢;cases h1:iI S T sc e i with
   |none=>rw[h1]at h;cases h
   | some U=>
     rw[h1]at h;rw[Mn hs h1];exact u5 hs h
theorem Bv {id:Int} (hd:∀i,i≠id->T' i=T i):∀{π:List Int} {l:List gh} {e:fg},id∉π->ij S T' l e π=ij S T l e π
 |[],l,e,_=>by cases l<;>rfl
 |i::π,[],e,_=>rfl
 | i::π,sc::l,e,h=>by
   have hi:i≠id:=λU=>h (by rw[U];simp);have kK:id∉π:=λU=>h (g' _ U)
   have h1:iI S T' sc e i=iI S T sc e i:=by
    unfold iI;split;· rw[hd i hi]
    · rfl
    · rfl
   simp only[ij,h1];cases iI S T sc e i with
   |none=>rfl
   |some U=>exact Bv hd kK
theorem Inv.congrT (h:Inv S C T Ta B Zo cq loc s)(hT:∀p r π R e,loc p=some (r,π)->C.rows[r]? =some R->ij S T R.steps (R.hs,R.vs) π=some e->ij S T' R.steps (R.hs,R.vs) π=some e):Inv S C T' Ta B Zo cq loc s:=by
 refine⟨h.net,h.row,h.step,h.al,λp r π hp=>?_,h.inj,h.root,h.le⟩;obtain⟨R,x,U,a2,a3⟩:=h.part p r π hp;exact⟨R,x,U,a2,⟨hT p r π R _ hp U a3.env,a3.top,a3.up,a3.kids,a3.blocks,a3.free,a3.kn⟩⟩
theorem WR (cr:yT S I C T sc)(hD:jC T D)(hI:I e)(h:iI S T sc e i=some e'):I e':=by
 unfold iI at h;cases ca:sc.st with
 | join a=>
   rw[ca]at h;simp only at h;cases hT:T i with
   |none=>rw[hT]at h;cases h
   | some f=>
     rw[hT]at h;obtain⟨_,_,_,h2⟩:=cr.mt (λa' U=>by rw[ca]at U;cases U) B0 (b! _) f (by rw[(hD.mem i f hT).2.1];exact hT) e hI;exact(h2 e' h).2
 | nt a=>
   rw[ca]at h;simp only at h;split at h;· cases h;exact hI
   · cases h
 | test a=>
   rw[ca]at h;simp only at h;split at h;· cases h;exact hI
   · cases h
theorem KE (hD:jC T D):∀{π:List Int} {l:List gh} {e e':fg},(∀sc∈l,yT S I C T sc)->I e->ij S T l e π=some e'->I e'
 | [],l,e,e',_,hI,h=>by
   have:e=e':=by cases l<;>exact Option.some.inj h
   rw[<-this];exact hI
 |i::π,[],e,e',_,_,h=>by cases h
 | i ::π,sc::l,e,e',U,hI,h=>by
   simp only[ij]at h;cases h1:iI S T sc e i with
   |none=>rw[h1]at h;cases h
   | some e1=>
     rw[h1]at h;exact KE hD (λdi h'=>U di (g' _ h')) (WR (U sc ax) hD hI h1) h
def yM (S:gO)(C:ic)(T:cg)(loc:Loc):Prop:=∀(r:Nat)(R:gp),C.rows[r]? =some R->jU S T loc r [] R.steps (R.hs,R.vs)
theorem O4:∀{π:List Int} {l:List gh} {e e':fg},im S T l e π=some e'->ij S T l e π=some e'
 |[],l,e,e',h=>by cases l<;>exact h
 |i::π,[],e,e',h=>by cases h
 | i :: π,sc::l,e,e',h=>by
   simp only[im]at h;simp only[ij];cases h1:kz S T sc e i with
   |none=>rw[h1]at h;cases h
   | some U=>
     rw[h1]at h
     have:iI S T sc e i=some U:=by
      unfold kz at h1;unfold iI;cases ca:sc.st with
      |join a=>rw[ca]at h1;exact h1
      | nt a=>
        rw[ca]at h1;simp only at h1⊢;split at h1;· rename_i hh;rw[if_pos hh.1];exact h1
        · cases h1
      |test a=>rw[ca]at h1;exact h1
     rw[this];exact O4 h
theorem Sx:∀{π U:List Int} {l:List gh} {e:fg},im S T l e (π++U)=(im S T l e π).bind λe'=>im S T (l.drop π.length) e' U
 |[],U,l,e=>by cases l<;>simp[im]
 |i::π,U,[],e=>by simp[im]
 | i::π,U,sc::l,e=>by
   simp only[q!,im,d',List.drop_succ_cons];cases kz S T sc e i with
   |none=>rfl
   |some e1=>simp only[j'];exact Sx
end
end
section
open Go Go.RowKit Classical
section
variable {S:gO} {I:fg->Prop} {C:ic} {T T':cg} {Ta:Nat->cg} {B:Nat->List Int->cg×cg} {cq:Option Nat} {loc:Loc} {s:Qc} {D:List Int}
theorem pX:∀{π:List Int} {l:List gh} {e U:fg} {k:Nat} {sc:gh} {j:Int},ij S T l e π=some U->l[k]? =some sc->(∀a,sc.st≠.join a)->π[k]? =some j->j=0
 |[],l,e,U,k,sc,j,_,_,_,h=>by simp at h
 |i::π,[],e,U,k,sc,j,h,_,_,_=>by cases h
 | i ::π,di::l,e,U,0,sc,j,h,hk,hn,hj=>by
   simp only[d!,Option.some.injEq]at hk hj;subst hk;subst hj;simp only[ij]at h;cases h1:iI S T di e i with
   |none=>rw[h1]at h;cases h
   | some e1=>
     unfold iI at h1;cases ca:di.st with
     |join a=>exact absurd ca (hn a)
     | nt a=>
       rw[ca]at h1;simp only at h1;split at h1;· assumption
       · cases h1
     | test a=>
       rw[ca]at h1;simp only at h1;split at h1;· rename_i hh;exact hh.1
       · cases h1
 | i::π,di::l,e,U,k+1,sc,j,h,hk,hn,hj=>by
   simp only[List.getElem?_cons_succ]at hk hj;simp only[ij]at h;cases h1:iI S T di e i with
   |none=>rw[h1]at h;cases h
   |some e1=>rw[h1]at h;exact pX h hk hn hj
theorem PB {N M:Nat} {id:Int} {Q:Qc->Prop} (hW:pS C)(hlen:C.rows.length<=9223372036854775806)(hsl:∀R∈C.rows,R.steps.length<9223372036854775807/\M+R.steps.length+R.steps.length+2<N)(hM:M<4398046511103)(hid:id≠0)
  (h:Inv S C T Ta B (λ_=>False) none loc s) (hc:∀n,jl loc n->n<=M) (hQ:∀bg s',Inv S C T Ta B (λ_=>False) none bg s'->(∀y l,bg y=some l↔loc y=some l/\id∉l.2)->Q s'):Gk (λst σ=>XX N st id σ) C.g s Q:=by
 obtain⟨n0,T5⟩:=h.cnt
 have gm:∀y r π,loc y=some (r,π)->∃R,C.rows[r]? =some R/\π.length<=R.steps.length:=λy r π hy=>by
  obtain⟨R,x,a1,_,a3⟩:=h.part y r π hy;exact⟨R,a1,nZ a3.env⟩
 refine zA (E:=λr σ=>∃bg,Inv S C T Ta B (λ_=>False) none bg σ/\∀y l,bg y=some l↔loc y=some l/\¬(l.1<r/\id∈l.2)) (J:=λr m σ=>∃bg,Inv S C T Ta B (λ_=>False) none bg σ/\∀y l,bg y=some l↔loc y=some l/\¬((l.1<r/\id∈l.2)\/(l.1=r/\∃k,m<=k/\l.2[k]? =some id))) hlen (λR hR=>by have:=(hsl R hR).1;omega) (λr σ ⟨_,h1,_⟩=>h1.shape) (λr m σ ⟨_,h1,_⟩=>h1.shape) (λr R σ hr ⟨dc,h1,h2⟩=>⟨dc,h1,λy l=>?_⟩) (λr R m sc σ Q' hr ⟨dc,h1,h2⟩ fj Lq=>?_) (λr σ ⟨dc,h1,h2⟩=>⟨dc,h1,λy l=>?_⟩) ⟨loc,h,λy l=>⟨λhy=>⟨hy,λhh=>absurd hh.1 (D' _)⟩,λhy=>hy.1⟩⟩ (λσ ⟨dc,h1,h2⟩=>hQ dc σ h1 λy l=>?_)
 ·rw[h2];constructor
  · rintro⟨e1,e2⟩;refine⟨e1,λU=>?_⟩;rcases U with U|⟨U,k,e4,e5⟩
    · exact e2 U
    ·obtain⟨R',q1,q2⟩:=gm y l.1 l.2 e1;rw[U,hr]at q1;cases q1;have:=(b'.1 e5).1;omega
  · rintro⟨e1,e2⟩;exact⟨e1,λU=>e2 (.inl U)⟩
 ·have qe:=p' hr;obtain⟨Fc,Fe⟩:=hsl R qe
  have uK:(∀a,sc.st≠.join a)->Q' σ:=λhn=>Lq σ ⟨dc,h1,λy l=>by
    rw[h2];constructor
    ·rintro⟨e1,e2⟩;refine⟨e1,λU=>?_⟩;rcases U with U|⟨U,k,e4,e5⟩
     · exact e2 (.inl U)
     ·by_cases hk:k=m
      ·subst hk;obtain⟨R',x,a1,_,a3⟩:=h.part y l.1 l.2 e1;rw[U,hr]at a1;cases a1;exact hid (pX a3.env fj hn e5)
      · exact e2 (.inr ⟨U,k,an,e5⟩)
    ·rintro⟨e1,e2⟩;refine⟨e1,λU=>e2 ?_⟩;rcases U with U|⟨U,k,e4,e5⟩
     · exact .inl U
     · exact .inr ⟨U,k,an,e5⟩⟩
  cases ca:sc.st with
  | join a=>
    refine lD (QZ ?_);refine Cj hW hr fj ca Fc hM Fe (λ_ _ _ hz=>hz) h1 (λn hn=>o! (hn.mono T5 λy l hy=>((h2 y l).1 hy).1) (hc _ T5)) λff s2 kF zG=>?_;refine Lq s2 ⟨ff,kF,λy l=>?_⟩;rw[zG,h2];constructor
    ·rintro⟨⟨e1,e2⟩,U⟩;refine⟨e1,λe4=>?_⟩;rcases e4 with e4|⟨e4,k,e5,e6⟩
     · exact e2 (.inl e4)
     ·by_cases hk:k=m;· subst hk;exact U ⟨e4,e6⟩
      · exact e2 (.inr ⟨e4,k,an,e6⟩)
    ·rintro⟨e1,e2⟩;refine⟨⟨e1,λU=>e2 ?_⟩,λU=>e2 (.inr ⟨U.1,m,b! _,U.2⟩)⟩;rcases U with U|⟨U,k,e4,e5⟩
     · exact .inl U
     · exact .inr ⟨U,k,an,e5⟩
  |nt a=>exact lE (uK λa' e=>by rw[ca]at e;cases e)
  |test a=>exact lF (uK λa' e=>by rw[ca]at e;cases e)
 ·rw [h2]
  have key:(l.1<r+1/\id∈l.2)↔((l.1<r/\id∈l.2)\/(l.1=r/\∃k,0<=k/\l.2[k]? =some id)):=by
    constructor
    ·rintro⟨e1,e2⟩;by_cases hh:l.1<r;· exact .inl ⟨hh,e2⟩
     ·obtain⟨k,hk⟩:=g!.1 e2;exact .inr ⟨an,k,c! _,hk⟩
    ·rintro(⟨e1,e2⟩|⟨e1,k,_,e2⟩);· exact⟨an,e2⟩
     · exact⟨an,p' e2⟩
  rw[key]
 ·rw[h2];constructor
  · rintro⟨e1,e2⟩;refine⟨e1,λU=>e2 ⟨?_,U⟩⟩;obtain⟨R,q1,_⟩:=gm y l.1 l.2 e1;exact(b'.1 q1).1
  · rintro⟨e1,e2⟩;exact⟨e1,λU=>e2 U.2⟩
end
end
section
open Go Go.RowKit Classical
section
variable {S:gO} {I:fg->Prop} {C:ic} {T T0:cg} {Ta:Nat->cg} {B:Nat->List Int->cg×cg} {cq:Option Nat} {loc:Loc} {s:Qc} {D:List Int}
def JK (S:gO)(T T0:cg)(id:Int)(R:gp)(π:List Int)(k:Nat):Prop:=k<π.length/\∃sc a e,R.steps[k]? =some sc/\sc.st=.nt a/\ij S T R.steps (R.hs,R.vs) (π.take k)=some e/\lq S sc e T0 id
noncomputable def bE (T T0:cg)(r:Nat):Nat->List Int->cg×cg:=λU _=>if U<r then(T,T)else(T0,T0)
noncomputable def bJ (T T0:cg)(r m:Nat):Nat->List Int->cg×cg:=λU π=>if U<r\/(U=r/\m<=π.length)then(T,T)else(T0,T0)
theorem PC {N:Nat} {id:Int} {Q:Qc->Prop} (hW:pS C) (hT:jC T D) (hD:D.length<=3518437208882) (hlen:C.rows.length<=9223372036854775806) (hsl:∀R∈C.rows,R.steps.length<9223372036854775807/\B0+D.length+R.steps.length+2<N) (hMN:4099<N) (cr:∀R∈C.rows,∀sc∈R.steps,yT S I C T sc) (hI:∀R∈C.rows,∀π e,ij S T R.steps (R.hs,R.vs) π=some e->I e)
  (hid:T id=none) (PG:∀i,i≠id->T0 i=T i)
  (h:Inv S C T (λ_=>T) (λ_ _=>(T0,T0)) (λ_=>False) none loc s) (hP:∀(r:Nat) (R:gp) (π:List Int),C.rows[r]? =some R->im S T R.steps (R.hs,R.vs) π≠none->(∀k,¬JK S T T0 id R π k)->∃y,loc y=some (r,π))
  (hQ:∀bg s',Inv S C T (λ_=>T) (λ_ _=>(T,T)) (λ_=>False) none bg s'->lZ loc bg->(rN bg->yM S C T bg)->Q s'):Gk (λst σ=>XY N st id σ) C.g s Q:=by
 have bp:∀(B:Nat->List Int->cg×cg) (bg:Loc) (σ:Qc),Inv S C T (λ_=>T) B (λ_=>False) none bg σ->∀y r π,bg y=some (r,π)->r<C.rows.length:=λB bg σ h' y r π hy=>by
  obtain⟨R,x,a1,_⟩:=h'.part y r π hy;exact(b'.1 a1).1
 refine zA (E:=λr σ=>∃bg,Inv S C T (λ_=>T) (bE T T0 r) (λ_=>False) none bg σ/\lZ loc bg/\(rN bg->∀(U:Nat) (R:gp),U<r->C.rows[U]? =some R->jU S T bg U [] R.steps (R.hs,R.vs)))
  (J:=λr m σ=>∃bg,Inv S C T (λ_=>T) (bJ T T0 r m) (λ_=>False) none bg σ/\lZ loc bg/\(rN bg->(∀(U:Nat) (R:gp),U<r->C.rows[U]? =some R->jU S T bg U [] R.steps (R.hs,R.vs))/\∀(R:gp) (π:List Int),C.rows[r]? =some R->im S T R.steps (R.hs,R.vs) π≠none->(∀k,k<m->¬JK S T T0 id R π k)->∃y,bg y=some (r,π)))
  hlen (λR hR=>by have:=(hsl R hR).1;omega) (λr σ ⟨_,h1,_⟩=>h1.shape) (λr m σ ⟨_,h1,_⟩=>h1.shape) (λr R σ hr ⟨dc,h1,h2,h3⟩=>⟨dc,?_,h2,λiF=>⟨h3 iF,λR' π cz hi hb=>?_⟩⟩) (λr R m sc σ Q' hr ⟨dc,h1,h2,h3⟩ fj Lq=>?_) (λr σ ⟨dc,h1,h2,h3⟩=>⟨dc,h1.congrB (λp U π hp=>?_),h2,λiF U R cz hR=>?_⟩) ⟨loc,h.congrB (λp U π _=>if_neg (D' _)),lZ.refl _,λ_ U R cz=>absurd cz (D' _)⟩ (λσ ⟨dc,h1,h2,h3⟩=>hQ dc σ (h1.congrB λp U π hp=>(if_pos (bp _ _ _ h1 p U π hp)).symm) h2 λiF U R hR=>h3 iF U R (b'.1 hR).1 hR)
 ·
  refine h1.congrK λp U π R' x sc a hp cz hx he q1 q2 i=>?_;unfold bJ bE;by_cases hh:U<r;· rw[if_pos (.inl hh),if_pos hh];exact⟨Iff.rfl,λh=>h⟩
  ·rw[if_neg hh,if_neg];· exact⟨Iff.rfl,λh=>h⟩
   · rintro(e|⟨e1,e2⟩);· exact hh e
     ·rw[e1,hr]at cz;cases cz;have:=(b'.1 q1).1;omega
 ·rw [hr]at cz;cases cz
  obtain ⟨y,hy⟩:=hP r R π hr hi λk hk=>by
   obtain⟨e1,sc,a,e,e2,_⟩:=hk;exact hb k (b'.1 e2).1 ⟨e1,sc,a,e,e2,by assumption⟩
  exact⟨y,h2 _ _ hy⟩
 ·
  have qe:=p' hr;obtain⟨Fc,Fe⟩:=hsl R qe;have Cs:(∀a,sc.st≠.nt a)->Q' σ:=λhn=>Lq σ ⟨dc,h1.congrK λp U π R' x di a hp cz hx he q1 q2 i=>?_,h2,λiF=>⟨(h3 iF).1,λR' π cz hi hb=>(h3 iF).2 R' π cz hi λk hk Og=>?_⟩⟩
  ·cases ca:sc.st with
   |join a=>exact lD (QZ (Cs λa' e=>by rw[ca]at e;cases e))
   |test a=>exact lF (QZ (Cs λa' e=>by rw[ca]at e;cases e))
   | nt a =>
     refine lE (QZ ?_);refine Fp (I:=I) (M:=4097) hW hT hD hr fj ca Fc (cr R qe) (hI R qe) Fe an (λ_ _ _ hz=>hz) hid PG (λπ kK=>?_) (λπ kK=>?_) h1 h1.le λff s2 kF jx oq vT=>?_
     ·unfold bJ;rw[if_neg];rintro(e|⟨_,e⟩);· exact k! _ e
      · omega
     ·unfold bJ;exact if_pos (.inr ⟨rfl,an⟩)
     ·refine Lq s2 ⟨ff,kF.congrB (λp U π hp=>?_),h2.trans jx,λiF=>?_⟩
      ·unfold oU bJ;by_cases hh:U=r/\π.length=m;· rw[if_pos hh,if_pos (.inr ⟨hh.1,an⟩)]
       ·rw [if_neg hh];by_cases h5:U<r\/(U=r/\m+1<=π.length)
        · rw[if_pos h5,if_pos];rcases h5 with e|⟨e1,e2⟩
          · exact .inl e
          · exact .inr ⟨e1,an⟩
        · rw[if_neg h5,if_neg];rintro(e|⟨e1,e2⟩);· exact h5 (.inl e)
          ·by_cases h6:π.length=m;· exact hh ⟨e1,h6⟩
           · exact h5 (.inr ⟨e1,an⟩)
      ·have Wg:=ZV h1.cnt jx iF kF.cnt;obtain⟨h4,h5⟩:=h3 Wg;refine⟨λU R' cz PF=>(h4 U R' cz PF).mono jx,λR' π cz hi hb=>?_⟩;rw[hr]at cz;cases cz;by_cases Jv:JK S T T0 id R π m
       ·obtain⟨e1,di,a',e,e2,e3,e4,e5⟩:=Jv;rw[fj]at e2;cases e2;have uA:π=π.take m++π.drop m:=(u' m π).symm;have LH:(π.take m).length=m:=by simp;omega
        have j4:im S T R.steps (R.hs,R.vs) (π.take m++π.drop m)≠none:=by rw[<-uA];exact hi
        rw[Sx]at j4;cases gZ:im S T R.steps (R.hs,R.vs) (π.take m)with
        |none=>rw[gZ]at j4;exact absurd rfl j4
        | some e'=>
          rw[gZ,j',LH]at j4;have hee:e'=e:=by have:=O4 gZ;rw[e4]at this;exact(Option.some.inj this).symm
          subst hee
          obtain ⟨q,hq⟩:=h5 R (π.take m) hr (by rw[gZ];simp) λk hk Og=>by
           obtain⟨f1,sc2,a2,ee,f2,f3,f4,f5⟩:=Og;have hkm:k<m:=by rw[LH]at f1;exact f1
           refine hb k hkm ⟨an,sc2,a2,ee,f2,f3,?_,f5⟩;rw[List.take_take,Nat.min_eq_left an]at f4;exact f4
          obtain⟨y,hy⟩:=vT iF q (π.take m) e' hq LH e4 e5 (π.drop m) j4;exact⟨y,by rw[hy,<-uA]⟩
       ·obtain⟨y,hy⟩:=h5 R π hr hi λk hk=>by
          by_cases h6:k=m;· rw[h6];exact Jv
          · exact hb k an
        exact⟨y,jx _ _ hy⟩
  ·unfold bJ;by_cases h5:U<r\/(U=r/\m+1<=π.length)
   · rw[if_pos h5,if_pos];· exact⟨Iff.rfl,λh=>h⟩
     ·rcases h5 with e|⟨e1,e2⟩
      · exact .inl e
      · exact .inr ⟨e1,an⟩
   · by_cases h6:U=r/\π.length=m
     ·obtain⟨rfl,h6⟩:=h6;rw[hr]at cz;cases cz;rw[h6,fj]at q1;cases q1;exact absurd q2 (hn a)
     ·rw [if_neg h5,if_neg];· exact⟨Iff.rfl,λh=>h⟩
      ·rintro(e|⟨e1,e2⟩);· exact h5 (.inl e)
       ·by_cases h7:π.length=m;· exact h6 ⟨e1,h7⟩
        · exact h5 (.inr ⟨e1,an⟩)
  ·rw[hr]at cz;cases cz;by_cases h6:k=m
   · subst h6;obtain⟨_,sc2,a2,_,f2,f3,_⟩:=Og;rw[fj]at f2;cases f2;exact hn a2 f3
   · exact hb k an Og
 ·unfold bJ bE;by_cases hh:U<r+1
  ·rw[if_pos hh,if_pos];by_cases h5:U<r;· exact .inl h5
   · exact .inr ⟨an,c! _⟩
  ·rw[if_neg hh,if_neg];rintro(e|⟨e,_⟩)<;>omega
 ·obtain ⟨h4,h5⟩:=h3 iF;by_cases hh:U<r;· exact h4 U R hh hR
  ·have:U=r:=an
   subst this;intro τ iG;obtain⟨y,hy⟩:=h5 R τ hR iG λk hk=>absurd hk (D' _)
   exact⟨y,by simpa using hy⟩
end
end
section
open Go Go.RowKit Classical
section
variable {S:gO} {I:fg->Prop} {C:ic} {T T0:cg} {Ta:Nat->cg} {B:Nat->List Int->cg×cg} {cq:Option Nat} {loc:Loc} {s:Qc} {D:List Int}
def HC (S:gO)(T:cg)(f:Qo)(R:gp)(π:List Int)(k:Nat):Prop:=k<π.length/\∃sc a e,R.steps[k]? =some sc/\sc.st=.nt a/\ij S T R.steps (R.hs,R.vs) (π.take k)=some e/\(S.mt sc.c e.1 e.2 f).isSome=true
theorem Pf {N:Nat} {f:Qo} {Q:Qc->Prop} (hW:pS C) (hlen:C.rows.length<=9223372036854775806) (hsl:∀R∈C.rows,R.steps.length<9223372036854775807/\4097+R.steps.length+R.steps.length+2<N) (hN0:B0<=N) (cr:∀R∈C.rows,∀sc∈R.steps,yT S I C T sc) (hI:∀R∈C.rows,∀π e,ij S T R.steps (R.hs,R.vs) π=some e->I e)
  (hA:∀A∈C.als,A.args.length<N/\A.args.length<9223372036854775807/\(f.ty=A.kind->∀(j:Nat) (a:gS),A.args[j]? =some a->∃v,f.args[j]? =some v)) (hf:T f.id=some f) (Oj:T0 f.id=none) (PG:∀i,i≠f.id->T0 i=T i)
  (h:Inv S C T Ta (λ_ _=>(T0,T0)) (λ_=>False) none loc s)
  (hQ:∀bg s',Inv S C T Ta (λ_ _=>(T,T)) (λ_=>False) none bg s'->(∀y r π,bg y=some (r,π)↔loc y=some (r,π)/\¬∃R k,C.rows[r]? =some R/\HC S T f R π k)->Q s'):Gk (λst σ=>XV N st f.id f.ty f.args σ) C.g s Q:=by
 have bp:∀(B:Nat->List Int->cg×cg) (bg:Loc) (σ:Qc),Inv S C T Ta B (λ_=>False) none bg σ->∀y r π,bg y=some (r,π)->r<C.rows.length:=λB bg σ h' y r π hy=>by
  obtain⟨R,x,a1,_⟩:=h'.part y r π hy;exact(b'.1 a1).1
 refine zA (E:=λr σ=>∃bg,Inv S C T Ta (bE T T0 r) (λ_=>False) none bg σ/\∀y U π,bg y=some (U,π)↔loc y=some (U,π)/\¬(U<r/\∃R k,C.rows[U]? =some R/\HC S T f R π k))
  (J:=λr m σ=>∃bg,Inv S C T Ta (bJ T T0 r m) (λ_=>False) none bg σ/\∀y U π,bg y=some (U,π)↔loc y=some (U,π)/\¬∃R k,C.rows[U]? =some R/\HC S T f R π k/\(U<r\/(U=r/\m<=k)))
  hlen (λR hR=>by have:=(hsl R hR).1;omega) (λr σ ⟨_,h1,_⟩=>h1.shape) (λr m σ ⟨_,h1,_⟩=>h1.shape) (λr R σ hr ⟨dc,h1,h2⟩=>⟨dc,?_,λy U π=>?_⟩) (λr R m sc σ Q' hr ⟨dc,h1,h2⟩ fj Lq=>?_) (λr σ ⟨dc,h1,h2⟩=>⟨dc,h1.congrB (λp U π hp=>?_),λy U π=>?_⟩) ⟨loc,h.congrB (λp U π _=>if_neg (D' _)),λy U π=>⟨λhy=>⟨hy,λhh=>absurd hh.1 (D' _)⟩,λhy=>hy.1⟩⟩ (λσ ⟨dc,h1,h2⟩=>hQ dc σ (h1.congrB λp U π hp=>(if_pos (bp _ _ _ h1 p U π hp)).symm) λy U π=>?_)
 ·refine h1.congrK λp U π R' x sc a hp cz hx he q1 q2 i=>?_;unfold bJ bE;by_cases hh:U<r;· rw[if_pos (.inl hh),if_pos hh];exact⟨Iff.rfl,λh=>h⟩
  ·rw[if_neg hh,if_neg];· exact⟨Iff.rfl,λh=>h⟩
   · rintro(e|⟨e1,e2⟩);· exact hh e
     ·rw[e1,hr]at cz;cases cz;have:=(b'.1 q1).1;omega
 ·rw [h2];constructor
  ·rintro⟨e1,e2⟩;refine⟨e1,λ⟨R',k,e3,e4,e5⟩=>?_⟩;rcases e5 with e5|⟨e5,e6⟩
   · exact e2 ⟨e5,R',k,e3,e4⟩
   · rw[e5,hr]at e3;cases e3;obtain⟨_,sc,a,e,e7,_⟩:=e4;have:=(b'.1 e7).1;omega
  ·rintro⟨e1,e2⟩;exact⟨e1,λ⟨e3,R',k,e4,e5⟩=>e2 ⟨R',k,e4,e5,.inl e3⟩⟩
 ·have qe:=p' hr;obtain⟨Fc,Fe⟩:=hsl R qe;have Cs:(∀a,sc.st≠.nt a)->Q' σ:=λhn=>Lq σ ⟨dc,h1.congrK λp U π R' x di a hp cz hx he q1 q2 i=>?_,λy U π=>?_⟩
  ·cases ca:sc.st with
   |join a=>exact lD (QZ (Cs λa' e=>by rw[ca]at e;cases e))
   |test a=>exact lF (QZ (Cs λa' e=>by rw[ca]at e;cases e))
   | nt a =>
     refine lE (QZ ?_);refine Cu (I:=I) (M:=4097) hW hr fj ca Fc (cr R qe sc (p' fj)) (hI R qe) hN0 an Fe hA (λ_ _ _ hz=>hz) hf Oj PG (λπ kK=>?_) h1 h1.le λff s2 kF zG=>?_
     ·unfold bJ;rw[if_neg];rintro(e|⟨_,e⟩);· exact k! _ e
      · omega
     ·refine Lq s2 ⟨ff,kF.congrB (λp U π hp=>?_),λy U π=>?_⟩
      ·unfold oU bJ;by_cases hh:U=r/\π.length=m;· rw[if_pos hh,if_pos (.inr ⟨hh.1,an⟩)]
       ·rw [if_neg hh];by_cases h5:U<r\/(U=r/\m+1<=π.length)
        ·rw[if_pos h5,if_pos];rcases h5 with e|⟨e1,e2⟩
         · exact .inl e
         · exact .inr ⟨e1,an⟩
        ·rw [if_neg h5,if_neg];rintro(e|⟨e1,e2⟩);· exact h5 (.inl e)
         ·by_cases h6:π.length=m;· exact hh ⟨e1,h6⟩
          · exact h5 (.inr ⟨e1,an⟩)
      ·rw [zG,h2];constructor
       ·rintro⟨⟨e1,e2⟩,e3⟩;refine⟨e1,λ⟨R',k,e4,e5,e6⟩=>?_⟩;by_cases hk:U=r/\k=m
        ·obtain⟨rfl,rfl⟩:=hk;rw[hr]at e4;cases e4;obtain⟨f1,sc2,a2,e,f2,f3,f4,f5⟩:=e5;rw[fj]at f2;cases f2;have YL:dc y=some (U,π.take k++π.drop k):=by rw[u'];exact(h2 y U π).2 ⟨e1,e2⟩
         obtain⟨q,hq⟩:=h1.pre _ _ y rfl YL;refine e3 ⟨q,π.take k,e,hq,by simp;omega,f4,f5,π.drop k,λe0=>?_,by rw[u']⟩;have:=congrArg List.length e0;simp at this;omega
        ·refine e2 ⟨R',k,e4,e5,?_⟩;rcases e6 with e6|⟨e6,e7⟩
         · exact .inl e6
         ·refine .inr ⟨e6,?_⟩;have:k≠m:=λe=>hk ⟨e6,e⟩;omega
       ·rintro⟨e1,e2⟩;refine⟨⟨e1,λ⟨R',k,e4,e5,e6⟩=>e2 ⟨R',k,e4,e5,?_⟩⟩,λ⟨q,ρ,e,f1,f2,f3,f4,τ,f5,f6⟩=>?_⟩
        ·rcases e6 with e6|⟨e6,e7⟩
         · exact .inl e6
         · exact .inr ⟨e6,an⟩
        ·simp only[Prod.mk.injEq]at f6;obtain⟨rfl,rfl⟩:=f6;have:=j!.2 f5;refine e2 ⟨R,m,hr,⟨by rw[m'];omega,sc,a,e,fj,ca,?_,f4⟩,.inr ⟨rfl,b! _⟩⟩;rw[H' an,I' an];exact f3
  ·unfold bJ;by_cases h5:U<r\/(U=r/\m+1<=π.length)
   · rw[if_pos h5,if_pos];· exact⟨Iff.rfl,λh=>h⟩
     ·rcases h5 with e|⟨e1,e2⟩
      · exact .inl e
      · exact .inr ⟨e1,an⟩
   · by_cases h6:U=r/\π.length=m
     ·obtain⟨rfl,h6⟩:=h6;rw[hr]at cz;cases cz;rw[h6,fj]at q1;cases q1;exact absurd q2 (hn a)
     ·rw [if_neg h5,if_neg];· exact⟨Iff.rfl,λh=>h⟩
      ·rintro(e|⟨e1,e2⟩);· exact h5 (.inl e)
       ·by_cases h7:π.length=m;· exact h6 ⟨e1,h7⟩
        · exact h5 (.inr ⟨e1,an⟩)
  ·rw [h2];constructor
   · rintro⟨e1,e2⟩;refine⟨e1,λ⟨R',k,e4,e5,e6⟩=>e2 ⟨R',k,e4,e5,?_⟩⟩;rcases e6 with e6|⟨e6,e7⟩
     · exact .inl e6
     ·refine .inr ⟨e6,?_⟩;by_cases h6:k=m
      ·subst h6;rw[e6,hr]at e4;cases e4;obtain⟨_,sc2,a2,_,f2,f3,_⟩:=e5;rw[fj]at f2;cases f2;exact absurd f3 (hn a2)
      · omega
   · rintro⟨e1,e2⟩;refine⟨e1,λ⟨R',k,e4,e5,e6⟩=>e2 ⟨R',k,e4,e5,?_⟩⟩;rcases e6 with e6|⟨e6,e7⟩
     · exact .inl e6
     · exact .inr ⟨e6,an⟩
 ·unfold bJ bE;by_cases hh:U<r+1
  ·rw[if_pos hh,if_pos];by_cases h5:U<r;· exact .inl h5
   · exact .inr ⟨an,c! _⟩
  ·rw[if_neg hh,if_neg];rintro(e|⟨e,_⟩)<;>omega
 ·rw [h2];constructor
  ·rintro⟨e1,e2⟩;refine⟨e1,λ⟨e3,R',k,e4,e5⟩=>e2 ⟨R',k,e4,e5,?_⟩⟩;by_cases hh:U<r;· exact .inl hh
   · exact .inr ⟨an,c! _⟩
  ·rintro⟨e1,e2⟩;refine⟨e1,λ⟨R',k,e4,e5,e6⟩=>e2 ⟨?_,R',k,e4,e5⟩⟩;rcases e6 with e6|⟨e6,_⟩<;>omega
 ·rw[h2];constructor
  ·rintro⟨e1,e2⟩;exact⟨e1,λ⟨R',k,e4,e5⟩=>e2 ⟨(b'.1 e4).1,R',k,e4,e5⟩⟩
  ·rintro⟨e1,e2⟩;exact⟨e1,λ⟨_,R',k,e4,e5⟩=>e2 ⟨R',k,e4,e5⟩⟩
end
end
section
open Go Go.RowKit Classical
section
variable {S:gO} {I:fg->Prop} {C:ic} {T:cg} {cq:Option Nat} {loc:Loc} {s:Qc} {D:List Int}
theorem Pg {N:Nat} {f:Qo} {Q:Qc->Prop} (hW:pS C) (hT:jC T D) (hD:D.length<=3518437208882) (hlen:C.rows.length<=9223372036854775806) (hsl:∀R∈C.rows,R.steps.length<9223372036854775807/\B0+D.length+R.steps.length+2<N) (hMN:4099<N) (cr:∀R∈C.rows,∀sc∈R.steps,yT S I C T sc) (hI:∀R∈C.rows,∀π e,ij S T R.steps (R.hs,R.vs) π=some e->I e)
  (hA:∀A∈C.als,A.args.length<N/\A.args.length<9223372036854775807/\(f.ty=A.kind->∀(j:Nat) (a:gS),A.args[j]? =some a->∃v,f.args[j]? =some v)) (hf:T f.id=some f) (hid:f.id≠0)
  (h:Inv S C T (λ_=>T) (λ_ _=>(T,T)) (λ_=>False) none loc s) (a2L:∀y r π,loc y=some (r,π)->f.id∉π) (hP:∀(r:Nat) (R:gp) (π:List Int),C.rows[r]? =some R->im S T R.steps (R.hs,R.vs) π≠none->f.id∉π->∃y,loc y=some (r,π))
  (hQ:∀bg s',Inv S C T (λ_=>T) (λ_ _=>(T,T)) (λ_=>False) none bg s'->lZ loc bg->(∀y r π,bg y=some (r,π)->loc y=none->f.id∈π)->(rN bg->yM S C T bg)->Q s'):Gk (λst σ=>XW N st f.id f.ty f.args σ) C.g s Q:=by
 refine zA (E:=λr σ=>∃bg,Inv S C T (λ_=>T) (λ_ _=>(T,T)) (λ_=>False) none bg σ/\lZ loc bg/\(∀y U π,bg y=some (U,π)->loc y=none->U<r/\f.id∈π)/\(rN bg->∀(U:Nat) (R:gp),U<r->C.rows[U]? =some R->jU S T bg U [] R.steps (R.hs,R.vs)))
  (J:=λr m σ=>∃bg,Inv S C T (λ_=>T) (λ_ _=>(T,T)) (λ_=>False) none bg σ/\lZ loc bg/\(∀y U π,bg y=some (U,π)->loc y=none->(U<r/\f.id∈π)\/(U=r/\∃k,m<=k/\π[k]? =some f.id))/\(rN bg->(∀(U:Nat) (R:gp),U<r->C.rows[U]? =some R->jU S T bg U [] R.steps (R.hs,R.vs))/\∀(R:gp) (π:List Int),C.rows[r]? =some R->im S T R.steps (R.hs,R.vs) π≠none->(∀k,k<m->π[k]? ≠some f.id)->∃y,bg y=some (r,π)))
  hlen (λR hR=>by have:=(hsl R hR).1;omega) (λr σ ⟨_,h1,_⟩=>h1.shape) (λr m σ ⟨_,h1,_⟩=>h1.shape) (λr R σ hr ⟨dc,h1,h2,hn,h3⟩=>⟨dc,h1,h2,λy U π e1 e2=>.inl (hn y U π e1 e2),λiF=>⟨h3 iF,λR' π cz hi hb=>?_⟩⟩) (λr R m sc σ Q' hr ⟨dc,h1,h2,hn,h3⟩ fj Lq=>?_) (λr σ ⟨dc,h1,h2,hn,h3⟩=>⟨dc,h1,h2,λy U π e1 e2=>?_,λiF U R cz hR=>?_⟩) ⟨loc,h,lZ.refl _,(λy U π e1 e2=>by rw[e1]at e2;cases e2),λ_ U R cz=>absurd cz (D' _)⟩ (λσ ⟨dc,h1,h2,hn,h3⟩=>hQ dc σ h1 h2 (λy r π e1 e2=>(hn y r π e1 e2).2) λiF U R hR=>h3 iF U R (b'.1 hR).1 hR)
 ·rw [hr]at cz;cases cz;obtain⟨e,he⟩:=E'.1 hi;have hl:=nZ (O4 he)
  obtain ⟨y,hy⟩:=hP r R π hr hi λhm=>by
   obtain⟨k,hk⟩:=g!.1 hm;have:=(b'.1 hk).1;exact hb k an hk
  exact⟨y,h2 _ _ hy⟩
 ·have qe:=p' hr;obtain⟨Fc,Fe⟩:=hsl R qe;have uK:(∀a,sc.st≠.join a)->Q' σ:=λhnj=>Lq σ ⟨dc,h1,h2,λy U π e1 e2=>?_,λiF=>⟨(h3 iF).1,λR' π cz hi hb=>(h3 iF).2 R' π cz hi λk hk=>?_⟩⟩
  ·cases ca:sc.st with
   |nt a=>exact lE (QZ (uK λa' e=>by rw[ca]at e;cases e))
   |test a=>exact lF (QZ (uK λa' e=>by rw[ca]at e;cases e))
   | join a =>
     refine lD (QZ ?_);refine Ci (I:=I) (M:=4097) hW hT hD hr fj ca Fc (cr R qe) (hI R qe) Fe an hA (λ_ _ _ hz=>hz) hf (λ_ _=>rfl) h1 h1.le (λy ρ Th hy=>?_) λff s2 kF jx oq vT=>?_
     ·cases hl:loc y with
      | some l=>
        have:=h2 _ _ hl;rw[hy]at this;cases this;exact a2L y _ _ hl ax
      | none=>
        rcases hn y _ _ hy hl with⟨e1,_⟩|⟨_,k,e1,e2⟩
        · exact k! _ e1
        · have:=(b'.1 e2).1;simp only[m',d',C']at this;omega
     ·refine Lq s2 ⟨ff,kF,h2.trans jx,λy U π e1 e2=>?_,λiF=>?_⟩
      · cases hl:dc y with
        | some l=>
          have:=jx _ _ hl;rw[e1]at this;cases this;rcases hn y _ _ hl e2 with e3|⟨e3,k,e4,e5⟩
          · exact .inl e3
          · exact .inr ⟨e3,k,an,e5⟩
        | none=>
          obtain⟨q,ρ,τ,f1,f2,f3⟩:=oq y _ e1 hl;simp only[Prod.mk.injEq]at f3;obtain⟨rfl,rfl⟩:=f3;refine .inr ⟨rfl,m,b! _,?_⟩;rw[a!,List.getElem?_append_right an,f2];simp
      · have Wg:=ZV h1.cnt jx iF kF.cnt;obtain⟨h4,h5⟩:=h3 Wg;refine⟨λU R' cz PF=>(h4 U R' cz PF).mono jx,λR' π cz hi hb=>?_⟩;rw[hr]at cz;cases cz;by_cases hm:π[m]? =some f.id
        · obtain⟨g1,g2⟩:=CR hm
          have j4:im S T R.steps (R.hs,R.vs) (π.take m++(f.id::π.drop (m+1)))≠none:=by
            have:π.take m++(f.id::π.drop (m+1))=π:=by
              conv=>rhs;rw[g1]
              simp
            rw[this];exact hi
          rw[Sx]at j4;cases gZ:im S T R.steps (R.hs,R.vs) (π.take m)with
          |none=>rw[gZ]at j4;exact absurd rfl j4
          | some e'=>
            rw[gZ,j',g2,Sp fj]at j4;simp only[im,kz,ca,hf,j']at j4;cases hmt:S.mt sc.c e'.1 e'.2 f with
            |none=>rw[hmt]at j4;exact absurd rfl j4
            | some e2=>
              rw[hmt,j']at j4
              obtain ⟨q,hq⟩:=h5 R (π.take m) hr (by rw[gZ];simp) λk hk hkk=>by
               have bp:=(b'.1 hkk).1;rw[g2]at bp;refine hb k bp ?_;rw[List.getElem?_take_of_lt bp]at hkk;exact hkk
              obtain⟨y,hy⟩:=vT iF q (π.take m) e' e2 hq g2 (O4 gZ) hmt (π.drop (m+1)) j4;exact⟨y,by rw[hy,<-g1]⟩
        · obtain⟨y,hy⟩:=h5 R π hr hi λk hk=>by
            by_cases h6:k=m;· rw[h6];exact hm
            · exact hb k an
          exact⟨y,jx _ _ hy⟩
  ·rcases hn y U π e1 e2 with e3|⟨e3,k,e4,e5⟩
   · exact .inl e3
   · exact .inr ⟨e3,k,an,e5⟩
  ·rw[hr]at cz;cases cz;by_cases h6:k=m
   · subst h6;intro hkk;obtain⟨e,he⟩:=E'.1 hi;exact hid (pX (O4 he) fj hnj hkk)
   · exact hb k an
 ·rcases hn y U π e1 e2 with⟨e3,e4⟩|⟨e3,k,_,e5⟩
  · exact⟨an,e4⟩
  · exact⟨an,p' e5⟩
 ·obtain ⟨h4,h5⟩:=h3 iF;by_cases hh:U<r;· exact h4 U R hh hR
  ·have:U=r:=an
   subst this;intro τ iG;obtain⟨y,hy⟩:=h5 R τ hR iG λk hk=>absurd hk (D' _)
   exact⟨y,by simpa using hy⟩
end
end
section
open Go Go.RowKit Classical
structure Yv (C:ic):Prop where
 ofKey:∀k a,C.alphas.look k=some a->∃A∈C.als,A.b=a
 key:∀A∈C.als,∃k,C.alphas.look k=some A.b
def mE (T:cg)(id:Int):cg:=λi=>if i=id then none else T i
section
variable {S:gO} {I:fg->Prop} {C:ic} {T T0 Tn:cg} {Ta:Nat->cg} {B:Nat->List Int->cg×cg} {Zo:Nat->Prop} {cq:Option Nat} {loc:Loc} {s:Qc} {D:List Int}
theorem PA {N:Nat} {id:Int} {K:Qc->WM Qc} {Q:Qc->Prop} (hA:Yv C)(hN:C.alphas.keys.length<N)(h:Inv S C T Ta B Zo none loc s)
  (ht:∀A∈C.als,∀i,mE (Ta A.b) id i=Tn i) (hg:∀i,mE (Ta C.g) id i=Tn i)
  (hQ:∀s',Inv S C T (λ_=>Tn) B Zo none loc s'->K s' Q):
  (Qu (gNet s C.g) λwW=>
 jc (cu s C.g (PO.net ({wW with facts:=MS.del wW.facts id}))) λs3=>
jc (cu s3 C.g (PO.net ({({wW with facts:=MS.del wW.facts id}:gT)with rows:=({wW with facts:=MS.del wW.facts id}:gT).rows}))) λs7=>
kC (λ(Kh:(Nat×(MS ByteArray Nat)×(List ByteArray)×Qc)->WM Qc) ((ae,ah,ab,aa))=>
 Qu (gNet aa C.g) λYR=>
 gv (YR.alphas=ah/\YR.alphasA=ae)<|
 kZ YR.alphas ab (
 K aa
 ) λk16=>(
 Qu (MS.look YR.alphas k16) λNK=>
 Qu (vQ aa NK) λNL=>
 jc (cu aa NK (PO.alpha ({NL with facts:=MS.del NL.facts id}))) λs8=>
 Kh (YR.alphasA,YR.alphas,ab++[k16],s8)
 )
) N ((({wW with facts:=MS.del wW.facts id}:gT).alphasA),(({wW with facts:=MS.del wW.facts id}:gT).alphas),([]:List ByteArray),s7)) Q:=by
  obtain⟨x,g1,g2,g3,g4,g5,g6,g7,g8,g9,_⟩:=h.gNet;refine Qk g1 (nG (nG ?_));rw[ti]
  have h1:=h.setNet (Tb:=Tn) (fm:=x.facts.del id) g2 (MS.nodup_del g9.1) λi=>by
    rw[MS.look_del,<-hg,g9.2];rfl
  refine yX (λ(b,m,d,σ)=>b=C.alphasA/\m=C.alphas/\d.Nodup/\(∀k∈d,k∈C.alphas.keys)/\∃Tc:Nat->cg,Inv S C T Tc B Zo none loc σ/\Tc C.g=Tn/\(∀A∈C.als,Tc A.b=Tn\/(Tc A.b=Ta A.b/\∀k∈d,C.alphas.look k≠some A.b))) (λ(_,_,d,_)=>C.alphas.keys.length-d.length) ?_ N _ ⟨g8,g7,O',(λk hk=>by cases hk),_,h1,if_pos rfl,λA wq=>?_⟩ (by show C.alphas.keys.length-0<N;omega)
  · rintro ⟨b,m,d,σ⟩ ag ⟨rfl,rfl,lS,om,Tc,hi,hTg,SR⟩ gH;dsimp only at lS om gH⊢;obtain⟨y,q1,q2,_,_,_,_,q6,q7,_⟩:=hi.gNet;refine Qk q1 ?_;refine iE ⟨q6,q7⟩ ?_;rw[q6];refine Sz (λfe=>?_) λk hk F9=>?_
    · refine hQ σ (hi.congrTa hTg.symm λA wq=>?_);rcases SR A wq with e|⟨_,e⟩
      · exact e.symm
      · obtain⟨k,hk⟩:=hA.key A wq;exact absurd hk (e k (fe k (MS.look_iff.2 ⟨_,hk⟩)))
    · obtain⟨a,ha⟩:=MS.look_iff.1 hk;obtain⟨A,rh,rfl⟩:=hA.ofKey k a ha;obtain⟨z,z1,z2,z3,z4,z5⟩:=hi.al A rh;refine Qk ha ?_;refine Qk (Yi z1) ?_;refine nG ?_
      have bp:d.length<C.alphas.keys.length:=by
        have:=Je (J'.2 ⟨F9,lS⟩) (l:=C.alphas.keys) (by
          intro j U;rcases v'.1 U with rfl|U;· exact hk
          · exact om j U)
        simp only[d']at this;omega
      have hAg:A.b≠C.g:=λe=>by rw[e,q2]at z1;cases z1
      have h2:=hi.setAlpha (Tb:=Tn) (fm:=z.facts.del id) rh z1 (MS.nodup_del z4) λi=>by
        rw[MS.look_del,z5]
        have e2:∀i,Tn i=mE (Tc A.b) id i:=λi=>by
          rcases SR A rh with e|⟨e,_⟩
          · rw[e];have h5:=ht A rh i;unfold mE at h5⊢;by_cases fb:i=id;· rw[if_pos fb]at h5⊢;exact h5.symm
            · rw[if_neg fb]
          · rw[e,ht A rh i]
        rw[e2];unfold mE;by_cases fb:i=id<;>simp[fb]
      rw[q7];refine gH _ ⟨rfl,rfl,G'.2 ⟨lS,ax,λy hy w hw e1=>F9 (by simp at hw;rw[<-hw,<-e1];exact hy)⟩,(λj U=>?_),_,h2,?_,λA' wq=>?_⟩ (by show C.alphas.keys.length-(d++[k]).length<C.alphas.keys.length-d.length;simp only[m',d',C'];omega)
      · rcases t'.1 U with U|U;· exact om j U
        · rw[n'.1 U];exact hk
      · exact(if_neg (Ne.symm hAg)).trans hTg
      · by_cases e:A'.b=A.b;· exact .inl (if_pos e)
        · rcases SR A' wq with e1|⟨e1,e2⟩
          · exact .inl ((if_neg e).trans e1)
          · refine .inr ⟨(if_neg e).trans e1,λj U BS=>?_⟩;rcases t'.1 U with U|U;· exact e2 j U BS
            · rw[n'.1 U,ha]at BS;exact e (Option.some.inj BS).symm
  · refine .inr ⟨if_neg λe=>?_,λk hk=>by cases hk⟩;obtain⟨z,z1,_⟩:=h.al A wq;rw[e,g2]at z1;cases z1
end
end
section
open Go Go.RowKit Classical
def jS (T:cg)(f:Qo):cg:=λi=>if i=f.id then some f else T i
section
variable {S:gO} {I:fg->Prop} {C:ic} {T T0 Tn:cg} {B:Nat->List Int->cg×cg} {Zo:Nat->Prop} {cq:Option Nat} {loc:Loc} {s:Qc} {D:List Int}
theorem Pe {N:Nat} {f:Qo} {K:Qc->WM Qc} {Q:Qc->Prop} (hA:Yv C)(hN:C.alphas.keys.length<N)(Oj:T0 f.id=none)(hAr:∀A∈C.als,A.args.length<N/\A.args.length<9223372036854775807/\(f.ty=A.kind->∀(j:Nat)(a:gS),A.args[j]? =some a->∃v,f.args[j]? =some v))
  (h:Inv S C T (λ_=>T0) B Zo none loc s) (hQ:∀s',Inv S C T (λ_=>jS T0 f) B Zo none loc s'->K s' Q):
  (Qu (gNet s C.g) λwW=>
 jc (cu s C.g (PO.net ({wW with facts:=MS.put wW.facts f.id (⟨f.id,f.ty,f.args⟩:Qo)}))) λs3=>
jc (cu s3 C.g (PO.net ({({wW with facts:=MS.put wW.facts f.id (⟨f.id,f.ty,f.args⟩:Qo)}:gT)with rows:=({wW with facts:=MS.put wW.facts f.id (⟨f.id,f.ty,f.args⟩:Qo)}:gT).rows}))) λs7=>
kC (λ(Kh:(Nat×(MS ByteArray Nat)×(List ByteArray)×Qc)->WM Qc) ((ae,ah,ab,aa))=>
 Qu (gNet aa C.g) λNK=>
 gv (NK.alphas=ah/\NK.alphasA=ae)<|
 kZ NK.alphas ab (
 K aa
 ) λk18=>(
 Qu (MS.look NK.alphas k18) λx20=>
 fu (OD N x20 f.id f.ty f.args aa) λv24=>
 gP (v24) (
  Qu (vQ aa x20) λNL=>
  jc (cu aa x20 (PO.alpha ({NL with facts:=MS.put NL.facts f.id (⟨f.id,f.ty,f.args⟩:Qo)}))) λs8=>
  Kh (NK.alphasA,NK.alphas,ab++[k18],s8)
 ) (
  Kh (NK.alphasA,NK.alphas,ab++[k18],aa)
 )
 )
) N ((({wW with facts:=MS.put wW.facts f.id (⟨f.id,f.ty,f.args⟩:Qo)}:gT).alphasA),(({wW with facts:=MS.put wW.facts f.id (⟨f.id,f.ty,f.args⟩:Qo)}:gT).alphas),([]:List ByteArray),s7)) Q:=by
  obtain⟨x,g1,g2,g3,g4,g5,g6,g7,g8,g9,_⟩:=h.gNet;refine Qk g1 (nG (nG ?_));rw[ti]
  have h1:=h.setNet (Tb:=jS T0 f) (fm:=x.facts.put f.id ⟨f.id,f.ty,f.args⟩) g2 (MS.nodup_put g9.1) λi=>by
    rw[MS.look_put,g9.2];rfl
  refine yX (λ(b,m,d,σ)=>b=C.alphasA/\m=C.alphas/\d.Nodup/\(∀k∈d,k∈C.alphas.keys)/\∃Tc:Nat->cg,Inv S C T Tc B Zo none loc σ/\Tc C.g=jS T0 f/\(∀A∈C.als,Tc A.b=jS T0 f\/(Tc A.b=T0/\∀k∈d,C.alphas.look k≠some A.b))) (λ(_,_,d,_)=>C.alphas.keys.length-d.length) ?_ N _ ⟨g8,g7,O',(λk hk=>by cases hk),_,h1,if_pos rfl,λA wq=>?_⟩ (by show C.alphas.keys.length-0<N;omega)
  · rintro ⟨b,m,d,σ⟩ ag ⟨rfl,rfl,lS,om,Tc,hi,hTg,SR⟩ gH;dsimp only at lS om gH⊢;obtain⟨y,q1,q2,_,_,_,_,q6,q7,_⟩:=hi.gNet;refine Qk q1 ?_;refine iE ⟨q6,q7⟩ ?_;rw[q6];refine Sz (λfe=>?_) λk hk F9=>?_
    · refine hQ σ (hi.congrTa hTg.symm λA wq=>?_);rcases SR A wq with e|⟨_,e⟩
      · exact e.symm
      · obtain⟨k,hk⟩:=hA.key A wq;exact absurd hk (e k (fe k (MS.look_iff.2 ⟨_,hk⟩)))
    · obtain ⟨a,ha⟩:=MS.look_iff.1 hk;obtain⟨A,rh,rfl⟩:=hA.ofKey k a ha;obtain⟨z,z1,z2,z3,z4,z5⟩:=hi.al A rh;obtain⟨r1,r2,r3⟩:=hAr A rh;refine Qk ha ?_;refine QZ ?_
      have bp:d.length<C.alphas.keys.length:=by
        have:=Je (J'.2 ⟨F9,lS⟩) (l:=C.alphas.keys) (by
          intro j U;rcases v'.1 U with rfl|U;· exact hk
          · exact om j U)
        simp only[d']at this;omega
      have hAg:A.b≠C.g:=λe=>by rw[e,q2]at z1;cases z1
      rw[q7]
      have next:∀G9,Inv S C T (λb=>if b=A.b then jS T0 f else Tc b) B Zo none loc G9->ag (C.alphasA,C.alphas,d++[k],G9) Q:=λG9 h2=>by
        refine gH _ ⟨rfl,rfl,G'.2 ⟨lS,ax,λy hy w hw e1=>F9 (by simp at hw;rw[<-hw,<-e1];exact hy)⟩,(λj U=>?_),_,h2,?_,λA' wq=>?_⟩ (by show C.alphas.keys.length-(d++[k]).length<C.alphas.keys.length-d.length;simp only[m',d',C'];omega)
        · rcases t'.1 U with U|U;· exact om j U
          · rw[n'.1 U];exact hk
        · exact(if_neg (Ne.symm hAg)).trans hTg
        · by_cases e:A'.b=A.b;· exact .inl (if_pos e)
          · rcases SR A' wq with e1|⟨e1,e2⟩
            · exact .inl ((if_neg e).trans e1)
            · refine .inr ⟨(if_neg e).trans e1,λj U BS=>?_⟩;rcases t'.1 U with U|U;· exact e2 j U BS
              · rw[n'.1 U,ha]at BS;exact e (Option.some.inj BS).symm
      have same:∀i,i≠f.id->Tc A.b i=T0 i:=λi fb=>by
        rcases SR A rh with e|⟨e,_⟩
        · rw[e];exact if_neg fb
        · rw[e]
      refine Ls (hi.al A rh) r1 r2 r3 ?_;refine jA (λhb=>?_) (λhb=>?_)
      · refine Qk (Yi z1) ?_;refine nG ?_;refine next _ (hi.setAlpha (Tb:=jS T0 f) (fm:=z.facts.put f.id ⟨f.id,f.ty,f.args⟩) rh z1 (MS.nodup_put z4) λi=>?_)
        rw[MS.look_put,z5];unfold jS;by_cases fb:i=f.id
        · rw[if_pos fb,if_pos fb];simp only[x!,hb,if_true]
        · rw[if_neg fb,if_neg fb,same i fb]
      · refine next σ ?_
        have:=hi.setAlpha (Tb:=jS T0 f) (fm:=z.facts) rh z1 z4 λi=>by
          rw[z5];unfold jS;by_cases fb:i=f.id
          · rw[if_pos fb,fb];rcases SR A rh with e|⟨e,_⟩
            · rw[e];unfold jS;rw[if_pos rfl]
            · rw[e,Oj];simp[x!,hb]
          · rw[if_neg fb,same i fb]
        rwa [vz z1]at this
  · refine .inr ⟨if_neg λe=>?_,λk hk=>by cases hk⟩;obtain⟨z,z1,_⟩:=h.al A wq;rw[e,g2]at z1;cases z1
end
end
section
open Go Go.RowKit Classical
section
variable {S:gO} {I:fg->Prop} {C:ic} {T T0:cg} {loc:Loc} {s:Qc} {D:List Int}
theorem mK {id:Int} (hT:T id=none)(hid:id≠0):∀{π:List Int} {l:List gh} {e U:fg},ij S T l e π=some U->id∉π
 |[],l,e,U,_=>ax
 |i::π,[],e,U,h=>by cases h
 | i ::π,sc::l,e,U,h=>by
   simp only[ij]at h;cases h1:iI S T sc e i with
   |none=>rw[h1]at h;cases h
   | some e1=>
     rw[h1]at h;have ih:=mK hT hid h;intro hm;rcases v'.1 hm with e2|e2
     ·subst e2;unfold iI at h1;cases ca:sc.st with
      |join a=>rw[ca]at h1;simp only[hT]at h1;cases h1
      |nt a=>rw[ca]at h1;simp only[if_neg hid]at h1;cases h1
      |test a=>rw[ca]at h1;simp only[hid,false_and,if_false]at h1;cases h1
     · exact ih e2
theorem Lk {N:Nat} {id:Int} {Q:Qc->Prop} (hW:pS C)(hA:Yv C)(hT:jC (mE T0 id) D)(hD:D.length<=3518437208882)(hlen:C.rows.length<=9223372036854775806)(hsl:∀R∈C.rows,R.steps.length<9223372036854775807/\B0+D.length+R.steps.length+R.steps.length+4099<N)(hAN:C.alphas.keys.length<N)(cr:∀R∈C.rows,∀sc∈R.steps,yT S I C (mE T0 id) sc)(hI:∀R∈C.rows,∀π e,ij S (mE T0 id) R.steps (R.hs,R.vs) π=some e->I e)(hMN:4099<N)(hid:id≠0)
  (h:Inv S C T0 (λ_=>T0) (λ_ _=>(T0,T0)) (λ_=>False) none loc s) (hP:∀(r:Nat) (R:gp) (π:List Int),C.rows[r]? =some R->im S (mE T0 id) R.steps (R.hs,R.vs) π≠none->(∀k,¬JK S (mE T0 id) T0 id R π k)->∃y,loc y=some (r,π))
  (hQ:∀U s',Inv S C (mE T0 id) (λ_=>mE T0 id) (λ_ _=>(mE T0 id,mE T0 id)) (λ_=>False) none U s'->(∀y r π,loc y=some (r,π)->id∉π->U y=some (r,π))->(rN U->yM S C (mE T0 id) U)->Q s'):Y3 N C.g id s Q:=by
 unfold Y3;refine PA (K:=λj=>fu (Gk (λnu nq=>XX N nu id nq) C.g j) λs5=>fu (Gk (λnu nq=>XY N nu id nq) C.g s5) λs6=>fp s6) (Tn:=mE T0 id) hA hAN h (λ_ _ _=>rfl) (λ_=>rfl) λs3 h3=>?_
 refine QZ ?_;refine PB (M:=4097) hW hlen (λR hR=>⟨(hsl R hR).1,by have:=(hsl R hR).2;omega⟩) an hid h3 h3.le λdc s1 h4 kr=>?_;refine QZ ?_
 have h5:=h4.congrT (T':=mE T0 id) (λp r π R e hp hr he=>by
  have hn:id∉π:=((kr p (r,π)).1 hp).2;exact(Bv (T:=T0) (T':=mE T0 id) (id:=id) (λi hi=>if_neg hi) hn).trans he)
 refine PC (I:=I) hW hT hD hlen (λR hR=>⟨(hsl R hR).1,by have:=(hsl R hR).2;omega⟩) hMN cr hI (if_pos rfl) (λi hi=>(if_neg hi).symm) h5 (λr R π hr hi hb=>?_) λU s' g1 g2 g3=>hQ U s' g1 (λy r π hy hn=>g2 _ _ ((kr y _).2 ⟨hy,hn⟩)) g3;obtain⟨y,hy⟩:=hP r R π hr hi hb;obtain⟨e,he⟩:=E'.1 hi;exact⟨y,(kr y _).2 ⟨hy,mK (T:=mE T0 id) (if_pos rfl) hid (O4 he)⟩⟩
end
end
section
open Go Go.RowKit Classical
section
variable {S:gO} {I:fg->Prop} {C:ic} {T T0:cg} {loc:Loc} {s:Qc} {D:List Int}
theorem Rq {f:Qo} {R:gp} {π:List Int} (hf:T f.id=some f)(hi:im S T R.steps (R.hs,R.vs) π≠none):∀k,¬HC S T f R π k:=λk ⟨e1,sc,a,e,e2,e3,e4,e5⟩=>by
 have U:im S T R.steps (R.hs,R.vs) (π.take k++π.drop k)≠none:=by rw[u'];exact hi
 rw[Sx]at U;cases gZ:im S T R.steps (R.hs,R.vs) (π.take k)with
 |none=>rw[gZ]at U;exact U rfl
 | some e'=>
   have hee:e'=e:=by have:=O4 gZ;rw[e4]at this;exact(Option.some.inj this).symm
   subst hee;have hl:(π.take k).length=k:=by simp;omega
   rw[gZ,j',hl,Sp e2,y' e1]at U;simp only[im,kz,e3]at U;rw[if_neg (λhh=>hh.2 f.id ⟨f,hf,e5⟩)]at U;exact U rfl
theorem Kt {N:Nat} {f:Qo} {Q:Qc->Prop} (hW:pS C)(hA:Yv C)(hT:jC (jS T0 f) D)(hD:D.length<=3518437208882)(hlen:C.rows.length<=9223372036854775806)(hsl:∀R∈C.rows,R.steps.length<9223372036854775807/\B0+D.length+R.steps.length+R.steps.length+4099<N)(hAN:C.alphas.keys.length<N)(cr:∀R∈C.rows,∀sc∈R.steps,yT S I C (jS T0 f) sc)(hI:∀R∈C.rows,∀π e,ij S (jS T0 f) R.steps (R.hs,R.vs) π=some e->I e)(hN0:B0+4099<N)(hid:f.id≠0)(Oj:T0 f.id=none)
  (U:∀A∈C.als,A.args.length<N/\A.args.length<9223372036854775807/\(f.ty=A.kind->∀(j:Nat) (a:gS),A.args[j]? =some a->∃v,f.args[j]? =some v))
  (h:Inv S C T0 (λ_=>T0) (λ_ _=>(T0,T0)) (λ_=>False) none loc s) (hP:∀(r:Nat) (R:gp) (π:List Int),C.rows[r]? =some R->im S (jS T0 f) R.steps (R.hs,R.vs) π≠none->f.id∉π->∃y,loc y=some (r,π))
  (hQ:∀bg s',Inv S C (jS T0 f) (λ_=>jS T0 f) (λ_ _=>(jS T0 f,jS T0 f)) (λ_=>False) none bg s'->(∀y r π,loc y=some (r,π)->(¬∃R k,C.rows[r]? =some R/\HC S (jS T0 f) f R π k)->bg y=some (r,π))->(rN bg->yM S C (jS T0 f) bg)->Q s'):TU N C.g f.id f.ty f.args s Q:=by
 have hf:jS T0 f f.id=some f:=if_pos rfl
 have j6:zj T0 (jS T0 f):=λi g hg=>by
  unfold jS;rw[if_neg (λe=>by rw[e,Oj]at hg;cases hg)];exact hg
 have h1:=h.congrT (T':=jS T0 f) (λp r π R e _ _ he=>u5 j6 he)
 have PY:∀y r π,loc y=some (r,π)->f.id∉π:=λy r π hy=>by
  obtain⟨R,x,_,_,a3⟩:=h.part y r π hy;exact mK Oj hid a3.env
 unfold TU;refine Pe (K:=λj=>fu (Gk (λnu nq=>XV N nu f.id f.ty f.args nq) C.g j) λs5=>fu (Gk (λnu nq=>XW N nu f.id f.ty f.args nq) C.g s5) λs6=>fp s6) hA hAN Oj U h1 λs3 h3=>?_
 refine QZ ?_;refine Pf (I:=I) hW hlen (λR hR=>⟨(hsl R hR).1,by have:=(hsl R hR).2;omega⟩) an cr hI U hf Oj (λi hi=>(if_neg hi).symm) h3 λdc s1 h4 kr=>?_;refine QZ ?_;refine Pg (I:=I) hW hT hD hlen (λR hR=>⟨(hsl R hR).1,by have:=(hsl R hR).2;omega⟩) an cr hI U hf hid h4 (λy r π hy=>PY y r π ((kr y r π).1 hy).1) (λr R π hr hi hn=>?_) λff s2 h5 jx _ hc=>hQ ff s2 h5 (λy r π hy ou=>jx _ _ ((kr y r π).2 ⟨hy,ou⟩)) hc;obtain⟨y,hy⟩:=hP r R π hr hi hn;refine⟨y,(kr y r π).2 ⟨hy,λ⟨R',k,e1,e2⟩=>?_⟩⟩;rw[hr]at e1;cases e1;exact Rq hf hi k e2
end
end
section
open Go Go.RowKit
structure tG where
 mt:Qv->List Bool->List V->Qo->Option (List Bool×List V)
 ev:Qv->List V->Bool
 sm:Qv->List Bool->List V->Bool
section
variable (S:tG) (facts:List Qo)
def goN:List Qv->List Bool->List V->List Int->List (List Int×List V)
 |[],_,vs,ids=>[(ids,vs)]
 | c::cs,hs,vs,ids=>
   if c.kind=3 then(if S.ev c vs then goN cs hs vs ids else[])
   else if c.kind=2 then(if S.sm c hs vs then[]else goN cs hs vs ids)
   else facts.flatMap λf=>match S.mt c hs vs f with
    |some p=>goN cs p.1 p.2 (ids++[f.id])
    |none=>[]
def xa:List Qv->List Bool->List V->Nat
 |[],_,_=>0
 | c::cs,hs,vs=>
   if c.kind=3 then(if S.ev c vs then 1+xa cs hs vs else 0)
   else if c.kind=2 then(if S.sm c hs vs then 0 else 1+xa cs hs vs)
   else (facts.map λf=>match S.mt c hs vs f with
    |some p=>1+xa cs p.1 p.2
    |none=>0).sum
def WW (c:Qv)(cs:List Qv)(hs:List Bool)(vs:List V)(ids:List Int)(f:Qo):List (List Int×List V):=match S.mt c hs vs f with
 |some p=>goN S facts cs p.1 p.2 (ids++[f.id])
 |none=>[]
def a07 (c:Qv)(cs:List Qv)(hs:List Bool)(vs:List V)(f:Qo):Nat:=match S.mt c hs vs f with
 |some p=>1+xa S facts cs p.1 p.2
 |none=>0
end
def Nu (r:Int)(x:List Int×List V):Qy:=⟨r,x.1⟩
theorem KN {α β:Type} {l:List α} {g:α->List β} {h:α->Nat} (U:∀x∈l,(g x).length<=h x):(l.flatMap g).length<=(l.map h).sum:=by
 induction l with
 |nil=>simp
 | cons x l ih=>
   rw[K',m',N',l!];have:=ih λy hy=>U y (g' _ hy)
   have:=U x F';omega
theorem zC {S:tG} {facts:List Qo}:∀(cs:List Qv)(hs:List Bool)(vs:List V)(ids:List Int),(goN S facts cs hs vs ids).length<=xa S facts cs hs vs+1
 |[],hs,vs,ids=>by simp[goN,xa]
 | c ::cs,hs,vs,ids=>by
   unfold goN xa;split
   ·split;· have:=zC (S:=S) (facts:=facts) cs hs vs ids;omega
    · simp
   ·split
    ·split;· simp
     · have:=zC (S:=S) (facts:=facts) cs hs vs ids;omega
    ·refine Nat.le_succ_of_le (KN λf _=>?_);cases hm:S.mt c hs vs f with
     |some p=>have:=zC (S:=S) (facts:=facts) cs p.1 p.2 (ids++[f.id]);simp only;omega
     |none=>simp
section
variable {S:tG} {facts:List Qo} {c:Qv} {cs:List Qv} {hs:List Bool} {vs:List V} {ids:List Int}
theorem a0a (h:c.kind=3):xa S facts (c::cs) hs vs=if S.ev c vs then 1+xa S facts cs hs vs else 0:=by rw[xa,if_pos h]
theorem a09 (U:¬c.kind=3)(h:c.kind=2):xa S facts (c::cs) hs vs=if S.sm c hs vs then 0 else 1+xa S facts cs hs vs:=by rw[xa,if_neg U,if_pos h]
theorem a08 (U:¬c.kind=3)(h:¬c.kind=2):xa S facts (c::cs) hs vs=(facts.map (a07 S facts c cs hs vs)).sum:=by rw[xa,if_neg U,if_neg h];rfl
theorem go3 (h:c.kind=3):goN S facts (c::cs) hs vs ids=if S.ev c vs then goN S facts cs hs vs ids else[]:=by rw[goN,if_pos h]
theorem go2 (U:¬c.kind=3)(h:c.kind=2):goN S facts (c::cs) hs vs ids=if S.sm c hs vs then[]else goN S facts cs hs vs ids:=by rw[goN,if_neg U,if_pos h]
theorem go1 (U:¬c.kind=3)(h:¬c.kind=2):goN S facts (c::cs) hs vs ids=facts.flatMap (WW S facts c cs hs vs ids):=by rw[goN,if_neg U,if_neg h];rfl
end
end
section
open Go Go.RowKit Classical
def fl (facts:List Qo):cg:=λi=>facts.find? λf=>decide (f.id=i)
theorem HF {facts:List Qo} (hn:(facts.map (·.id)).Nodup) {i:Int} {f:Qo}:fl facts i=some f↔f∈facts/\f.id=i:=by
 unfold fl;induction facts with
 |nil=>simp
 | cons g l ih=>
   rw[N',J']at hn;rw[List.find?_cons];by_cases hg:g.id=i
   ·rw [decide_eq_true hg];constructor;· intro h;cases h;exact⟨F',hg⟩
    ·rintro⟨h1,U⟩;rcases v'.1 h1 with rfl|h1;· rfl
     · exact absurd (f'.2 ⟨f,h1,by rw[U,hg]⟩) hn.1
   ·rw [decide_eq_false hg];show l.find? _=some f↔_;rw[ih hn.2];constructor;· rintro⟨h1,U⟩;exact⟨g' _ h1,U⟩
    ·rintro⟨h1,U⟩;rcases v'.1 h1 with rfl|h1;· exact absurd U hg
     · exact⟨h1,U⟩
theorem FV {facts:List Qo} {i:Int}:fl facts i=none↔∀f∈facts,f.id≠i:=by
 unfold fl;rw[List.find?_eq_none];simp
def po (S:gO)(facts:List Qo):tG:=⟨S.mt,S.ev,λc hs vs=>facts.any λf=>(S.mt c hs vs f).isSome⟩
def HN (sc:gh):Prop:=match sc.st with
 | .join _=>sc.c.kind=1
 | .nt _=>sc.c.kind=2
 | .test _=>sc.c.kind=3
def Gj (facts:List Qo)(sc:gh):List Int:=match sc.st with
 | .join _=>facts.map (·.id)
 | .nt _=>[0]
 | .test _=>[0]
noncomputable section
def sS (S:gO)(facts:List Qo):List gh->fg->List (List Int)
 |[],_=>[]
 | sc::l,e=>(Gj facts sc).flatMap λi=>match kz S (fl facts) sc e i with
   |some U=>[i]::(sS S facts l U).map λπ=>i::π
   |none=>[]
def wU (S:gO)(facts:List Qo):List gh->fg->List (List Int)
 |[],_=>[[]]
 | sc::l,e=>(Gj facts sc).flatMap λi=>match kz S (fl facts) sc e i with
   |some U=>(wU S facts l U).map λπ=>i::π
   |none=>[]
end
section
variable {S:gO} {facts:List Qo}
variable {sc:gh}{e:fg}{a:Nat}{i:Int}
theorem Cw (hn:(facts.map (·.id)).Nodup) {e':fg} (h:kz S (fl facts) sc e i=some e'):i∈Gj facts sc:=by
 unfold kz at h;unfold Gj;cases ca:sc.st with
 | join a=>
   rw[ca]at h;simp only at h⊢;cases hT:fl facts i with
   |none=>rw[hT]at h;cases h
   | some f=>
     obtain⟨h1,h2⟩:=(HF hn).1 hT;exact f'.2 ⟨f,h1,h2⟩
 | nt a=>
   rw[ca]at h;simp only at h⊢;split at h;· rename_i U;rw[U.1];simp
   · cases h
 | test a=>
   rw[ca]at h;simp only at h⊢;split at h;· rename_i U;rw[U.1];simp
   · cases h
theorem lz (hn:(facts.map (·.id)).Nodup):∀{l:List gh} {e:fg} {π:List Int},π∈sS S facts l e↔π≠[]/\im S (fl facts) l e π≠none
 |[],e,[]=>by simp[sS]
 |[],e,i::π=>by simp[sS,im]
 | sc::l,e,[]=>by
   simp only[sS,V',ne_eq,not_true_eq_false,false_and,iff_false,not_exists,not_and];intro i _ h;split at h
   ·rcases v'.1 h with h|h;· cases h
    · obtain⟨_,_,h⟩:=f'.1 h;cases h
   · cases h
 | sc ::l,e,i::π=>by
   simp only[sS,V',im];constructor
   ·rintro⟨j,_,h⟩;cases U:kz S (fl facts) sc e j with
    |none=>rw[U]at h;cases h
    | some e'=>
      rw[U]at h;simp only at h;rcases v'.1 h with h|h
      ·cases h;rw[U];refine⟨ax,?_⟩;cases l<;>simp[im]
      ·obtain⟨ρ,h1,h2⟩:=f'.1 h;cases h2;rw[U];exact⟨ax,((lz hn).1 h1).2⟩
   ·rintro⟨_,h⟩;cases U:kz S (fl facts) sc e i with
    |none=>rw[U]at h;exact absurd rfl h
    | some e'=>
      rw[U]at h;refine⟨i,Cw hn U,?_⟩;rw[U];simp only;by_cases hp:π=[]
      · subst hp;simp
      · exact g' _ (f'.2 ⟨π,(lz hn).2 ⟨hp,h⟩,rfl⟩)
theorem Um (hn:(facts.map (·.id)).Nodup):∀{l:List gh} {e:fg} {π:List Int},π∈wU S facts l e↔π.length=l.length/\im S (fl facts) l e π≠none
 |[],e,[]=>by simp[wU,im]
 |[],e,i::π=>by simp[wU]
 | sc::l,e,[]=>by
   simp only[wU,V',C',d'];constructor
   ·rintro⟨i,_,h⟩;split at h;· obtain⟨_,_,h⟩:=f'.1 h;cases h
    · cases h
   · rintro⟨h,_⟩;cases h
 | sc ::l,e,i::π=>by
   simp only[wU,V',im,d',Nat.add_right_cancel_iff];constructor
   ·rintro⟨j,_,h⟩;cases U:kz S (fl facts) sc e j with
    |none=>rw[U]at h;cases h
    | some e'=>
      rw[U]at h;obtain⟨ρ,h1,h2⟩:=f'.1 h;cases h2;rw[U];exact(Um hn).1 h1
   ·rintro⟨h0,h⟩;cases U:kz S (fl facts) sc e i with
    |none=>rw[U]at h;exact absurd rfl h
    | some e'=>
      rw[U]at h;refine⟨i,Cw hn U,?_⟩;rw[U];exact f'.2 ⟨π,(Um hn).2 ⟨h0,h⟩,rfl⟩
theorem Bn (U:(facts.map (·.id)).Nodup)(sc:gh):(Gj facts sc).Nodup:=by
 unfold Gj;split;· exact U
 · simp
 · simp
theorem wH {L:List (List Int)} (h:L.Nodup):(L.map λπ=>i::π).Nodup:=by
 refine List.Pairwise.map _ (λa b U=>?_) h;intro e;exact U (List.cons.inj e).2
theorem xG (hn:(facts.map (·.id)).Nodup):∀{l:List gh} {e:fg},(sS S facts l e).Nodup
 |[],e=>by simp[sS]
 | sc ::l,e=>by
   unfold sS;refine h!.2 ⟨λi _=>?_,List.Pairwise.imp (λDU=>?_) (Bn hn sc)⟩
   ·cases hj:kz S (fl facts) sc e i with
    |none=>exact List.Pairwise.nil
    | some e'=>
      simp only;refine J'.2 ⟨λh=>?_,wH (xG hn)⟩;obtain⟨ρ,h1,h2⟩:=f'.1 h;cases h2;exact((lz hn).1 h1).1 rfl
   ·rename_i i j
    have hd:∀k x,(x∈match kz S (fl facts) sc e k with|some e'=>[k]::(sS S facts l e').map (λπ=>k::π)|none=>[])->x.head? =some k:=λk x U=>by
      split at U
      ·rcases v'.1 U with rfl|U;· rfl
       · obtain⟨ρ,_,rfl⟩:=f'.1 U;rfl
      · cases U
    intro x U y hy GN;have h1:=hd i x U;have h2:=hd j y hy;rw[GN,h2]at h1;exact DU (Option.some.inj h1).symm
theorem Gs (U:(facts.map (·.id)).Nodup):(∀j,¬lq S sc e (fl facts) j)↔(facts.any λf=>(S.mt sc.c e.1 e.2 f).isSome)=false:=by
 rw[List.any_eq_false];constructor
 ·intro h f hf hs;exact h f.id ⟨f,(HF U).2 ⟨hf,rfl⟩,hs⟩
 ·rintro h j ⟨f,h1,h2⟩;exact h f ((HF U).1 h1).1 h2
theorem Cx (hn:(facts.map (·.id)).Nodup) (U:sc.st=.join a) {f:Qo} (hf:f∈facts):kz S (fl facts) sc e f.id=S.mt sc.c e.1 e.2 f:=by
 unfold kz;rw[U];simp only;rw[(HF hn).2 ⟨hf,rfl⟩];rfl
theorem Mk (U:(facts.map (·.id)).Nodup) (ca:sc.st=.nt a):kz S (fl facts) sc e 0=if(facts.any λf=>(S.mt sc.c e.1 e.2 f).isSome)=true then none else some e:=by
 unfold kz;rw[ca];simp only;cases hx:(facts.any λf=>(S.mt sc.c e.1 e.2 f).isSome)with
 |false=>rw[if_pos ⟨ax,(Gs U).2 hx⟩,if_neg ax]
 |true=>rw[if_neg (λh=>by have:=(Gs U).1 h.2;rw[hx]at this;cases this),if_pos rfl]
theorem Cy {T:cg} (U:sc.st=.test a):kz S T sc e 0=if S.ev sc.c e.2=true then some e else none:=by
 unfold kz;rw[U];simp only;cases S.ev sc.c e.2 with
 |false=>rw[if_neg ax,if_neg ax]
 |true=>rw[if_pos ⟨ax,ax⟩,if_pos rfl]
theorem Qci {α β:Type}:∀{l:List α} {g h:α->List β},(∀x∈l,g x=h x)->l.flatMap g=l.flatMap h
 |[],_,_,_=>rfl
 |x::l,g,h,U=>by rw[K',K',U x F',Qci λy hy=>U y (g' _ hy)]
theorem GO (hn:(facts.map (·.id)).Nodup):∀{l:List gh} {e:fg},(∀sc∈l,HN sc)->(sS S facts l e).length=xa (po S facts) facts (l.map (·.c)) e.1 e.2
 |[],e,_=>by simp[sS,xa]
 | sc::l,e,hk=>by
   have ih:=λe'=>GO hn (l:=l) (e:=e') λs hs=>hk s (g' _ hs);have U:=hk sc F';unfold HN at U;rw[sS,List.length_flatMap,N'];cases ca:sc.st with
   | join a=>
     rw[ca]at U;simp only at U;rw[a08 an an];unfold Gj;rw[ca];simp only[X'];congr 1;refine M' λf hf=>?_
     simp only[Function.comp_apply];rw[Cx hn ca hf];unfold a07 po;simp only;cases hm:S.mt sc.c e.1 e.2 f with
     |none=>rfl
     | some p=>
       simp only[d',c'];have:=ih p;unfold po at this;omega
   | nt a=>
     rw[ca]at U;simp only at U;rw[a09 an U];unfold Gj;rw[ca];simp only[N',y!,l!,z!,A!];rw[Mk hn ca];show _=if(facts.any λf=>(S.mt sc.c e.1 e.2 f).isSome)=true then _ else _
     by_cases hb:(facts.any λf=>(S.mt sc.c e.1 e.2 f).isSome)=true;· rw[if_pos hb,if_pos hb];rfl
     · rw[if_neg hb,if_neg hb];simp only[d',c'];have:=ih e;omega
   | test a=>
     rw[ca]at U;simp only at U;rw[a0a U];unfold Gj;rw[ca];simp only[N',y!,l!,z!,A!];rw[Cy ca];show _=if S.ev sc.c e.2=true then _ else _
     by_cases hb:S.ev sc.c e.2=true
     · rw[if_pos hb,if_pos hb];simp only[d',c'];have:=ih e;omega
     · rw[if_neg hb,if_neg hb];rfl
theorem GF (hn:(facts.map (·.id)).Nodup)(j5:∀f∈facts,0<f.id):∀{l:List gh} {e:fg} {ids:List Int},(∀sc∈l,HN sc)->(goN (po S facts) facts (l.map (·.c)) e.1 e.2 ids).map (·.1)=(wU S facts l e).map λπ=>ids++π.filter λi=>decide (0<i)
 |[],e,ids,_=>by simp[wU,goN]
 | sc::l,e,ids,hk=>by
   have ih:=λe' a2W=>GF hn j5 (l:=l) (e:=e') (ids:=a2W) λs hs=>hk s (g' _ hs);have U:=hk sc F';unfold HN at U;rw[wU,N'];cases ca:sc.st with
   | join a=>
     rw[ca]at U;simp only at U;rw[go1 an an];unfold Gj;rw[ca];simp only[List.map_flatMap,List.flatMap_map];refine Qci λf hf=>?_
     rw[Cx hn ca hf];unfold WW;show List.map _ (match S.mt sc.c e.1 e.2 f with|some p=>_|none=>_)=_;cases hm:S.mt sc.c e.1 e.2 f with
     |none=>rfl
     | some p=>
       simp only[ih p (ids++[f.id]),X'];refine M' λπ _=>?_
       simp only[Function.comp_apply];rw[w' (cx (j5 f hf))];simp
   | nt a=>
     rw[ca]at U;simp only at U;rw[go2 an U];unfold Gj;rw[ca];simp only[K',r!,t!];rw[Mk hn ca];show List.map _ (if(facts.any λf=>(S.mt sc.c e.1 e.2 f).isSome)=true then _ else _)=_;by_cases hb:(facts.any λf=>(S.mt sc.c e.1 e.2 f).isSome)=true;· rw[if_pos hb,if_pos hb];rfl
     · rw[if_neg hb,if_neg hb];simp only[ih e ids,X'];refine M' λπ _=>?_
       simp only[Function.comp_apply];rw[B' ax]
   | test a=>
     rw[ca]at U;simp only at U;rw[go3 U];unfold Gj;rw[ca];simp only[K',r!,t!];rw[Cy ca];show List.map _ (if S.ev sc.c e.2=true then _ else _)=_;by_cases hb:S.ev sc.c e.2=true
     · rw[if_pos hb,if_pos hb];simp only[ih e ids,X'];refine M' λπ _=>?_
       simp only[Function.comp_apply];rw[B' ax]
     · rw[if_neg hb,if_neg hb];rfl
end
end
section
open Go Go.RowKit Classical
section
variable {S:gO} {C:ic} {T:cg} {Ta:Nat->cg} {Zo:Nat->Prop} {cq:Option Nat} {loc:Loc} {s:Qc} {facts:List Qo}
theorem Inv.sound (h:Inv S C T Ta (λ_ _=>(T,T)) Zo cq loc s) {r:Nat} {R:gp} (hr:C.rows[r]? =some R):∀(n:Nat)(π:List Int)(p:Nat),π.length=n->loc p=some (r,π)->im S T R.steps (R.hs,R.vs) π≠none:=by
 intro n;induction n with
 | zero=>
   intro π p hn hp;rw[e!.1 hn];cases R.steps<;>simp[im]
 | succ n ih=>
   intro π p hn hp;rcases S' π with e|⟨ρ,i,e⟩
   · subst e;cases hn
   ·have e:π=ρ++[i]:=by simpa using e
    subst e;obtain⟨R',x,a1,_,a3⟩:=h.part p r _ hp;rw[hr]at a1;cases a1;obtain⟨_,q,_,hq⟩:=a3.up ρ i rfl;have Th:=ih ρ q (cx hn) hq;obtain⟨e',GI⟩:=E'.1 Th;obtain⟨R',z,b1,_,b3⟩:=h.part q r ρ hq;rw[hr]at b1;cases b1;have hee:e'=(z.has,z.vals):=by have:=O4 GI;rw[b3.env]at this;exact(Option.some.inj this).symm
    have U:=a3.env;rw[QaS,b3.env,j']at U;cases fj:R.steps[ρ.length]? with
    |none=>rw[fj]at U;cases U
    | some sc=>
      rw[fj,j']at U;rw[Sx,GI,j',y' (b'.1 fj).1,(b'.1 fj).2]
      have cr:kz S T sc e' i=some (x.has,x.vals):=by
       rw[hee];unfold iI at U;unfold kz;cases ca:sc.st with
       |join a=>rw[ca]at U;exact U
       | nt a=>
         rw[ca]at U;simp only at U⊢;split at U
         ·rename_i hi;rw[if_pos ⟨hi,b3.free sc a fj ca ⟨p,i,hp⟩⟩];exact U
         · cases U
       |test a=>rw[ca]at U;exact U
      simp only[im,cr,j'];cases R.steps.drop (ρ.length+1)<;>simp[im]
noncomputable def zl (S:gO)(facts:List Qo):List gp->Nat->List (Nat×List Int)
 |[],_=>[]
 |R::l,k=>((sS S facts R.steps (R.hs,R.vs)).map λπ=>(k,π))++zl S facts l (k+1)
theorem nT (hn:(facts.map (·.id)).Nodup):∀{l:List gp} {k r:Nat} {π:List Int},(r,π)∈zl S facts l k↔∃R j,l[j]? =some R/\r=k+j/\π≠[]/\im S (fl facts) R.steps (R.hs,R.vs) π≠none
 |[],k,r,π=>by simp[zl]
 | R::l,k,r,π=>by
   rw[zl,t',nT hn (l:=l)];constructor
   ·rintro(h|⟨R',j,h1,U,h3⟩)
    · obtain⟨ρ,h1,U⟩:=f'.1 h;cases U;exact⟨R,0,rfl,rfl,(lz hn).1 h1⟩
    · exact⟨R',j+1,by simpa using h1,an,h3⟩
   ·rintro⟨R',j,h1,U,h3⟩;cases j with
    | zero=>
      left;simp only[d!,Option.some.injEq]at h1;subst h1;exact f'.2 ⟨π,(lz hn).2 h3,by rw[U];rfl⟩
    |succ j=>exact .inr ⟨R',j,by simpa using h1,an,h3⟩
theorem tJ (U:(facts.map (·.id)).Nodup):∀{l:List gp} {k:Nat},(zl S facts l k).Nodup
 |[],k=>by simp[zl]
 | R::l,k=>by
   rw[zl];refine G'.2 ⟨?_,tJ U,λx hx y hy GN=>?_⟩;· exact List.Pairwise.map _ (λa b DR e=>DR (Prod.mk.inj e).2) (xG U)
   ·obtain⟨ρ,_,rfl⟩:=f'.1 hx;subst GN;obtain⟨_,j,_,h2,_⟩:=(nT U).1 hy;omega
noncomputable def iJ (S:gO)(facts:List Qo)(l:List gp):Nat:=(l.map λR=>(sS S facts R.steps (R.hs,R.vs)).length).sum
theorem tI:∀{l:List gp} {k:Nat},(zl S facts l k).length=iJ S facts l
 |[],k=>rfl
 | R::l,k=>by
   rw[zl,m',c',tI (l:=l)];rfl
theorem Inv.cnt_le (hn:(facts.map (·.id)).Nodup)(h:Inv S C (fl facts) Ta (λ_ _=>(fl facts,fl facts)) Zo cq loc s) {n:Nat} (hc:jl loc n):n<=iJ S facts C.rows:=by
 obtain⟨L,a1,a2,rfl⟩:=hc;rw[<-tI (k:=0),<-c' (f:=λp=>(loc p).getD (0,[]))];refine Je ?_ λz hz=>?_
 ·refine List.Pairwise.map _ (λa b DR e=>?_) (List.Pairwise.and_mem.1 a1);obtain⟨ha,hb,DR⟩:=DR;obtain⟨r,π,h1,_⟩:=(a2 a).1 ha;obtain⟨r',gL,U,_⟩:=(a2 b).1 hb;rw[h1,U]at e;simp only[Option.getD_some]at e;rw[<-e]at U;exact DR (h.inj _ _ _ h1 U)
 ·obtain⟨p,hp,rfl⟩:=f'.1 hz;obtain⟨r,π,h1,U⟩:=(a2 p).1 hp;rw[h1];obtain⟨R,x,b1,_,_⟩:=h.part p r π h1;exact(nT hn).2 ⟨R,r,b1,ax,U,h.sound b1 _ _ _ rfl h1⟩
theorem UF (U:(facts.map (·.id)).Nodup)(hC:yM S C (fl facts) loc) {n:Nat} (hc:jl loc n):iJ S facts C.rows<=n:=by
 obtain⟨L,a1,a2,rfl⟩:=hc;rw[<-tI (k:=0),show L.length=(L.map λp=>(loc p).getD (0,[])).length from(c' _).symm];refine Je (tJ U) λz hz=>?_;obtain⟨r,π⟩:=z;obtain⟨R,j,h1,h2,h3,h4⟩:=(nT U).1 hz;obtain rfl:r=j:=an
 obtain⟨y,hy⟩:=hC r R h1 π h4;rw[W']at hy;exact f'.2 ⟨y,(a2 y).2 ⟨r,π,hy,h3⟩,by rw[hy];rfl⟩
theorem Inv.notFull (hn:(facts.map (·.id)).Nodup)(h:Inv S C (fl facts) Ta (λ_ _=>(fl facts,fl facts)) Zo cq loc s)(hC:rN loc->yM S C (fl facts) loc):rN loc↔iJ S facts C.rows<=4096:=by
 constructor
 ·intro hf;refine Nat.le_of_not_lt λbp=>?_
  obtain⟨n,U⟩:=h.cnt;have:=hf n U;have:=UF hn (hC hf) U;omega
 · exactλhf n U=>o! (h.cnt_le hn U) hf
end
def iH (f:Qo):List Qo->List Qo
 |[]=>[f]
 |g::l=>if f.id<g.id then f::g::l else g::iH f l
def jW (id:Int)(l:List Qo):List Qo:=l.filter λg=>decide (g.id≠id)
section
variable {f g:Qo} {facts:List Qo} {id:Int}
theorem U9:∀{l:List Qo},g∈iH f l↔g=f\/g∈l
 |[]=>by simp[iH]
 | x ::l=>by
   rw[iH];split;· simp
   ·rw [v',U9,v'];constructor
    ·rintro(h|h|h);· exact .inr (.inl h)
     · exact .inl h
     · exact .inr (.inr h)
    ·rintro(h|h|h);· exact .inr (.inl h)
     · exact .inl h
     · exact .inr (.inr h)
theorem tV {l:List Qo}:g∈jW id l↔g∈l/\g.id≠id:=by
 unfold jW;rw[List.mem_filter];simp
abbrev kO (l:List Qo):Prop:=l.Pairwise λa b=>a.id<b.id
theorem kO.nodup {l:List Qo} (h:kO l):(l.map (·.id)).Nodup:=List.Pairwise.map _ (λ_ _ U=>Int.ne_of_lt U) h
theorem kO.ins:∀{l:List Qo},kO l->(∀g∈l,g.id≠f.id)->kO (iH f l)
 |[],_,_=>by simp[iH]
 | x::l,h,hn=>by
   obtain⟨h1,h2⟩:=Y'.1 h;rw[iH];have hx:=hn x F';split
   ·rename_i U;refine Y'.2 ⟨λy hy=>?_,h⟩;rcases v'.1 hy with rfl|hy;· exact U
    · have:=h1 y hy;omega
   ·rename_i U;refine Y'.2 ⟨λy hy=>?_,kO.ins h2 λg hg=>hn g (g' _ hg)⟩;rcases U9.1 hy with rfl|hy;· omega
    · exact h1 y hy
theorem kO.del {l:List Qo} (h:kO l):kO (jW id l):=h.filter _
theorem RR (h:kO facts)(hn:∀g∈facts,g.id≠f.id):fl (iH f facts)=jS (fl facts) f:=by
 funext i;refine B! λx=>?_
 rw[HF (h.ins hn).nodup,U9];unfold jS;by_cases hi:i=f.id
 ·rw [if_pos hi];constructor
  ·rintro⟨rfl|h1,U⟩;· rfl
   · exact absurd (U.trans hi) (hn x h1)
  · intro h1;cases h1;exact⟨.inl rfl,hi.symm⟩
 ·rw [if_neg hi,HF h.nodup];constructor
  ·rintro⟨rfl|h1,U⟩;· exact absurd U.symm hi
   · exact⟨h1,U⟩
  · rintro⟨h1,U⟩;exact⟨.inr h1,U⟩
theorem RQ (h:kO facts):fl (jW id facts)=mE (fl facts) id:=by
 funext i;refine B! λx=>?_
 rw[HF (h.del).nodup,tV];unfold mE;by_cases hi:i=id
 ·rw[if_pos hi];constructor
  ·rintro⟨⟨_,h1⟩,U⟩;exact absurd (U.trans hi) h1
  · intro h1;cases h1
 ·rw[if_neg hi,HF h.nodup];constructor;· rintro⟨⟨h1,_⟩,U⟩;exact⟨h1,U⟩
  · rintro⟨h1,U⟩;exact⟨⟨h1,λe=>hi (U.symm.trans e)⟩,U⟩
theorem Qck:∀{l:List Qo},(iH f l).length=l.length+1
 |[]=>rfl
 | x::l=>by
   rw[iH];split;· rfl
   · rw[d',Qck];rfl
theorem Kx {l:List Qo}:(jW id l).length<=l.length:=i! _ _
end
end
section
open Go Go.RowKit Classical
theorem mW {A R:Type} {Q:R->Prop} {f:A->WM R} {g:(A->WM R)->WM R} (h:∀k,k=f->g k Q):lO f g Q:=h f rfl
section
variable {S:gO} {T T':cg}
theorem Mj {sc:gh} {e:fg} {i id:Int} (hs:zj T T')(hi:∀j,j≠id->T j=T' j)(hn:i≠id) {U:fg} (h:kz S T' sc e i=some U):kz S T sc e i=some U:=by
 unfold kz at h⊢;cases ca:sc.st with
 |join a=>rw[ca]at h;simp only at h⊢;rw[hi i hn];exact h
 | nt a=>
   rw[ca]at h;simp only at h⊢;split at h
   ·rename_i hh;rw[if_pos ⟨hh.1,λj ⟨f,h1,h2⟩=>hh.2 j ⟨f,hs j f h1,h2⟩⟩];exact h
   · cases h
 |test a=>rw[ca]at h;exact h
theorem C2 {id:Int} (hs:zj T T')(hi:∀j,j≠id->T j=T' j):∀{π:List Int} {l:List gh} {e:fg},id∉π->im S T' l e π≠none->im S T l e π≠none
 |[],l,e,_,_=>by cases l<;>simp[im]
 |i::π,[],e,_,h=>by simp[im]at h
 | i ::π,sc::l,e,hn,h=>by
   simp only[im]at h⊢;cases h1:kz S T' sc e i with
   |none=>rw[h1]at h;exact absurd rfl h
   | some e1=>
     rw[h1]at h;rw[Mj hs hi (λU=>hn (by rw[U];simp)) h1];exact C2 hs hi (λU=>hn (g' _ U)) h
theorem M0 (hs:zj T T') {l:List gh} {e:fg} {π:List Int} (hb:∀n sc a e1,n<π.length->l[n]? =some sc->sc.st=.nt a->im S T l e (π.take n)=some e1->∀j,lq S sc e1 T' j->lq S sc e1 T j) (h:im S T l e π≠none):∀n,n<=π.length->∃e1,im S T l e (π.take n)=some e1/\im S T' l e (π.take n)=some e1:=by
 intro n;induction n with
 |zero=>intro _;exact⟨e,by rw[v!];cases l<;>rfl,by rw[v!];cases l<;>rfl⟩
 | succ n ih=>
   intro hn;obtain⟨e1,h1,h2⟩:=ih an;have hx:im S T l e (π.take (n+1)++π.drop (n+1))≠none:=by rw[u'];exact h
   rw[Sx]at hx
   obtain ⟨e2,U⟩:∃e2,im S T l e (π.take (n+1))=some e2:=by
     cases hh:im S T l e (π.take (n+1))with
     |none=>rw[hh]at hx;exact absurd rfl hx
     |some e2=>exact⟨e2,rfl⟩
   refine⟨e2,U,?_⟩;have mc:π[n]? =some π[n]:=i' an;have hlen:(π.take n).length=n:=by simp;omega
   rw[p!,mc,Option.toList_some,Sx]at U⊢;rw[h1,j',hlen]at U;rw[h2,j',hlen];cases hd:l.drop n with
   |nil=>rw[hd]at U;cases U
   | cons sc l'=>
     rw[hd]at U
     have fj:l[n]? =some sc:=by
       have:=congrArg (λx=>x[0]?) hd;simpa using this
     simp only[im]at U⊢;cases ho:kz S T sc e1 π[n]with
     |none=>rw[ho]at U;cases U
     | some e3=>
       rw[ho,j']at U
       have ho2:kz S T' sc e1 π[n]=some e3:=by
        unfold kz at ho⊢;cases ca:sc.st with
        | join a=>
          rw[ca]at ho;simp only at ho⊢;cases hT:T π[n]with
          |none=>rw[hT]at ho;cases ho
          |some f=>rw[hT]at ho;rw[hs _ _ hT];exact ho
        | nt a=>
          rw[ca]at ho;simp only at ho⊢;split at ho
          ·rename_i hh;rw[if_pos ⟨hh.1,λj hj=>hh.2 j (hb n sc a e1 an fj ca h1 j hj)⟩];exact ho
          · cases ho
        |test a=>rw[ca]at ho;exact ho
       rw[ho2,j'];exact U
end
structure tx (S:gO) (I:fg->Prop) (P:Qo->Prop) (C:ic):Prop where
 W:pS C
 A:Yv C
 rP:C.rP.isNone=false
 rows:C.rows.length<=1000
 steps:∀R∈C.rows,R.steps.length<=1000
 alk:C.alphas.keys.length<=1000000
 ok:∀T:cg,(∀i f,T i=some f->P f)->∀R∈C.rows,∀sc∈R.steps,yT S I C T sc
 I0:∀R∈C.rows,I (R.hs,R.vs)
 ar:∀A∈C.als,A.args.length<=1000000/\∀f,P f->f.ty=A.kind->A.args.length<=f.args.length
structure rL (S:gO) (P:Qo->Prop) (C:ic) (facts:List Qo) (loc:Loc) (s:Qc):Prop where
 inv:Inv S C (fl facts) (λ_=>fl facts) (λ_ _=>(fl facts,fl facts)) (λ_=>False) none loc s
 comp:yM S C (fl facts) loc
 ris:kO facts
 fr:∀f∈facts,P f/\1<=f.id/\f.id<=1099511627776
 le:iJ S facts C.rows<=4096
section
variable {S:gO} {I:fg->Prop} {P:Qo->Prop} {C:ic} {loc:Loc} {s:Qc} {facts:List Qo} {f:Qo} {id:Int}
variable {N:Nat}{Q:Nat×Qc->Prop}
theorem Qcx (hr:kO facts)(hf:∀f∈facts,P f/\1<=f.id/\f.id<=1099511627776)(hl:facts.length<=1000001):jC (fl facts) (facts.map (·.id)):=
 ⟨λi f h=>by
  obtain⟨h1,U⟩:=(HF hr.nodup).1 h;obtain⟨_,h3,h4⟩:=hf f h1;exact⟨f'.2 ⟨f,h1,U⟩,U,an,an⟩,by rw[c'];omega⟩
theorem pn (hr:kO facts)(U:∀f∈facts,P f/\1<=f.id/\f.id<=1099511627776):∀i f,fl facts i=some f->P f:=λi f h=>(U f ((HF hr.nodup).1 h).1).1
theorem tx.hI (U:tx S I P C)(hr:kO facts)(hf:∀f∈facts,P f/\1<=f.id/\f.id<=1099511627776)(hl:facts.length<=1000001):∀R∈C.rows,∀π e,ij S (fl facts) R.steps (R.hs,R.vs) π=some e->I e:=
 λR hR _ _ he=>KE (Qcx hr hf hl) (U.ok _ (pn hr hf) R hR) (U.I0 R hR) he
theorem tx.hsl (U:tx S I P C) {N:Nat} {D:List Int} (hN:B0+4000000<=N)(hl:D.length<=1000001):∀R∈C.rows,R.steps.length<9223372036854775807/\B0+D.length+R.steps.length+R.steps.length+4099<N:=λR hR=>by
 have:=U.steps R hR;omega
theorem RL (hn:fl facts f.id=none):zj (fl facts) (jS (fl facts) f):=λi g U=>by
 unfold jS;rw[if_neg (λe=>by rw[e,hn]at U;cases U)];exact U
theorem Pm {T:cg} (U:T f.id=none):mE (jS T f) f.id=T:=by
 funext i;unfold mE jS;by_cases hi:i=f.id;· rw[if_pos hi,hi,U]
 · rw[if_neg hi,if_neg hi]
theorem RB {T:cg} (U:T f.id=some f):jS (mE T f.id) f=T:=by
 funext i;unfold jS;by_cases hi:i=f.id;· rw[if_pos hi,hi,U]
 ·rw[if_neg hi];exact if_neg hi
theorem Ic {T:cg} {R:gp} {π:List Int} {k:Nat} (hn:T f.id=none)(hi:im S T R.steps (R.hs,R.vs) π≠none)(h:HC S (jS T f) f R π k):JK S T (jS T f) f.id R π k:=by
 obtain⟨h1,sc,a,e,h2,h3,h4,h5⟩:=h
 have j6:zj T (jS T f):=λi g U=>by
   unfold jS;rw[if_neg (λe=>by rw[e,hn]at U;cases U)];exact U
 have hx:im S T R.steps (R.hs,R.vs) (π.take k++π.drop k)≠none:=by rw[u'];exact hi
 rw[Sx]at hx;cases hh:im S T R.steps (R.hs,R.vs) (π.take k)with
 |none=>rw[hh]at hx;exact absurd rfl hx
 | some e'=>
   have h6:=O4 hh;have h7:=u5 j6 h6;rw[h4]at h7;cases h7;exact⟨h1,sc,a,e,h2,h3,h6,f,if_pos rfl,h5⟩
noncomputable def addN (S:gO)(rt:Qo->Bool)(C:ic)(facts:List Qo)(f:Qo):List Qo×Nat:=
 if rt f=true then(if(fl facts f.id).isSome=true then(facts,7)else if iJ S (iH f facts) C.rows<=4096 then(iH f facts,0)else(facts,204))else(facts,2)
noncomputable def tZ (S:gO)(C:ic)(facts:List Qo)(id:Int):List Qo×Nat:=
 if(fl facts id).isSome=true then(if iJ S (jW id facts) C.rows<=4096 then(jW id facts,0)else(facts,204))else(facts,6)
def DH (vb:V->Bool)(types:List Qa)(f:Qo):Bool:=
 decide (1<=f.id/\f.id<=1099511627776)&&(decide (0<=f.ty)&&((match types[f.ty.toNat]? with
  |some t=>t.fields==((f.args.length:Nat):Int)
  |none=>false)&&f.args.all vb))
theorem tg {R:Type} {K:Bool->WM R} {Q:R->Prop} (hG:tx S I P C)(h:rL S P C facts loc s)(hQ:K true Q):fu (Sc N C.g s) K Q:=by
 obtain⟨x,h1,_,_,_,U,_⟩:=h.inv.gNet;refine QZ ?_;unfold Sc;refine Qk h1 ?_;show K (!Option.isNone x.rowsP) Q;rw[U,hG.rP];exact hQ
theorem YY {Q:Nat->Prop} (hG:tx S I P C)(h:rL S P C facts loc s)(hQ:Q facts.length):ZL N C.g s Q:=by
 unfold ZL;refine tg hG h ?_;refine Ba rfl ?_;obtain⟨x,h1,_,_,_,_,_,_,_,U,_⟩:=h.inv.gNet;refine Qk h1 ?_
 have e:x.facts.es.length=facts.length:=by
  have e1:x.facts.keys.length=x.facts.es.length:=by unfold MS.keys;rw[c']
  have e2:(facts.map (·.id)).length=facts.length:=c' _
  have hk:∀i,i∈x.facts.keys↔i∈facts.map (·.id):=λi=>by
   rw[MS.look_iff];constructor
   ·rintro⟨f,hf⟩;rw[U.2]at hf;obtain⟨g1,g2⟩:=(HF h.ris.nodup).1 hf;exact f'.2 ⟨f,g1,g2⟩
   ·intro hi;obtain⟨f,g1,g2⟩:=f'.1 hi;exact⟨f,by rw[U.2];exact(HF h.ris.nodup).2 ⟨g1,g2⟩⟩
  rw[<-e1,<-e2];exact Nat.le_antisymm (Je U.1 λz hz=>(hk z).1 hz) (Je h.ris.nodup λz hz=>(hk z).2 hz)
 show Q x.facts.es.length;rw[e];exact hQ
theorem rL.parts (h:Inv S C (fl facts) (λ_=>fl facts) (λ_ _=>(fl facts,fl facts)) (λ_=>False) none loc s)(hr:kO facts)(hc:rN loc->yM S C (fl facts) loc):∃x,gNet s C.g=some x/\(x.parts>4096↔¬iJ S facts C.rows<=4096):=by
 obtain⟨x,h1,_,_,_,_,_,_,_,_,n,h4,h5⟩:=h.gNet;refine⟨x,h1,?_⟩;rw[h4];have h6:=h.notFull hr.nodup hc;rw[<-h6];constructor
 ·intro hn U;have:=U n h5;omega
 ·intro U;refine Int.not_le.1 λhn=>U λm hm=>?_
  have:=hm.unique h5;omega
theorem YS {vb:V->Bool} (hN:B0+4000000<=N)(hG:tx S I P C)(h:rL S P C facts loc s)(hl:facts.length<=1000000)(hC:XI N f.args=some (!(f.args.all vb)))(gj:DH vb C.types f=true->P f)(GH:f.args.length<=4398046511104)
  (hQ:∀bg s',rL S P C (addN S (DH vb C.types) C facts f).1 bg s'->Q ((addN S (DH vb C.types) C facts f).2,s')):ZK N C.g f.id f.ty f.args s Q:=by
 obtain⟨x,Te,_,DX,_,_,_,_,_,hx3,_⟩:=h.inv.gNet;unfold ZK;refine tg hG h ?_;refine Ba rfl ?_;refine mW λkj Ip=>?_
 have jX:DH vb C.types f=false->kj true Q:=λhr=>by
  subst Ip;refine kU rfl ?_;have:=hQ loc s;unfold addN at this;rw[if_neg (by rw[hr];simp)]at this;exact this h
 have a0P:DH vb C.types f=true->kj false Q:=λhr=>by
  subst Ip;refine Ba rfl ?_;refine mW λkj2 PV=>?_
  refine Qk Te ?_;refine zZ (λou=>?_) (λg hg=>?_)
  ·subst PV;refine Ba rfl ?_;refine iE GH ?_;rw[hx3.2]at ou;have hid:=hr;unfold DH at hid;simp only[Bool.and_eq_true,decide_eq_true_eq]at hid;have hnm:∀g∈facts,g.id≠f.id:=FV.1 ou;have qg:=h.ris.ins hnm
   have mP:∀g∈iH f facts,P g/\1<=g.id/\g.id<=1099511627776:=λg hg=>by
    rcases U9.1 hg with rfl|hg;· exact⟨gj hr,hid.1⟩
    · exact h.fr g hg
   have hlen:(iH f facts).length<=1000001:=by rw[Qck];omega
   have et:=RR h.ris hnm;have hTo:=Qcx qg mP hlen;refine QZ ?_;show TU N C.g f.id f.ty f.args s _
   refine Kt (I:=I) (T0:=fl facts) (D:=(iH f facts).map (·.id)) hG.W hG.A (by rw[<-et];exact hTo) (by rw[c'];omega) (by have:=hG.rows;omega) (hG.hsl hN (by rw[c'];exact hlen)) (by have:=hG.alk;omega) (by rw[<-et];exact hG.ok _ (pn qg mP)) (by rw[<-et];exact hG.hI qg mP hlen) an an ou
    (λA hA=>⟨by have:=(hG.ar A hA).1;omega,by have:=(hG.ar A hA).1;omega,λWp j a hj=>by
     have h1:=(hG.ar A hA).2 f (gj hr) Wp;have h2:=(b'.1 hj).1;exact⟨_,i' an⟩⟩) h.inv (λr R π hR hi hn=>?_) λbg s' h1 h2 h3=>?_
   ·have:=h.comp r R hR π (C2 (id:=f.id) (RL ou) (λj hj=>by unfold jS;rw[if_neg hj]) hn hi);simpa using this
   ·rw [<-et]at h1 h3;obtain⟨z,hz1,R5⟩:=rL.parts h1 qg h3;refine Qk hz1 ?_;refine jA (λU=>?_) (λU=>?_)
    ·
     have LL:=R5.1 (of_decide_eq_true U);refine QZ ?_;rw[et]at h1;have ed:mE (jS (fl facts) f) f.id=fl facts:=Pm ou;refine Lk (I:=I) (T0:=jS (fl facts) f) (D:=facts.map (·.id)) hG.W hG.A (by rw[ed];exact Qcx h.ris h.fr an) (by rw[c'];omega) (by have:=hG.rows;omega) (hG.hsl hN (by rw[c'];omega)) (by have:=hG.alk;omega) (by rw[ed];exact hG.ok _ (pn h.ris h.fr)) (by rw[ed];exact hG.hI h.ris h.fr an) an an h1 (λr R π hR hi U=>?_) λff s2 g1 _ g3=>?_
     ·rw [ed]at hi U;obtain⟨y,hy⟩:=h.comp r R hR π hi;rw[W']at hy
      exact ⟨y,h2 y r π hy λ⟨R',k,e1,e2⟩=>by
       rw[hR]at e1;cases e1;exact U k (Ic ou hi e2)⟩
     ·rw[ed]at g1 g3;have hq:=hQ ff s2;unfold addN at hq;rw[if_pos hr,ou,if_neg ax,if_neg LL]at hq;exact hq ⟨g1,g3 ((g1.notFull h.ris.nodup g3).2 h.le),h.ris,h.fr,h.le⟩
    ·have F8:iJ S (iH f facts) C.rows<=4096:=Classical.byContradiction λhh=>(of_decide_eq_false U) (R5.2 hh)
     have hq:=hQ bg s';unfold addN at hq;rw[if_pos hr,ou,if_neg ax,if_pos F8]at hq;exact hq ⟨h1,h3 ((h1.notFull qg.nodup h3).2 F8),qg,mP,F8⟩
  ·subst PV;refine kU rfl ?_;rw[hx3.2]at hg;have hq:=hQ loc s;unfold addN at hq;rw[if_pos hr,hg,if_pos ax]at hq;exact hq h
 refine Qk Te ?_;refine jA (λU=>jX ?_) (λh1=>jA (λU=>jX ?_) (λh2=>jA (λU=>jX ?_) (λh3=>jA (λU=>jX ?_) (λh4=>?_))))
 ·have:=of_decide_eq_true U;unfold DH;rw[decide_eq_false an,Z']
 ·have:=of_decide_eq_true U;unfold DH;rw[decide_eq_false an,Z']
 ·have:=of_decide_eq_true U;unfold DH;rw[decide_eq_false (show¬0<=f.ty by omega),Z',Bool.and_false]
 ·have:=of_decide_eq_true U;rw[DX]at this;unfold DH;rw[List.getElem?_eq_none an];simp
 ·have h1:=of_decide_eq_false h1;have h2:=of_decide_eq_false h2;have h3:=of_decide_eq_false h3;have h4:=of_decide_eq_false h4;rw[DX]at h4;have bp:f.ty.toNat<C.types.length:=an
  refine iE an ?_;refine Qk (a:=C.types[f.ty.toNat]) (by rw[DX];exact i' bp) ?_
  have er:DH vb C.types f=((C.types[f.ty.toNat].fields==((f.args.length:Nat):Int))&&f.args.all vb):=by
   unfold DH;rw[decide_eq_true (show 1<=f.id/\f.id<=1099511627776 by omega),decide_eq_true (show 0<=f.ty by omega),i' bp,n!,n!]
  refine jA (λU=>jX ?_) (λU=>?_)
  ·rw [er]
   have:(C.types[f.ty.toNat].fields==((f.args.length:Nat):Int))=false:=by
    rw[bne_iff_ne]at U;exact beq_eq_false_iff_ne.2 (Ne.symm U)
   rw[this,Z']
  ·refine Qk hC ?_
   have:(C.types[f.ty.toNat].fields==((f.args.length:Nat):Int))=true:=by
    have mj:¬((((f.args.length:Nat):Int) !=C.types[f.ty.toNat].fields)=true):=by rw[U];simp
    rw[bne_iff_ne,ne_eq,Classical.not_not]at mj;rw[mj];simp
   rw[this,n!]at er;cases ha:f.args.all vb with
   |true=>exact a0P (by rw[er,ha])
   |false=>exact jX (by rw[er,ha])
theorem TD (hN:B0+4000000<=N)(U:tx S I P C)(h:rL S P C facts loc s)(hl:facts.length<=1000000)
  (hQ:∀bg s',rL S P C (tZ S C facts id).1 bg s'->Q ((tZ S C facts id).2,s')):ZG N C.g id s Q:=by
 obtain⟨x,Te,_,DX,_,_,_,_,_,hx3,_⟩:=h.inv.gNet;unfold ZG;refine tg U h ?_;refine Ba rfl ?_;refine mW λkj Ip=>?_;refine Qk Te ?_;refine zZ (λou=>?_) (λf hf=>?_)
 ·subst Ip;refine kU rfl ?_;rw[hx3.2]at ou;have hq:=hQ loc s;unfold tZ at hq;rw[ou,if_neg ax]at hq;exact hq h
 ·subst Ip;refine Ba rfl ?_;rw[hx3.2]at hf;obtain⟨hm,rfl⟩:=(HF h.ris.nodup).1 hf;have qg:kO (jW f.id facts):=h.ris.del;have mP:∀g∈jW f.id facts,P g/\1<=g.id/\g.id<=1099511627776:=λg hg=>h.fr g (tV.1 hg).1
  have hlen:(jW f.id facts).length<=1000001:=by have:=Kx (id:=f.id) (l:=facts);omega
  have et:fl (jW f.id facts)=mE (fl facts) f.id:=RQ h.ris;have hid:=(h.fr f hm).2
  have j6:zj (mE (fl facts) f.id) (fl facts):=λi g hg=>by
   unfold mE at hg;split at hg;· cases hg
   · exact hg
  refine QZ ?_;refine Lk (I:=I) (T0:=fl facts) (D:=(jW f.id facts).map (·.id)) U.W U.A (by rw[<-et];exact Qcx qg mP hlen) (by rw[c'];omega) (by have:=U.rows;omega) (U.hsl hN (by rw[c'];exact hlen)) (by have:=U.alk;omega) (by rw[<-et];exact U.ok _ (pn qg mP)) (by rw[<-et];exact U.hI qg mP hlen) an an h.inv (λr R π hR hi hb=>?_) λbg s' h1 h2 h3=>?_
  ·obtain ⟨e1,_,he⟩:=M0 (S:=S) j6 (l:=R.steps) (e:=(R.hs,R.vs)) (π:=π) (λn sc a e1 hn fj ca he j ⟨g,DT,oq⟩=>by
    by_cases hj:j=f.id
    ·subst hj;exact absurd ⟨hn,sc,a,e1,fj,ca,O4 he,g,DT,oq⟩ (hb n)
    · exact⟨g,by unfold mE;rw[if_neg hj];exact DT,oq⟩) hi π.length (b! _)
   rw[List.take_length]at he;have:=h.comp r R hR π (by rw[he];simp);simpa using this
  ·rw [<-et]at h1 h3;obtain⟨z,hz1,R5⟩:=rL.parts h1 qg h3;refine Qk hz1 ?_;refine jA (λhb=>?_) (λhb=>?_)
   ·have LL:=R5.1 (of_decide_eq_true hb);refine QZ ?_;rw[et]at h1;have ed:jS (mE (fl facts) f.id) f=fl facts:=RB hf
    refine Kt (I:=I) (T0:=mE (fl facts) f.id) (D:=facts.map (·.id)) U.W U.A (by rw[ed];exact Qcx h.ris h.fr an) (by rw[c'];omega) (by have:=U.rows;omega) (U.hsl hN (by rw[c'];omega)) (by have:=U.alk;omega) (by rw[ed];exact U.ok _ (pn h.ris h.fr)) (by rw[ed];exact U.hI h.ris h.fr an) an an (if_pos rfl)
     (λA hA=>⟨by have:=(U.ar A hA).1;omega,by have:=(U.ar A hA).1;omega,λWp j a hj=>by
      have h1:=(U.ar A hA).2 f (h.fr f hm).1 Wp;have h2:=(b'.1 hj).1;exact⟨_,i' an⟩⟩) h1 (λr R π hR hi hn=>?_) λff s2 g1 _ g3=>?_
    ·rw[ed]at hi;obtain⟨y,hy⟩:=h.comp r R hR π hi;rw[W']at hy;exact⟨y,h2 y r π hy hn⟩
    ·rw[ed]at g1 g3;have hq:=hQ ff s2;unfold tZ at hq;rw[hf,if_pos ax,if_neg LL]at hq;exact hq ⟨g1,g3 ((g1.notFull h.ris.nodup g3).2 h.le),h.ris,h.fr,h.le⟩
   ·have F8:iJ S (jW f.id facts) C.rows<=4096:=Classical.byContradiction λhh=>(of_decide_eq_false hb) (R5.2 hh)
    have hq:=hQ bg s';unfold tZ at hq;rw[hf,if_pos ax,if_pos F8]at hq;exact hq ⟨h1,h3 ((h1.notFull qg.nodup h3).2 F8),qg,mP,F8⟩
end
end
section
open Go Go.RowKit Classical
def iz:List Int->List Int->Int
 |[],[]=>0
 |[],_::_=>-1
 |_::_,[]=>1
 |a::l,b::m=>if a<b then-1 else if b<a then 1 else iz l m
theorem qj:∀l:List Int,iz l l=0
 |[]=>rfl
 |a::l=>by rw[iz,if_neg an,if_neg an];exact qj l
theorem QcK:∀l m:List Int,iz m l=-iz l m
 |[],[]=>rfl
 |[],_::_=>rfl
 |_::_,[]=>rfl
 | a::l,b::m=>by
   simp only[iz];by_cases h1:a<b;· rw[if_pos h1,if_neg (by omega:¬b<a),if_pos h1];decide
   ·by_cases U:b<a;· rw[if_pos U,if_neg h1,if_pos U]
    · rw[if_neg h1,if_neg U,if_neg U,if_neg h1];exact QcK l m
theorem qk:∀l m:List Int,iz l m=0->l=m
 |[],[],_=>rfl
 |[],_::_,h=>by cases h
 |_::_,[],h=>by cases h
 | a::l,b::m,h=>by
   simp only[iz]at h;split at h;· cases h
   ·split at h;· cases h
    ·rw[qk l m h];congr 1;omega
theorem mX:∀l m n:List Int,iz l m<0->iz m n<0->iz l n<0
 |[],[],n,h,_=>by simp[iz]at h
 |_::_,[],n,h,_=>by simp[iz]at h
 |l,_::_,[],_,h=>by simp[iz]at h
 |[],b::m,c::n,_,_=>by simp[iz]
 | a ::l,b::m,c::n,h1,U=>by
   simp only[iz]at h1 U⊢;by_cases e1:a<b
   ·by_cases e2:b<c;· rw[if_pos an];decide
    ·rw[if_neg e2]at U;by_cases e3:c<b;· rw[if_pos e3]at U;omega
     · rw[if_pos an];decide
   ·rw [if_neg e1]at h1;by_cases e4:b<a;· rw[if_pos e4]at h1;omega
    ·rw [if_neg e4]at h1;by_cases e2:b<c;· rw[if_pos an];decide
     ·rw[if_neg e2]at U;by_cases e3:c<b;· rw[if_pos e3]at U;omega
      ·rw[if_neg e3]at U;rw[if_neg an,if_neg an];exact mX l m n h1 U
theorem Ez {N:Nat} {l m:List Int} (hl:l.length<1000000) (hN:1000000<=N):Q5i N l m=some (iz l m):=by
 have key:∀(k i fuel:Nat),i+k=l.length->i<=m.length->k<fuel->(jw (fz (S6 N l m) fuel i) λ_=>if(decide (l.length<m.length))=true then some (-1)else some 0)=some (iz (l.drop i) (m.drop i)):=by
  intro k;induction k with
  | zero=>
    intro i fuel hi him hf;obtain⟨fuel,rfl⟩:∃q,fuel=q+1:=⟨fuel-1,an⟩
    rw[vM (o:=.inl ()) (by unfold S6;rw[if_neg (by simp;omega)]),lX,P' (by omega:l.length<=i)];by_cases h:l.length<m.length;· rw[bq h,y' (by omega:i<m.length)];rfl
    · rw[br h,P' (by omega:m.length<=i)];rfl
  | succ k ih=>
    intro i fuel hi him hf;obtain⟨fuel,rfl⟩:∃q,fuel=q+1:=⟨fuel-1,an⟩
    have h1:i<l.length:=an
    rw[y' h1];by_cases h2:m.length<=i
    ·rw[vM (o:=.inr 1) (by unfold S6;rw[bq h1,i' h1,Q1,bq h2]),Jh,P' h2];rfl
    ·have h3:i<m.length:=an
     rw[y' h3,iz]
     have hc:ZA N l[i] m[i]=some (if l[i]<m[i]then-1 else if m[i]<l[i]then 1 else 0):=by
      unfold ZA ZF;rw[Q1,Q1,if_neg ax,if_neg ax];by_cases U:l[i]<m[i];· rw[bq U,if_pos U]
      ·rw[br U,if_neg U];by_cases q2:m[i]<l[i];· rw[bq q2,if_pos q2]
       · rw[br q2,if_neg q2]
     have hs:S6 N l m i=if l[i]<m[i]then some (.inr (.inr (-1)))else if m[i]<l[i]then some (.inr (.inr 1))else some (.inl (i+1)):=by
      unfold S6;rw[bq h1,i' h1,Q1,br h3,i' h3,Q1,hc,Q1];by_cases U:l[i]<m[i];· simp only[if_pos U];rfl
      ·by_cases q2:m[i]<l[i];· simp only[if_neg U,if_pos q2];rfl
       ·simp only[if_neg U,if_neg q2];rw[if_neg bf,QC an]
     by_cases U:l[i]<m[i]
     ·rw[if_pos U]at hs⊢;rw[vM hs,Jh]
     ·by_cases q2:m[i]<l[i]
      ·rw[if_neg U,if_pos q2]at hs⊢;rw[vM hs,Jh]
      ·rw[if_neg U,if_neg q2]at hs⊢;rw[NW hs];exact ih (i+1) fuel an an an
 have:=key l.length 0 N an an an;rw[w!,w!]at this;exact this
theorem Nv {N:Nat} {k:Int} {l l':List Qy} (hN:1000000<=N)(hk:∀t∈l,t.rule=k/\t.ids.length<1000000)(hl:l.length<4611686018427387904)(hp:l'.Perm l)(hs:l'.Pairwise λa b=>iz a.ids b.ids<0):
  rz (λx_ y_=>Sa N x_.rule x_.ids y_.rule y_.ids) l=some l':=by
 have cm:∀x∈l,∀y:Qy,Sa N x.rule x.ids y.rule y.ids=some (iz x.ids y.ids):=λx U y=>by
  unfold Sa;rw[Ez (hk x U).2 hN];rfl
 have cf:∀x∈l,∀y:Qy,DP (λx_ y_=>Sa N x_.rule x_.ids y_.rule y_.ids) x y=iz x.ids y.ids:=λx U y=>by
  show(Sa N x.rule x.ids y.rule y.ids).getD 0=_;rw[cm x U y];rfl
 refine MN ⟨λx U y _=>⟨_,cm x U y⟩,λx U=>?_,λx U y hy z _ h1 h2=>?_,λx U y hy z _ h1 h2=>?_,λx U y hy h1 h2=>?_,hl⟩ hp ?_;· rw[cf x U,qj];decide
 ·rw[cf x U]at h1⊢;rw[cf y hy]at h2;exact mX _ _ _ h1 h2
 ·rw [cf x U]at h1⊢;rw[cf y hy]at h2;intro h3;by_cases h4:iz x.ids y.ids=0;· rw[qk _ _ h4]at h3;exact h2 h3
  ·have h5:iz y.ids x.ids<0:=by rw[QcK];omega
   exact h2 (mX _ _ _ h5 h3)
 ·rw[cf x U]at h1;rw[cf y hy,QcK]at h2;have h3:=qk _ _ (show iz x.ids y.ids=0 by omega);obtain⟨r1,i1⟩:=x;obtain⟨r2,i2⟩:=y;have h4:=(hk _ U).1;have h5:=(hk _ hy).1;simp only at h3 h4 h5;rw[h3,h4,h5]
 ·refine(List.Pairwise.and_mem.1 hs).imp λ{a b} h=>?_;rw[cf b (hp.mem_iff.1 h.2.1),QcK];omega
def qu (π:List Int):List Int:=π.filter λi=>decide (0<i)
section
variable {S:gO} {facts:List Qo}
theorem nA (hr:facts.Pairwise λa b=>a.id<b.id)(j5:∀f∈facts,0<f.id):∀{l:List gh} {e:fg},(wU S facts l e).Pairwise λa b=>iz (qu a) (qu b)<0
 |[],e=>by simp[wU]
 | sc ::l,e=>by
   unfold wU;have ih:=λU=>nA hr j5 (l:=l) (e:=U)
   refine h!.2 ⟨λi _=>?_,?_⟩
   ·cases hj:kz S (fl facts) sc e i with
    |none=>exact List.Pairwise.nil
    | some U=>
      simp only;refine List.Pairwise.map _ (λa b DR=>?_) (ih U);unfold qu;by_cases hi:0<i
      ·rw[w' (cx hi),w' (cx hi),iz,if_neg an,if_neg an];exact DR
      ·rw[B' (cx hi),B' (cx hi)];exact DR
   ·have hd:∀k x,(x∈match kz S (fl facts) sc e k with|some U=>(wU S facts l U).map (λπ=>k::π)|none=>[])->∃ρ,x=k::ρ:=λk x hx=>by
      split at hx;· obtain⟨ρ,_,rfl⟩:=f'.1 hx;exact⟨ρ,rfl⟩
      · cases hx
    unfold Gj;cases ca:sc.st with
    |nt a=>simp
    |test a=>simp
    | join a=>
      simp only;refine List.Pairwise.map _ (λf g hfg=>?_) (List.Pairwise.and_mem.1 hr);intro x hx y hy;obtain⟨ρ,rfl⟩:=hd _ x hx;obtain⟨σ,rfl⟩:=hd _ y hy;obtain⟨h1,h2,h3⟩:=hfg;unfold qu;rw[w' (cx (j5 f h1)),w' (cx (j5 g h2)),iz,if_pos h3];decide
theorem yF (U:facts.Pairwise λa b=>a.id<b.id)(j5:∀f∈facts,0<f.id) {l:List gh} {e:fg}:(wU S facts l e).Nodup:=
 (nA U j5).imp λ{a b} h e=>by subst e;rw[qj]at h;omega
end
def FY (k:Nat)(π:List Int):Qy:=⟨((k:Nat):Int),qu π⟩
noncomputable def Gl (S:gO)(facts:List Qo):List gp->Nat->List Qy
 |[],_=>[]
 |R::l,k=>(wU S facts R.steps (R.hs,R.vs)).map (FY k)++Gl S facts l (k+1)
section
variable {S:gO} {I:fg->Prop} {P:Qo->Prop} {C:ic} {loc:Loc} {s:Qc} {facts:List Qo} {T:cg} {Ta:Nat->cg} {B:Nat->List Int->cg×cg} {Zo:Nat->Prop} {cq:Option Nat}
theorem uf {R:gp}:∀{l:List gp} {k:Nat},Gl S facts (l++[R]) k=Gl S facts l k++(wU S facts R.steps (R.hs,R.vs)).map (FY (k+l.length))
 |[],k=>by simp[Gl]
 | x::l,k=>by
   rw[q!,Gl,Gl,uf,a!,d',show k+1+l.length=k+(l.length+1) by omega]
theorem Hw (U:kO facts)(j5:∀f∈facts,0<f.id) {l:List gh} {e:fg}:(wU S facts l e).length<=(sS S facts l e).length+1:=by
 rw[<-d' (a:=([]:List Int))];refine Je (yF U j5) λπ kK=>?_
 by_cases h:π=[]
 · subst h;simp
 · exact g' _ ((lz U.nodup).2 ⟨h,((Um U.nodup).1 kK).2⟩)
theorem vx {l m:List gp}:iJ S facts (l++m)=iJ S facts l+iJ S facts m:=by
 unfold iJ;rw[u!,List.sum_append]
theorem xt (U:kO facts)(j5:∀f∈facts,0<f.id):∀{l:List gp} {k:Nat},(Gl S facts l k).length<=iJ S facts l+l.length
 |[],k=>by simp[Gl]
 | R::l,k=>by
   have h1:=xt U j5 (l:=l) (k:=k+1);have h2:=Hw (S:=S) U j5 (l:=R.steps) (e:=(R.hs,R.vs));have h3:iJ S facts (R::l)=(sS S facts R.steps (R.hs,R.vs)).length+iJ S facts l:=rfl;rw[Gl,m',c',d'];omega
theorem QcL {ρ:List Int} {i:Int}:qu (ρ++[i])=if 0<i then qu ρ++[i]else qu ρ:=by
 unfold qu;rw[List.filter_append];by_cases hi:0<i;· rw[if_pos hi,w' (cx hi)];rfl
 · rw[if_neg hi,B' (cx hi)];simp
theorem uP {π:List Int}:(qu π).length<=π.length:=i! _ _
theorem Wt (h:Inv S C T Ta B Zo cq loc s):∀(n:Nat)(π:List Int)(p r N:Nat)(Q:List Int->Prop),π.length=n->n<N->n<=1000->loc p=some (r,π)->Q (qu π)->TQ N (some p) s Q:=by
 intro n;induction n with
 | zero=>
   intro π p r N Q hn hN _ hp U;obtain⟨N,rfl⟩:∃M,N=M+1:=⟨N-1,an⟩
   obtain rfl:=e!.1 hn;obtain⟨R,x,a1,a2,_,a3⟩:=h.gPart hp;show TN N (TQ N) (some p) s Q;unfold TN;refine Qk rfl (Qk a2 (kU (by rw[(a3.top rfl).1];rfl) ?_));exact U
 | succ n ih=>
   intro π p r N Q hn hN SP hp U;obtain⟨N,rfl⟩:∃M,N=M+1:=⟨N-1,an⟩
   rcases S' π with e|⟨ρ,i,e⟩
   · subst e;cases hn
   ·have e:π=ρ++[i]:=by simpa using e
    subst e;have Th:ρ.length=n:=by simpa using hn
    obtain⟨R,x,a1,a2,_,a3⟩:=h.gPart hp;obtain⟨b1,q,b2,b3⟩:=a3.up ρ i rfl;show TN N (TQ N) (some p) s Q;unfold TN;refine Qk rfl (Qk a2 (Ba (by rw[b2];rfl) (Qk rfl (Qk a2 (QZ ?_)))));rw[b2];refine ih ρ q r N _ Th an an b3 ?_;refine mW λkj Ip=>?_;refine Qk rfl (Qk a2 (jA (λhb=>?_) (λhb=>?_)))
    ·have hi:0<i:=by have:=of_decide_eq_true hb;rw[b1]at this;exact this
     refine Qk rfl (Qk a2 (iE ?_ ?_))
     ·have:=uP (π:=ρ);simp only[d',C'];omega
     ·subst Ip;rw[QcL,if_pos hi]at U;rw[b1];exact U
    ·have hi:¬0<i:=by have:=of_decide_eq_false hb;rw[b1]at this;exact this
     subst Ip;rw[QcL,if_neg hi]at U;exact U
theorem a1i (h:Inv S C T Ta B Zo cq loc s) {π:List Int} {p r N:Nat} {Q:List Int->Prop} (hN:1000<N)(SP:π.length<=1000)(hp:loc p=some (r,π))(U:Q (qu π)):ZH N p s Q:=by
 obtain⟨R,x,a1,a2,_,a3⟩:=h.gPart hp;unfold ZH;refine Qk a2 ?_;rcases S' π with e|⟨ρ,i,e⟩
 ·subst e;refine kU (by rw[(a3.top rfl).1];rfl) ?_;exact U
 ·have e:π=ρ++[i]:=by simpa using e
  subst e;obtain⟨b1,q,b2,b3⟩:=a3.up ρ i rfl;have hl:ρ.length+1<=1000:=by simpa using SP
  refine Ba (by rw[b2];rfl) (QZ ?_);rw[b2];refine Wt h _ ρ q r N _ rfl an an b3 ?_;refine mW λkj Ip=>?_;refine jA (λhb=>?_) (λhb=>?_)
  ·have hi:0<i:=by have:=of_decide_eq_true hb;rw[b1]at this;exact this
   refine iE ?_ ?_
   ·have:=uP (π:=ρ);simp only[d',C'];omega
   ·subst Ip;rw[QcL,if_pos hi]at U;rw[b1];exact U
  ·have hi:¬0<i:=by have:=of_decide_eq_false hb;rw[b1]at this;exact this
   subst Ip;rw[QcL,if_neg hi]at U;exact U
def HQ (loc:Loc)(y:Nat):List Int:=((loc y).getD (0,[])).2
theorem Kd {N:Nat} {Q:List Qy->Prop} (hN:B0+4000000<=N)(hG:tx S I P C)(h:rL S P C facts loc s)(hQ:Q (Gl S facts C.rows 0)):ZB N C.g s Q:=by
 have j5:∀f∈facts,0<f.id:=λf hf=>by have:=(h.fr f hf).2;omega
 have hn:=h.ris.nodup;obtain⟨x,Te,_,_,DX,_⟩:=h.inv.gNet;have Tf:x.rows.length=C.rows.length:=by rw[DX,c']
 have T7:=hG.rows;unfold ZB;refine tg hG h ?_;refine Ba rfl ?_;refine mW λkj Ip=>?_;refine Qk Te ?_;refine yX (λ(u,l)=>u<=C.rows.length/\l=Gl S facts (C.rows.take u) 0) (λ(u,_)=>C.rows.length-u) ?_ N (0,[]) ⟨c! _,by simp[Gl]⟩ (by dsimp only;omega);rintro⟨u,l⟩ ag ⟨hu,hl⟩ gH;dsimp only at hu hl gH⊢;refine jA (λhb=>?_) (λhb=>?_)
 ·have bp:u<C.rows.length:=by have:=of_decide_eq_true hb;omega
  obtain⟨R,hR⟩:∃R,C.rows[u]? =some R:=⟨_,i' bp⟩
  have qe:=p' hR;have ca:=hG.steps R qe;refine Qk (a:=R.b) (by rw[DX,List.getElem?_map,hR];rfl) ?_;refine mW λkj2 PV=>?_;obtain⟨y,YL,_,_,_,_,_,hy2⟩:=h.inv.gRow hR;refine Qk YL ?_;have Td:=Hw (S:=S) h.ris j5 (l:=R.steps) (e:=(R.hs,R.vs));have uA:C.rows.take (u+1)=C.rows.take u++[R]:=by rw[p!,hR];rfl
  have a3C:(sS S facts R.steps (R.hs,R.vs)).length<=4096:=by
   have h1:=h.le;rw[<-u' (u+1) C.rows,uA,vx,vx]at h1;have h2:iJ S facts [R]=(sS S facts R.steps (R.hs,R.vs)).length+0:=rfl;omega
  have wx:∀z,z∈y.whole.keys↔∃π,loc z=some (u,π)/\π.length=R.steps.length:=λz=>by
   rw[hy2 z];constructor;· rintro⟨h1,_⟩;exact h1
   · exactλh1=>⟨h1,ax⟩
  have YK:∀z,z∈y.whole.keys->loc z=some (u,HQ loc z)/\HQ loc z∈wU S facts R.steps (R.hs,R.vs):=λz U=>by
   obtain⟨π,h1,h2⟩:=(wx z).1 U;have h3:HQ loc z=π:=by unfold HQ;rw[h1];rfl
   rw[h3];exact⟨h1,(Um hn).2 ⟨h2,h.inv.sound hR _ _ _ rfl h1⟩⟩
  have wu:∀d:List Nat,d.Nodup->(∀z∈d,z∈y.whole.keys)->(d.map (HQ loc)).Nodup:=λd hd hk=>by
   refine List.Pairwise.map _ (λa b DR e=>?_) (List.Pairwise.and_mem.1 hd);obtain⟨h1,h2,h3⟩:=DR;have q1:=(YK a (hk a h1)).1;have q2:=(YK b (hk b h2)).1;rw[<-e]at q2;exact h3 (h.inv.inj _ _ _ q1 q2)
  have PM:∀d:List Nat,d.Nodup->(∀z∈d,z∈y.whole.keys)->d.length<=4097:=λd hd hk=>by
   have h1:=Je (wu d hd hk) λz U=>by
    obtain⟨w,hw,rfl⟩:=f'.1 U;exact(YK w (hk w hw)).2
   rw[c']at h1;omega
  refine yX (λ(d,t)=>d.Nodup/\(∀z∈d,z∈y.whole.keys)/\t=d.map λz=>FY u (HQ loc z)) (λ(d,_)=>4097-d.length) ?_ N (([]:List Nat),[]) ⟨O',(λ_ h=>by cases h),rfl⟩ (by dsimp only;omega);rintro⟨d,t⟩ ag2 ⟨EZ,vT,Yz⟩ Ik;dsimp only at EZ vT Yz Ik⊢;have a3r:=PM d EZ vT;refine Sz (λfe=>?_) (λz U hzd=>?_)
  ·subst PV
   have hp1:(d.map (HQ loc)).Perm (wU S facts R.steps (R.hs,R.vs)):=(List.perm_ext_iff_of_nodup (wu d EZ vT) (yF h.ris j5)).2 λπ=>by
    constructor
    ·intro kK;obtain⟨w,hw,rfl⟩:=f'.1 kK;exact(YK w (vT w hw)).2
    ·intro kK;obtain⟨h1,h2⟩:=(Um hn).1 kK;obtain⟨w,hw⟩:=h.comp u R hR π h2;rw[W']at hw;have h3:HQ loc w=π:=by unfold HQ;rw[hw];rfl
     exact f'.2 ⟨w,fe w ((wx w).2 ⟨π,hw,h1⟩),h3⟩
   have jg:((wU S facts R.steps (R.hs,R.vs)).map (FY u)).Perm t:=by
    rw[Yz];have:=(hp1.map (FY u)).symm;rw[X']at this;exact this
   have htl:t.length=d.length:=by rw[Yz,c']
   refine Qk (Nv (k:=((u:Nat):Int)) an (λw hw=>?_) an jg ?_) ?_
   ·rw[Yz]at hw;obtain⟨z,U,rfl⟩:=f'.1 hw;have h1:=((Um hn).1 (YK z (vT z U)).2).1;have h2:=uP (π:=HQ loc z);exact⟨rfl,by show(qu _).length<_;omega⟩
   · exact List.Pairwise.map _ (λa b DR=>DR) (nA h.ris j5)
   ·have hfl:=xt (S:=S) h.ris j5 (l:=C.rows.take u) (k:=0)
    have htu:iJ S facts (C.rows.take u)<=4096:=by
     have h1:=h.le;rw[<-u' u C.rows,vx]at h1;omega
    have hul:(C.rows.take u).length=u:=by rw[List.length_take];omega
    refine iE (by rw[hl,c'];omega) ?_;refine iE an ?_;refine gH (u+1,l++(wU S facts R.steps (R.hs,R.vs)).map (FY u)) ⟨an,?_⟩ an;rw[uA,uf,hl,hul,Nat.zero_add]
  ·obtain ⟨v,hv⟩:=MS.look_iff.1 U;refine Qk hv (QZ ?_);obtain⟨w1,w2⟩:=YK z U;have w3:=((Um hn).1 w2).1;refine a1i h.inv an an w1 ?_
   have SU:(d++[z]).Nodup:=by
    rw[G'];refine⟨EZ,ax,λa ha b hb e=>?_⟩;rw[n'.1 hb]at e;exact hzd (e▸ha)
   have ec:∀w∈d++[z],w∈y.whole.keys:=λw hw=>by
    rcases t'.1 hw with hw|hw;· exact vT w hw
    · rw[n'.1 hw];exact U
   have a2u:=PM _ SU ec;rw[m',U']at a2u;have htl:t.length=d.length:=by rw[Yz,c']
   refine iE (by rw[U'];omega) ?_;refine Ik (d++[z],t++[FY u (HQ loc z)]) ⟨SU,ec,?_⟩ (by dsimp only;rw[m',U'];omega);rw[Yz,u!];rfl
 ·subst Ip;have:C.rows.take u=C.rows:=I' (by have:=of_decide_eq_false hb;omega);rw[this]at hl;rw[hl];exact hQ
end
end
end Go.Proofs.YtocfkfhdcnjklaaGreatDoor
