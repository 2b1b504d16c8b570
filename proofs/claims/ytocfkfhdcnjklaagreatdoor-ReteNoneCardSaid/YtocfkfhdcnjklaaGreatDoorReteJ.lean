import Derived.Test.YtocfkfhdcnjklaaGreatDoorYM
namespace Go.Proofs.YtocfkfhdcnjklaaGreatDoor
section
open Go Go.RowKit Classical
theorem gX.mono' {loc U:Loc} {n n':Nat} (h:gX loc n)(h':gX U n')(he:∀y l,loc y=some l->U y=some l):n<=n':=h.mono h' he
def HW (loc:Loc)(p:Nat):Loc:=λb=>if b=p then none else loc b
theorem u9 {loc:Loc} {p y:Nat} {l:Nat×List Int}:HW loc p y=some l↔y≠p/\loc y=some l:=by
 unfold HW;by_cases h:y=p<;>simp[h]
theorem gX.del {loc:Loc} {n p r:Nat} {π:List Int} (h:gX loc n)(hp:loc p=some (r,π))(jb:π≠[]):∃m,n=m+1/\gX (HW loc p) m:=by
 obtain⟨L,a1,a2,rfl⟩:=h;have hm:p∈L:=(a2 p).2 ⟨r,π,hp,jb⟩;refine⟨L.length-1,?_,L.erase p,a1.erase p,λq=>?_,List.length_erase_of_mem hm⟩;· have:=List.length_pos_of_mem hm;omega
 ·rw[List.Nodup.mem_erase_iff a1,a2];constructor;· rintro⟨h1,r',fc,U,h3⟩;exact⟨r',fc,u9.2 ⟨h1,U⟩,h3⟩
  · rintro⟨r',fc,U,h3⟩;exact⟨(u9.1 U).1,r',fc,(u9.1 U).2,h3⟩
section
variable {S:fe} {I:ep->Prop} {C:fz} {T:bz} {Ta:Nat->bz} {B:Nat->List Int->bz×bz} {Zo:Nat->Prop} {ck:Option Nat} {loc:Loc} {s:Q7} {D:List Int}
theorem LK.del {r k p:Nat} {m:MS Nat Bool} (h:LK none loc r k m):LK none (HW loc p) r k (m.del p):=λy=>by
 rw[MS.keys_del,h y];constructor;· rintro⟨h1,⟨π,U,h3⟩,h4⟩;exact⟨⟨π,u9.2 ⟨h1,U⟩,h3⟩,h4⟩
 · rintro⟨⟨π,U,h3⟩,h4⟩;exact⟨(u9.1 U).1,⟨π,(u9.1 U).2,h3⟩,h4⟩
theorem LK.del' {r r' k p:Nat} {π:List Int} {m:MS Nat Bool} (h:LK none loc r' k m)(hp:loc p=some (r,π))(db:r'=r->π.length≠k):LK none (HW loc p) r' k m/\p∉m.keys:=by
 have Nv:p∉m.keys:=λhm=>by
  obtain⟨⟨ρ,h1,U⟩,_⟩:=(h p).1 hm;rw[hp]at h1;cases h1;exact db rfl U
 refine⟨λy=>?_,Nv⟩;rw[h y];constructor
 ·rintro⟨⟨ρ,U,h3⟩,h4⟩;refine⟨⟨ρ,u9.2 ⟨λe=>?_,U⟩,h3⟩,h4⟩;subst e;exact Nv ((h y).2 ⟨⟨ρ,U,h3⟩,h4⟩)
 · rintro⟨⟨ρ,U,h3⟩,h4⟩;exact⟨⟨ρ,(u9.1 U).2,h3⟩,h4⟩
theorem Inv.kill (hW:nZ C) {s6:Q7} {p q r:Nat} {ρ:List Int} {i:Int} {R:eO} {xn:fk} {xq:ie} {y:mg} (h:Inv S C T Ta B Zo none loc s)(hr:C.rows[r]? =some R)(hp:loc p=some (r,ρ++[i]))(hq:loc q=some (r,ρ))(mF:∀z j,loc z≠some (r,ρ++[i]++[j]))
  (hn:s C.g=some (.net xn)) (hxq:s q=some (.part xq)) (hy:s R.b=some (.row y))
  (gn:s6 C.g=some (.net {xn with parts:=xn.parts-1})) (gq:s6 q=some (.part {xq with kids:=xq.kids.del p})) (gr:s6 R.b=some (.row {y with whole:=y.whole.del p}))
  (gs:∀sc,R.steps[(ρ++[i]).length]? =some sc->¬Zo sc.st.adr->ia none (HW loc p) r R (ρ++[i]).length sc (s6 sc.st.adr))
  (go:∀b,b≠C.g->b≠q->b≠R.b->(∀sc,R.steps[(ρ++[i]).length]? =some sc->b=sc.st.adr->(∀x,s b≠some (.join x))/\(∀x,s b≠some (.nt x))/\(∀x,s b≠some (.test x)))->s6 b=s b):
  Inv S C T Ta B Zo none (HW loc p) s6:=by
 have Z5:q≠p:=λe=>by
  rw[e,hp]at hq;simp only[Option.some.injEq,Prod.mk.injEq,true_and]at hq;have:=congrArg List.length hq;simp at this
 have keep:∀b o,s b=some o->b≠C.g->b≠q->b≠R.b->(∀x,o≠.join x)->(∀x,o≠.nt x)->(∀x,o≠.test x)->s6 b=some o:=λb o hb c1 c2 c3 c4 c5 c6=>by
  rw[go b c1 c2 c3 λsc _ _=>⟨λx e=>by rw[hb]at e;cases e;exact c4 _ rfl,λx e=>by rw[hb]at e;cases e;exact c5 _ rfl,λx e=>by rw[hb]at e;cases e;exact c6 _ rfl⟩];exact hb
 refine⟨?_,?_,?_,?_,?_,?_,?_,?_⟩
 ·obtain⟨x,a1,a2,a3,a4,a5,a6,a7,a8,n,a9,hY⟩:=h.net;rw[hn]at a1;cases a1;obtain⟨m,rfl,hm⟩:=hY.del hp ax;exact⟨_,gn,a2,a3,a4,a5,a6,a7,a8,m,by simp[a9],hm⟩
 ·intro r' R' cy;obtain⟨x,a1,a2,a3,a4,a5,a6⟩:=h.row r' R' cy;by_cases e:R'.b=R.b
  ·obtain rfl:=hW.rows _ _ _ _ cy hr e;rw[hr]at cy;cases cy;rw[hy]at a1;cases a1;exact⟨_,gr,a2,a3,a4,a5,a6.del⟩
  ·refine⟨x,keep _ _ a1 (λU=>by rw[U,hn]at a1;cases a1) (λU=>by rw[U,hxq]at a1;cases a1) e (λ_ e=>by cases e) (λ_ e=>by cases e) (λ_ e=>by cases e),a2,a3,a4,a5,(a6.del' hp λU=>?_).1⟩;subst U;rw[hr]at cy;cases cy;exact absurd rfl e
 ·intro r' R' k' dh cy dx xB;have h1:=h.step r' R' k' dh cy dx xB;by_cases e:r'=r/\(ρ++[i]).length=k'
  ·obtain⟨rfl,rfl⟩:=e;rw[hr]at cy;cases cy;exact gs dh dx xB
  ·have db:r'=r->(ρ++[i]).length≠k':=λU e2=>e ⟨U,e2⟩
   have ix:(∃o,s dh.st.adr=some o/\(∀x,o≠.net x)/\(∀x,o≠.part x)/\∀x,o≠.row x)->s6 dh.st.adr=s dh.st.adr:=λ⟨o,ho,c1,c2,c3⟩=>
    go _ (λU=>by rw[U,hn]at ho;cases ho;exact c1 _ rfl) (λU=>by rw[U,hxq]at ho;cases ho;exact c2 _ rfl) (λU=>by rw[U,hy]at ho;cases ho;exact c3 _ rfl) λsc ez hb=>by
     obtain⟨U,e2⟩:=hW.steps _ _ _ _ _ _ _ _ cy hr dx ez hb;exact absurd ⟨U,e2.symm⟩ e
   unfold ia at h1⊢;split at h1
   ·obtain⟨x,c1,c2,c3,c4,c5,c6⟩:=h1;exact⟨x,(by rw[ix ⟨_,c1,(λ_ e=>by cases e),(λ_ e=>by cases e),λ_ e=>by cases e⟩];exact c1),c2,c3,c4,c5,(c6.del' hp db).1⟩
   ·obtain⟨x,c1,c2,c3,c4,c5,c6⟩:=h1;exact⟨x,(by rw[ix ⟨_,c1,(λ_ e=>by cases e),(λ_ e=>by cases e),λ_ e=>by cases e⟩];exact c1),c2,c3,c4,c5,(c6.del' hp db).1⟩
   ·obtain⟨x,c1,c2⟩:=h1;exact⟨x,(by rw[ix ⟨_,c1,(λ_ e=>by cases e),(λ_ e=>by cases e),λ_ e=>by cases e⟩];exact c1),c2⟩
 ·intro A hA;obtain⟨x,a1,a2⟩:=h.al A hA;exact⟨x,keep _ _ a1 (λU=>by rw[U,hn]at a1;cases a1) (λU=>by rw[U,hxq]at a1;cases a1) (λU=>by rw[U,hy]at a1;cases a1) (λ_ e=>by cases e) (λ_ e=>by cases e) (λ_ e=>by cases e),a2⟩
 ·intro z r' fc hl;obtain⟨hzp,qN⟩:=u9.1 hl;obtain⟨R',x,a1,a2,a3⟩:=h.part z r' fc qN
  have Zf:∀cj j,fc=cj++[j]->x.id=j/\∃q2,x.up=some q2/\HW loc p q2=some (r',cj):=λcj j e=>by
   obtain⟨d1,q2,d2,d3⟩:=a3.up cj j e;refine⟨d1,q2,d2,u9.2 ⟨λU=>?_,d3⟩⟩;subst U;rw[hp]at d3;simp only[Option.some.injEq,Prod.mk.injEq]at d3;obtain⟨rfl,rfl⟩:=d3;rw[e]at qN;exact mF _ _ qN
  have fK:∀sc a,R'.steps[fc.length]? =some sc->sc.st=.nt a->(∃w j,HW loc p w=some (r',fc++[j]))->∀j,¬jx S sc (x.has,x.vals) (B r' fc).2 j:=λsc a U e2 ⟨w,j,hw⟩=>a3.free sc a U e2 ⟨w,j,(u9.1 hw).2⟩;by_cases hzq:z=q
  ·subst hzq;rw[hq]at qN;cases qN;rw[hr]at a1;cases a1;rw[hxq]at a2;cases a2;refine⟨R,_,hr,gq,⟨a3.env,a3.top,Zf,λw=>?_,a3.blocks,fK,MS.nodup_del a3.kn⟩⟩;show w∈(xq.kids.del p).keys↔_;rw[MS.keys_del,a3.kids];constructor;· rintro⟨h1,j,h2⟩;exact⟨j,u9.2 ⟨h1,h2⟩⟩
   · rintro⟨j,h2⟩;exact⟨(u9.1 h2).1,j,(u9.1 h2).2⟩
  ·refine⟨R',x,a1,keep _ _ a2 (λU=>by rw[U,hn]at a2;cases a2) hzq (λU=>by rw[U,hy]at a2;cases a2) (λ_ e=>by cases e) (λ_ e=>by cases e) (λ_ e=>by cases e),⟨a3.env,a3.top,Zf,λw=>?_,a3.blocks,fK,a3.kn⟩⟩;rw[a3.kids];constructor
   ·rintro⟨j,h2⟩;refine⟨j,u9.2 ⟨λU=>?_,h2⟩⟩;subst U;rw[hp]at h2;simp only[Option.some.injEq,Prod.mk.injEq]at h2;obtain⟨rfl,e2⟩:=h2;obtain⟨rfl,_⟩:=VK e2;exact hzq (h.inj _ _ _ qN hq)
   · rintro⟨j,h2⟩;exact⟨j,(u9.1 h2).2⟩
 ·intro a b l ha hb;exact h.inj _ _ _ (u9.1 ha).2 (u9.1 hb).2
 ·intro r' R' cy;refine u9.2 ⟨λe=>?_,h.root r' R' cy⟩;have:=h.root r' R' cy;rw[e,hp]at this;simp at this
 ·intro n' Hn;obtain⟨_,_,_,_,_,_,_,_,_,n,_,hY⟩:=h.net;exact Nat.le_trans (Hn.mono' hY λy l hy=>(u9.1 hy).2) (h.le n hY)
end
end
section
open Go Go.RowKit Classical
def Wk (loc bf:Loc)(r:Nat)(π:List Int):Prop:=∀y l,bf y=some l↔loc y=some l/\¬∃U,U≠[]/\l=(r,π++U)
def I4 (loc U:Loc)(r:Nat)(π:List Int):Prop:=∀y l,U y=some l↔loc y=some l/\¬∃τ,l=(r,π++τ)
def Frame (s s':Q7)(R:eO)(n:Nat):Prop:=∀(k:Nat)(sc:eL),k<n->R.steps[k]? =some sc->s' sc.st.adr=s sc.st.adr
theorem tI {s:Q7} {a:Nat} {o:PO} (h:s a=some o):cq s a o=s:=by
 funext c;unfold cq;split;· rename_i e;rw[e,h]
 · rfl
section
variable {S:fe} {I:ep->Prop} {C:fz} {T:bz} {Ta:Nat->bz} {B:Nat->List Int->bz×bz} {Zo:Nat->Prop} {ck:Option Nat} {loc:Loc} {s:Q7} {D:List Int}
theorem zA {N a p:Nat} {x:uT} {Q:Q7->Prop} (h:s a=some (.join x))(hk:∀y,y=p\/y∈x.parts.keys->s y≠none)(U:Q (cq s a (.join {x with parts:=x.parts.del p}))):WO N a p s Q:=
 Qh (RG h) (fR hk (lR U))
theorem zB {N a p:Nat} {x:uT} {Q:Q7->Prop} (h:s a=some (.nt x))(hk:∀y,y=p\/y∈x.parts.keys->s y≠none)(U:Q (cq s a (.nt {x with parts:=x.parts.del p}))):Wu N a p s Q:=
 Qh (LG h) (fR hk (lR U))
theorem Jb {N a p:Nat} {x:kl} {Q:Q7->Prop} (h:s a=some (.test x))(hk:∀y,y=p\/y∈x.parts.keys->s y≠none)(U:Q (cq s a (.test {x with parts:=x.parts.del p}))):Wv N a p s Q:=
 Qh (su h) (fR hk (lR U))
theorem Inv.pre (h:Inv S C T Ta B Zo ck loc s) {r:Nat} {π:List Int}:∀(n:Nat)(U:List Int)(y:Nat),U.length=n->loc y=some (r,π++U)->∃z,loc z=some (r,π)
 | 0,U,y,hn,hy=>by
   have:U=[]:=List.eq_nil_of_length_eq_zero hn;subst this;exact⟨y,by simpa using hy⟩
 | n+1,U,y,hn,hy=>by
   rcases List.eq_nil_or_concat U with rfl|⟨τ',j,rfl⟩
   · cases hn
   ·rw[List.concat_eq_append]at hy hn;obtain⟨R,x,_,_,h4⟩:=h.part _ _ _ hy;obtain⟨_,q,_,h5⟩:=h4.up (π++τ') j ax;exact h.pre n τ' q (cw hn) h5
def Ra (S:fe)(C:fz)(T:bz)(Ta:Nat->bz)(B:Nat->List Int->bz×bz)(Zo:Nat->Prop)(M:Nat)(rc:Nat->Nat->Q7->WM Q7)(r:Nat)(R:eO)(k:Nat):Prop:=
 ∀(loc:Loc) (s:Q7) (p:Nat) (π:List Int) (Q:Q7->Prop),Inv S C T Ta B Zo none loc s->(∀n,gX loc n->n<=M)->loc p=some (r,π)->π.length=k->(∀U s',Inv S C T Ta B Zo none U s'->Wk loc U r π->Frame s s' R (k+1)->Q s')->rc R.b p s Q
theorem L7 {N M r p:Nat} {R:eO} {ρ:List Int} {i:Int} {rc:Nat->Nat->Q7->WM Q7} {Q:Q7->Prop} (hW:nZ C) (hr:C.rows[r]? =some R) (hN:R.steps.length<N) (N8:R.steps.length<9223372036854775807) (hM:M<9223372036854775807) (Tx:Ra S C T Ta B Zo M rc r R (ρ++[i]).length) (hZ:∀(k:Nat) (sc:eL),R.steps[k]? =some sc->¬Zo sc.st.adr)
  (h:Inv S C T Ta B Zo none loc s) (hc:∀n,gX loc n->n<=M) (hp:loc p=some (r,ρ++[i])) (hQ:∀bf s',Inv S C T Ta B Zo none bf s'->I4 loc bf r (ρ++[i])->Frame s s' R (ρ++[i]).length->Q s'):X0 N rc R.b p s Q:=by
 refine QR ?_;refine Tx loc s p (ρ++[i]) _ h hc hp rfl λeo s2 h2 VV eM=>?_;have gS:eo p=some (r,ρ++[i]):=(VV p _).2 ⟨hp,λ⟨τ,h1,h3⟩=>by have h4:=congrArg (λz:Nat×List Int=>z.2.length) h3;have:=List.length_pos_iff.2 h1;simp only[List.length_append]at h4;omega⟩;have mF:∀z j,eo z≠some (r,ρ++[i]++[j]):=λz j hz=>((VV z _).1 hz).2 ⟨[j],ax,rfl⟩;obtain⟨y,y1,y2,y3,y4,y5,y6,y7⟩:=h2.gRow hr;obtain⟨xn,g1,g2,_,_,_,_,_,_,_,n,g3,g4⟩:=h2.gNet
 have hnM:n<=M:=by
  obtain⟨m,hm⟩:=h.cnt;exact Nat.le_trans (g4.mono hm λy l hy=>((VV y l).1 hy).1) (hc m hm)
 obtain⟨R',xp,c1,c2,c3,c4⟩:=h2.gPart gS;rw[hr]at c1;cases c1;obtain⟨_,q,c5,hq⟩:=c4.up ρ i rfl;obtain⟨R',xq,d1,d2,d3,d4⟩:=h2.gPart hq;rw[hr]at d1;cases d1;have Z1:p≠C.g:=λe=>by rw[e,g2]at c3;cases c3
 have Z4:q≠C.g:=λe=>by rw[e,g2]at d3;cases d3
 have hRg:R.b≠C.g:=λe=>by rw[e,g2]at y2;cases y2
 have hRq:R.b≠q:=λe=>by rw[e,d3]at y2;cases y2
 have hRp:R.b≠p:=λe=>by rw[e,c3]at y2;cases y2
 have Z5:q≠p:=λe=>by
  rw[e,gS]at hq;simp only[Option.some.injEq,Prod.mk.injEq,true_and]at hq;have:=congrArg List.length hq;simp at this
 refine Qh y1 ?_;rw[y3];refine Qh g1 ?_;refine fR an ?_;refine lR ?_;refine Qh (a:=xp) (by rw[qK Z1];exact c2) ?_;refine Qh c5 ?_;refine Qh (a:=xq) (by rw[qK Z4];exact d2) ?_
 have live:∀z l,eo z=some l->s2 z≠none:=λz l hz=>by
  obtain⟨_,x,_,e2,_⟩:=h2.part z l.1 l.2 hz;rw[e2];simp
 have R2:∀(σ:Q7) (b:Nat) (o:PO) (z:Nat),σ z≠none->cq σ b o z≠none:=λσ b o z hz=>by
  unfold cq;split;· simp
  · exact hz
 refine fR (λz hz=>R2 _ _ _ _ ?_) ?_
 ·rcases hz with rfl|hz;· exact live _ _ gS
  · obtain⟨j,hj⟩:=(d4.kids z).1 hz;exact live _ _ hj
 refine lR ?_;refine Qh (a:=y) (by rw[xr hRq,xr hRg];exact y1) ?_;refine fR (λz hz=>R2 _ _ _ _ (R2 _ _ _ _ ?_)) ?_
 ·rcases hz with rfl|hz;· exact live _ _ gS
  · obtain⟨⟨π,hj,_⟩,_⟩:=(y7 z).1 hz;exact live _ _ hj
 refine lR ?_;generalize Z8:cq (cq (cq s2 C.g (.net {xn with parts:=xn.parts-1})) q (.part {xq with kids:=xq.kids.del p})) R.b (.row {y with whole:=y.whole.del p})=s5;have s5g:s5 C.g=some (.net {xn with parts:=xn.parts-1}):=by rw[<-Z8,QD (Ne.symm hRg),QD (Ne.symm Z4),iN]
 have s5q:s5 q=some (.part {xq with kids:=xq.kids.del p}):=by rw[<-Z8,QD (Ne.symm hRq),iN]
 have s5R:s5 R.b=some (.row {y with whole:=y.whole.del p}):=by rw[<-Z8,iN]
 have s5o:∀b,b≠C.g->b≠q->b≠R.b->s5 b=s2 b:=λb e1 e2 e3=>by rw[<-Z8,QD e3,QD e2,QD e1]
 have s5n:∀z,s2 z≠none->s5 z≠none:=λz hz=>by rw[<-Z8];exact R2 _ _ _ _ (R2 _ _ _ _ (R2 _ _ _ _ hz))
 have Kt:∀b o,s2 b=some o->(∀z,o≠.net z)->(∀z,o≠.part z)->(∀z,o≠.row z)->s5 b=some o:=λb o hb e1 e2 e3=>by
  rw[s5o b (λe=>by rw[e,g2]at hb;cases hb;exact e1 _ rfl) (λe=>by rw[e,d3]at hb;cases hb;exact e2 _ rfl) (λe=>by rw[e,y2]at hb;cases hb;exact e3 _ rfl)];exact hb
 obtain ⟨s6,a0R,Hp⟩:∃s6:Q7,(∀z,s5 z≠none->s6 z≠none)/\((R.steps[(ρ++[i]).length]? =none/\s6=s5)\/∃sc,R.steps[(ρ++[i]).length]? =some sc/\((∃a x,sc.st=.join a/\s5 a=some (.join x)/\s6=cq s5 a (.join {x with parts:=x.parts.del p}))\/(∃a x,sc.st=.nt a/\s5 a=some (.nt x)/\s6=cq s5 a (.nt {x with parts:=x.parts.del p}))\/∃a,sc.st=.test a/\s6=s5)):=by
  cases ez:R.steps[(ρ++[i]).length]? with
  |none=>exact⟨s5,λ_ h=>h,.inl ⟨rfl,rfl⟩⟩
  | some sc=>
    have h1:=h2.step r R _ sc hr ez (hZ _ sc ez);unfold ia at h1;cases U:sc.st with
    | join a=>
      rw[U]at h1;obtain⟨x,e1,_⟩:=h1;exact⟨_,λz hz=>R2 _ _ _ _ hz,.inr ⟨sc,rfl,.inl ⟨a,x,U,Kt _ _ e1 (λ_ e=>by cases e) (λ_ e=>by cases e) (λ_ e=>by cases e),rfl⟩⟩⟩
    | nt a=>
      rw[U]at h1;obtain⟨x,e1,_⟩:=h1;exact⟨_,λz hz=>R2 _ _ _ _ hz,.inr ⟨sc,rfl,.inr (.inl ⟨a,x,U,Kt _ _ e1 (λ_ e=>by cases e) (λ_ e=>by cases e) (λ_ e=>by cases e),rfl⟩)⟩⟩
    |test a=>exact⟨s5,λ_ h=>h,.inr ⟨sc,rfl,.inr (.inr ⟨a,U,rfl⟩)⟩⟩
 have s6k:∀b o,s5 b=some o->(∀z,o≠.join z)->(∀z,o≠.nt z)->s6 b=some o:=λb o hb e1 e2=>by
  rcases Hp with⟨_,rfl⟩|⟨sc,_,⟨a,x,_,hx,rfl⟩|⟨a,x,_,hx,rfl⟩|⟨a,_,rfl⟩⟩
  · exact hb
  · rw[QD (λe=>by rw[e,hx]at hb;cases hb;exact e1 _ rfl)];exact hb
  · rw[QD (λe=>by rw[e,hx]at hb;cases hb;exact e2 _ rfl)];exact hb
  · exact hb
 have YO:Inv S C T Ta B Zo none (HW eo p) s6:=by
  refine h2.kill hW hr gS hq mF g2 d3 y2 (s6k _ _ s5g (λ_ e=>by cases e) (λ_ e=>by cases e)) (s6k _ _ s5q (λ_ e=>by cases e) (λ_ e=>by cases e)) (s6k _ _ s5R (λ_ e=>by cases e) (λ_ e=>by cases e)) (λsc ez hz=>?_) (λb e1 e2 e3 e4=>?_)
  · have h1:=h2.step r R _ sc hr ez hz;rcases Hp with⟨h0,_⟩|⟨dh,fg,hh⟩
    · rw[h0]at ez;cases ez
    · rw[fg]at ez;cases ez;rcases hh with⟨a,x,U,hx,rfl⟩|⟨a,x,U,hx,rfl⟩|⟨a,U,rfl⟩
      ·unfold ia at h1⊢;rw[U]at h1⊢;obtain⟨x',f1,f2,f3,f4,f5,f6⟩:=h1;have:=Kt _ _ f1 (λ_ e=>by cases e) (λ_ e=>by cases e) (λ_ e=>by cases e);have lU:s5 (bu.join a).adr=some (.join x):=hx;rw[lU]at this;cases this;exact⟨_,iN _ _ _,f2,f3,f4,f5,f6.del⟩
      ·unfold ia at h1⊢;rw[U]at h1⊢;obtain⟨x',f1,f2,f3,f4,f5,f6⟩:=h1;have:=Kt _ _ f1 (λ_ e=>by cases e) (λ_ e=>by cases e) (λ_ e=>by cases e);have lU:s5 (bu.nt a).adr=some (.nt x):=hx;rw[lU]at this;cases this;exact⟨_,iN _ _ _,f2,f3,f4,f5,f6.del⟩
      ·unfold ia at h1⊢;rw[U]at h1⊢;obtain⟨x',f1,f2⟩:=h1;exact⟨x',Kt _ _ f1 (λ_ e=>by cases e) (λ_ e=>by cases e) (λ_ e=>by cases e),f2⟩
  · rw[<-s5o b e1 e2 e3];rcases Hp with⟨_,rfl⟩|⟨sc,ez,⟨a,x,U,hx,rfl⟩|⟨a,x,U,hx,rfl⟩|⟨a,_,rfl⟩⟩
    · rfl
    · refine QD λe=>?_;have:=(e4 sc ez (by rw[e,U];rfl)).1 x;rw[<-s5o b e1 e2 e3,e]at this;exact this hx
    · refine QD λe=>?_;have:=(e4 sc ez (by rw[e,U];rfl)).2.1 x;rw[<-s5o b e1 e2 e3,e]at this;exact this hx
    · rfl
 have fu:I4 loc (HW eo p) r (ρ++[i]):=λz l=>by
  rw[u9,VV];constructor
  · rintro⟨e1,e2,e3⟩;refine⟨e2,λ⟨τ,e4⟩=>?_⟩;by_cases fT:τ=[]
    · subst fT;rw[List.append_nil]at e4;rw[e4]at e2;exact e1 (h.inj _ _ _ e2 hp)
    · exact e3 ⟨τ,fT,e4⟩
  · rintro⟨e2,e3⟩;refine⟨λe=>?_,e2,λ⟨τ,_,e4⟩=>e3 ⟨τ,e4⟩⟩;rw[e,hp]at e2;cases e2;exact e3 ⟨[],ax⟩
 have PF:y.steps.length=R.steps.length:=by rw[y4];simp
 have TB:Frame s s6 R (ρ++[i]).length:=λk' dh dx fg=>by
  rw[<-eM k' dh an fg];have h1:=h2.step r R k' dh hr fg (hZ _ _ fg)
  have h5:s5 dh.st.adr=s2 dh.st.adr:=by
    unfold ia at h1;split at h1;· obtain⟨x,f1,_⟩:=h1;rw[f1];exact Kt _ _ f1 (λ_ e=>by cases e) (λ_ e=>by cases e) (λ_ e=>by cases e)
    · obtain⟨x,f1,_⟩:=h1;rw[f1];exact Kt _ _ f1 (λ_ e=>by cases e) (λ_ e=>by cases e) (λ_ e=>by cases e)
    · obtain⟨x,f1,_⟩:=h1;rw[f1];exact Kt _ _ f1 (λ_ e=>by cases e) (λ_ e=>by cases e) (λ_ e=>by cases e)
  rw[<-h5]
  have db:∀sc,R.steps[(ρ++[i]).length]? =some sc->dh.st.adr≠sc.st.adr:=λsc ez e=>by
    have:=(hW.steps r r R R _ _ dh sc hr hr fg ez e).2;omega
  rcases Hp with⟨_,rfl⟩|⟨sc,ez,⟨a,x,U,hx,rfl⟩|⟨a,x,U,hx,rfl⟩|⟨a,_,rfl⟩⟩
  · rfl
  · exact QD λe=>db sc ez (by rw[e,U];rfl)
  · exact QD λe=>db sc ez (by rw[e,U];rfl)
  · rfl
 have both:∀(σ:Q7) (u:Nat),σ=(if(ρ++[i]).length<u then s6 else s5)->(∀z,s5 z≠none->σ z≠none)/\∀b o,s5 b=some o->(∀z,o≠.join z)->(∀z,o≠.nt z)->σ b=some o:=λσ u e=>by
  split at e;· subst e;exact⟨a0R,s6k⟩
  · subst e;exact⟨λ_ h=>h,λ_ _ h _ _=>h⟩
 refine wQ (λ(u,σ)=>u<=R.steps.length/\σ=if(ρ++[i]).length<u then s6 else s5) (λ(u,_)=>R.steps.length-u) ?_ N (0,s5) ⟨Nat.zero_le _,by rw[if_neg an]⟩ (by show R.steps.length-0<N;omega);rintro⟨u,σ⟩ ag ⟨hu,D7⟩ eY;dsimp only at hu D7 eY⊢;obtain⟨bn,bk⟩:=both σ u D7;refine ig (λhb=>?_) (λhb=>?_)
 ·have bp:u<R.steps.length:=by have:=of_decide_eq_true hb;rwa [PF]at this
  obtain⟨sc,ez⟩:∃sc,R.steps[u]? =some sc:=⟨_,List.getElem?_eq_getElem bp⟩
  refine jk ?_;refine Qh (qL (bk _ _ s5R (λ_ e=>by cases e) (λ_ e=>by cases e))) ?_;refine fR ⟨rfl,rfl,rfl⟩ ?_;refine Qh (a:=sc.st) (by show y.steps[u]? =_;rw[y4,List.getElem?_map,ez];rfl) ?_;have h1:=h2.step r R u sc hr ez (hZ u sc ez)
  have lv:∀(m:MS Nat Bool),LK none eo r u m->∀z,z=p\/z∈m.keys->σ z≠none:=λm hm z hz=>by
    refine bn z (s5n z ?_);rcases hz with rfl|hz;· exact live _ _ gS
    · obtain⟨⟨π,hj,_⟩,_⟩:=(hm z).1 hz;exact live _ _ hj
  have next:u≠(ρ++[i]).length->(∀s',s'=σ->eS (u+1<=9223372036854775807) (ag (u+1,s')) Q):=λdb s' e=>by
    refine fR an (eY (u+1,s') ⟨an,?_⟩ an);rw[e,D7];by_cases hh:(ρ++[i]).length<u;· rw[if_pos hh,if_pos an]
    · rw[if_neg hh,if_neg an]
  have last:u=(ρ++[i]).length->eS (u+1<=9223372036854775807) (ag (u+1,s6)) Q:=λhe=>
    fR an (eY (u+1,s6) ⟨an,by rw[if_pos an]⟩ an)
  unfold ia at h1;cases U:sc.st with
  | join a=>
    rw[U]at h1;obtain⟨x,f1,f2,f3,f4,f5,f6⟩:=h1;have Y2:s2 a=some (.join x):=f1;have g5:=Kt _ _ Y2 (λ_ e=>by cases e) (λ_ e=>by cases e) (λ_ e=>by cases e);refine jG (QR ?_);by_cases he:u=(ρ++[i]).length
    · have D8:σ=s5:=by rw[D7,if_neg an]
      refine zA (x:=x) (by rw[D8];exact g5) (lv _ f6) ?_;rw[D8]
      have:cq s5 a (.join {x with parts:=x.parts.del p})=s6:=by
       rcases Hp with⟨h0,_⟩|⟨dh,fg,⟨a',x',q1,q2,q3⟩|⟨a',x',q1,q2,q3⟩|⟨a',q1,q3⟩⟩
       · rw[<-he,ez]at h0;cases h0
       ·rw[<-he,ez]at fg;cases fg;rw[U]at q1;cases q1;rw[g5]at q2;cases q2;exact q3.symm
       ·rw[<-he,ez]at fg;cases fg;rw[U]at q1;cases q1
       ·rw[<-he,ez]at fg;cases fg;rw[U]at q1;cases q1
      rw[this];exact last he
    · obtain⟨_,hnk⟩:=f6.del' gS (λ_ e=>he e.symm)
      have lg:σ a=some (.join x):=by
       rw[D7];split
       ·rcases Hp with⟨_,rfl⟩|⟨dh,fg,⟨a',x',q1,q2,rfl⟩|⟨a',x',q1,q2,rfl⟩|⟨a',q1,rfl⟩⟩
        · exact g5
        · rw[QD (λe=>he (hW.steps r r R R _ _ sc dh hr hr ez fg (by rw[U,q1,<-e])).2)];exact g5
        · rw[QD (λe=>he (hW.steps r r R R _ _ sc dh hr hr ez fg (by rw[U,q1,<-e];rfl)).2)];exact g5
        · exact g5
       · exact g5
      refine zA (x:=x) lg (lv _ f6) ?_;rw[MS.del_none hnk];exact next he _ (tI lg)
  | nt a=>
    rw[U]at h1;obtain⟨x,f1,f2,f3,f4,f5,f6⟩:=h1;have Y2:s2 a=some (.nt x):=f1;have g5:=Kt _ _ Y2 (λ_ e=>by cases e) (λ_ e=>by cases e) (λ_ e=>by cases e);refine jH (QR ?_);by_cases he:u=(ρ++[i]).length
    · have D8:σ=s5:=by rw[D7,if_neg an]
      refine zB (x:=x) (by rw[D8];exact g5) (lv _ f6) ?_;rw[D8]
      have:cq s5 a (.nt {x with parts:=x.parts.del p})=s6:=by
       rcases Hp with⟨h0,_⟩|⟨dh,fg,⟨a',x',q1,q2,q3⟩|⟨a',x',q1,q2,q3⟩|⟨a',q1,q3⟩⟩
       · rw[<-he,ez]at h0;cases h0
       ·rw[<-he,ez]at fg;cases fg;rw[U]at q1;cases q1
       ·rw[<-he,ez]at fg;cases fg;rw[U]at q1;cases q1;rw[g5]at q2;cases q2;exact q3.symm
       ·rw[<-he,ez]at fg;cases fg;rw[U]at q1;cases q1
      rw[this];exact last he
    · obtain⟨_,hnk⟩:=f6.del' gS (λ_ e=>he e.symm)
      have lg:σ a=some (.nt x):=by
       rw[D7];split
       ·rcases Hp with⟨_,rfl⟩|⟨dh,fg,⟨a',x',q1,q2,rfl⟩|⟨a',x',q1,q2,rfl⟩|⟨a',q1,rfl⟩⟩
        · exact g5
        · rw[QD (λe=>he (hW.steps r r R R _ _ sc dh hr hr ez fg (by rw[U,q1,<-e];rfl)).2)];exact g5
        · rw[QD (λe=>he (hW.steps r r R R _ _ sc dh hr hr ez fg (by rw[U,q1,<-e])).2)];exact g5
        · exact g5
       · exact g5
      refine zB (x:=x) lg (lv _ f6) ?_;rw[MS.del_none hnk];exact next he _ (tI lg)
  | test a=>
    rw[U]at h1;obtain⟨x,f1,f2,f3,f4,f5⟩:=h1;have Y2:s2 a=some (.test x):=f1;have g5:=Kt _ _ Y2 (λ_ e=>by cases e) (λ_ e=>by cases e) (λ_ e=>by cases e);have lg:=bk _ _ g5 (λ_ e=>by cases e) (λ_ e=>by cases e);refine jI (QR ?_);refine Jb (x:=x) lg (λz hz=>?_) ?_
    · rcases hz with rfl|hz;· exact bn _ (s5n _ (live _ _ gS))
      · exact absurd hz (f5 z)
    · rw[MS.del_none (f5 p),tI lg];by_cases he:u=(ρ++[i]).length
      ·have D8:σ=s6:=by
        rw[D7,if_neg an];rcases Hp with⟨_,rfl⟩|⟨dh,fg,⟨a',x',q1,q2,q3⟩|⟨a',x',q1,q2,q3⟩|⟨a',q1,q3⟩⟩
        · rfl
        ·rw[<-he,ez]at fg;cases fg;rw[U]at q1;cases q1
        ·rw[<-he,ez]at fg;cases fg;rw[U]at q1;cases q1
        · exact q3.symm
       rw[D8];exact last he
      · exact next he _ rfl
 ·have pB:¬u<R.steps.length:=by have:=of_decide_eq_false hb;rwa [PF]at this
  have:σ=s6:=by
    rw[D7];split;· rfl
    · rename_i hh;rcases Hp with⟨_,rfl⟩|⟨dh,fg,_⟩
      · rfl
      ·have:=(List.getElem?_eq_some_iff.1 fg).1;omega
  rw[this];exact hQ _ _ YO fu TB
end
end
section
open Go Go.RowKit Classical
section
variable {S:fe} {I:ep->Prop} {C:fz} {T:bz} {Ta:Nat->bz} {B:Nat->List Int->bz×bz} {Zo:Nat->Prop} {ck:Option Nat} {loc:Loc} {s:Q7} {D:List Int}
theorem Iq {M r:Nat} {R:eO} (hW:nZ C)(hr:C.rows[r]? =some R)(N8:R.steps.length<9223372036854775807)(hM:M<4398046511104)(hZ:∀(k:Nat)(sc:eL),R.steps[k]? =some sc->¬Zo sc.st.adr):
   ∀(d k:Nat),k+d=R.steps.length->∀N,M+R.steps.length+d+1<N->Ra S C T Ta B Zo M (Lu N) r R k
 |d,k,hd,0,hN=>an
 | d,k,hd,N+1,hN=>by
   intro loc s p π Q h hc hp jb hQ;show Q6k N (Lu N) R.b p s Q;obtain⟨R',x,r1,r2,r3,r4⟩:=h.gPart hp;rw[hr]at r1;cases r1;obtain⟨n,L,l1,l2,l3⟩:=h.cnt;have hn:=hc n ⟨L,l1,l2,l3⟩
   have jC:∀ks:List Nat,ks.Nodup->(∀w∈ks,w∈x.kids.keys)->ks.length<=M:=λks h1 h2=>by
    have:=HL (l:=L) h1 λw hw=>by
     obtain⟨i,hi⟩:=(r4.kids w).1 (h2 w hw);exact(l2 w).2 ⟨r,_,hi,ax⟩
    omega
   refine Qh r2 ?_;refine QR ⟨Nat.le_trans (jC _ r4.kn λ_ h=>h) an,λks JA=>?_⟩;have a0I:=jC ks JA.1 λw hw=>(JA.2 w).1 hw;have FC:∀w∈ks,∃i,loc w=some (r,π++[i]):=λw hw=>(r4.kids w).1 ((JA.2 w).1 hw);refine wQ (λ(u,σ)=>u<=ks.length/\∃bf,Inv S C T Ta B Zo none bf σ/\Frame s σ R (k+1)/\∀y l,bf y=some l↔loc y=some l/\¬∃w∈ks.take u,∃i,loc w=some (r,π++[i])/\∃U,l=(r,π++[i]++U)) (λ(u,_)=>ks.length-u) ?_ N (0,s) ⟨Nat.zero_le _,loc,h,λ_ _ _ _=>rfl,λy l=>⟨λhy=>⟨hy,λ⟨w,hw,_⟩=>by cases hw⟩,λhy=>hy.1⟩⟩ (by show ks.length-0<N;omega);rintro⟨u,σ⟩ ag ⟨hu,cz,j9,YH,iU⟩ eY;dsimp only at hu eY⊢;refine ig (λhb=>?_) (λhb=>?_)
   ·have bp:u<ks.length:=of_decide_eq_true hb;obtain⟨w,hw⟩:∃w,ks[u]? =some w:=⟨_,List.getElem?_eq_getElem bp⟩
    obtain⟨i,M3⟩:=FC w (List.mem_of_getElem? hw);have fu:ks.take (u+1)=ks.take u++[w]:=by rw[List.take_add_one,hw];rfl
    have sG:w∉ks.take u:=λhm=>by
     have h2:(ks.take (u+1)).Nodup:=List.Nodup.sublist (List.take_sublist _ _) JA.1;rw[fu]at h2;exact(List.nodup_append.1 h2).2.2 _ hm _ ax rfl
    have hw1:cz w=some (r,π++[i]):=(iU w _).2 ⟨M3,λ⟨w',iK,j,hj,U,e⟩=>by
     simp only[Prod.mk.injEq,true_and,List.append_assoc,List.append_cancel_left_eq,List.cons_append,List.nil_append,List.cons.injEq]at e;rw[<-e.1]at hj;exact sG (by rw[h.inj _ _ _ M3 hj];exact iK)⟩
    have hkn:k<R.steps.length:=by
     obtain⟨R',x',q1,q2,q3⟩:=h.part _ _ _ M3;rw[hr]at q1;cases q1;have:=mw q3.env;simp only[List.length_append,List.length_cons,List.length_nil]at this;omega
    obtain⟨d',rfl⟩:∃d',d=d'+1:=⟨d-1,an⟩
    refine Qh hw ?_;refine QR ?_;have ih:=Iq hW hr N8 hM hZ d' (k+1) an N an;refine L7 hW hr an N8 an (by rw[show(π++[i]).length=k+1 from by simp[jb]];exact ih) hZ j9 (λm hm=>Nat.le_trans (hm.mono ⟨L,l1,l2,l3⟩ λy l hy=>((iU y l).1 hy).1) hn) hw1 λeo s2 j2 ht2 zL=>?_;refine fR an (eY (u+1,s2) ⟨an,eo,j2,λk' dh e1 e2=>(zL k' dh (by simp[jb];omega) e2).trans (YH k' dh e1 e2),λy l=>?_⟩ an);rw[ht2,iU,fu];constructor
    ·rintro⟨⟨e1,e2⟩,e3⟩;refine⟨e1,λ⟨w',iK,j,hj,U,e⟩=>?_⟩;rcases List.mem_append.1 iK with iK|iK;· exact e2 ⟨w',iK,j,hj,U,e⟩
     · rw[List.mem_singleton.1 iK,M3]at hj;simp only[Option.some.injEq,Prod.mk.injEq,true_and]at hj;obtain⟨_,rfl⟩:=VK hj;exact e3 ⟨U,e⟩
    ·rintro⟨e1,e2⟩;exact⟨⟨e1,λ⟨w',iK,hh⟩=>e2 ⟨w',List.mem_append_left _ iK,hh⟩⟩,λ⟨U,e⟩=>e2 ⟨w,List.mem_append_right _ ax,i,M3,U,e⟩⟩
   ·have pB:¬u<ks.length:=of_decide_eq_false hb;have W3:ks.take u=ks:=List.take_of_length_le an;rw[W3]at iU;refine hQ cz σ j9 (λy l=>?_) YH;rw[iU];constructor
    ·rintro⟨e1,e2⟩;refine⟨e1,λ⟨U,fT,e⟩=>?_⟩;cases U with
     |nil=>exact fT rfl
     | cons i U=>
       rw[e]at e1;have e1':loc y=some (r,π++[i]++U):=by rw[e1];simp
       obtain⟨w,hw⟩:=h.pre U.length U y rfl e1';have hwk:w∈ks:=(JA.2 w).2 ((r4.kids w).2 ⟨i,hw⟩);exact e2 ⟨w,hwk,i,hw,U,by rw[e];simp⟩
    ·rintro⟨e1,e2⟩;exact⟨e1,λ⟨w,_,i,_,U,e⟩=>e2 ⟨i::U,ax,by rw[e];simp⟩⟩
end
end
section
open Go Go.RowKit Classical
def Shape (C:fz)(s:Q7):Prop:=(∃x,gNet s C.g=some x/\x.rows=C.rows.map (·.b)/\x.rowsP=C.rP/\x.rowsC=C.rC)/\∀(r:Nat)(R:eO),C.rows[r]? =some R->∃y,gRow s R.b=some y/\y.steps=R.steps.map (·.st)/\y.stepsP=R.sP/\y.stepsC=R.sC
theorem Inv.shape {S:fe} {C:fz} {T:bz} {Ta:Nat->bz} {B:Nat->List Int->bz×bz} {Zo:Nat->Prop} {ck:Option Nat} {loc:Loc} {s:Q7} (h:Inv S C T Ta B Zo ck loc s):Shape C s:=by
 refine⟨?_,λr R hr=>?_⟩
 ·obtain⟨x,h1,_,_,U,h3,h4,_⟩:=h.gNet;exact⟨x,h1,U,h3,h4⟩
 ·obtain⟨y,h1,_,_,U,h3,h4,_⟩:=h.gRow hr;exact⟨y,h1,U,h3,h4⟩
section
variable {C:fz} {K:bu->Q7->WM Q7} {E:Nat->Q7->Prop} {J:Nat->Nat->Q7->Prop}
theorem EV {r:Nat} {R:eO} {y:mg} (hr:C.rows[r]? =some R)(hy:y.steps=R.steps.map (·.st)/\y.stepsP=R.sP/\y.stepsC=R.sC)(hJ:∀m s,J r m s->Shape C s)
   (step:∀m sc s Q,J r (m+1) s->R.steps[m]? =some sc->(∀s',J r m s'->Q s')->K sc.st s Q):∀(m:Nat) (s:Q7) (Q:Q7->Prop),m<=R.steps.length->J r m s->(∀s',J r 0 s'->Q s')->tu K R.b y m s Q
 |0,s,Q,_,h,U=>U s h
 | m+1,s,Q,hm,h,U=>by
   obtain⟨sc,ez⟩:∃sc,R.steps[m]? =some sc:=⟨_,List.getElem?_eq_getElem an⟩
   obtain⟨y',h1,h2,h3,h4⟩:=(hJ _ _ h).2 r R hr;refine Qh h1 ?_;refine fR ⟨by rw[h3,hy.2.1],by rw[h2,hy.1],by rw[h4,hy.2.2]⟩ ?_;refine Qh (a:=sc.st) (by rw[hy.1,List.getElem?_map,ez];rfl) ?_;refine QR ?_;exact step m sc s _ h ez λs' Ey=>EV hr hy hJ step m s' Q an Ey U
theorem xo {s:Q7} {Q:Q7->Prop} (hlen:C.rows.length<=9223372036854775806)(hsl:∀R∈C.rows,R.steps.length<=9223372036854775807)(hE:∀r s,E r s->Shape C s)(hJ:∀r m s,J r m s->Shape C s)
  (enter:∀r R s,C.rows[r]? =some R->E r s->J r R.steps.length s)
  (step:∀r R m sc s Q,C.rows[r]? =some R->J r (m+1) s->R.steps[m]? =some sc->(∀s',J r m s'->Q s')->K sc.st s Q)
  (leave:∀r s,J r 0 s->E (r+1) s) (h:E 0 s) (hQ:∀s',E C.rows.length s'->Q s'):E4 K C.g s Q:=by
 obtain⟨x,h1,h2,h3,h4⟩:=(hE _ _ h).1;refine Qh h1 ?_;refine fR (by rw[h2];simpa using hlen) ?_
 have key:∀(l:List eO) (r:Nat) (s:Q7),C.rows.drop r=l->r+l.length=C.rows.length->E r s->ES K C.g x (l.map (·.b)) s Q:=by
  intro l;induction l with
  | nil=>
    intro r s hl W1 he;exact hQ s (by rw[<-W1];exact he)
  | cons R l ih=>
    intro r s hl W1 he
    have U:C.rows[r]? =some R:=by
     have:=congrArg (·[0]?) hl;simpa using this
    have xu:C.rows.drop (r+1)=l:=by rw[<-List.drop_drop,hl];rfl
    obtain⟨x',q1,q2,q3,q4⟩:=(hE _ _ he).1;obtain⟨y,p1,p2,p3,p4⟩:=(hE _ _ he).2 r R U;refine Qh q1 ?_;refine fR ⟨by rw[q3,h3],by rw[q2,h2],by rw[q4,h4]⟩ ?_;refine Qh p1 ?_;have PF:y.steps.length=R.steps.length:=by rw[p2];simp
    refine fR (by rw[PF];exact hsl R (List.mem_of_getElem? U)) ?_;refine QR ?_;rw[PF];exact EV U ⟨p2,p3,p4⟩ (hJ r) (λm sc s Q=>step r R m sc s Q U) _ s _ (Nat.le_refl _) (enter r R s U he) λs' Ey=>ih (r+1) s' xu (by simp only[List.length_cons]at W1;omega) (leave r s' Ey)
 rw[h2];exact key C.rows 0 s rfl an h
end
end
section
open Go Go.RowKit Classical
section
variable {S:fe} {I:ep->Prop} {C:fz} {T:bz} {Ta:Nat->bz} {B:Nat->List Int->bz×bz} {Zo:Nat->Prop} {ck:Option Nat} {loc:Loc} {s:Q7} {D:List Int}
theorem Inv.parts_list (h:Inv S C T Ta B Zo ck loc s) {r M:Nat} {R:eO} (hr:C.rows[r]? =some R)(hc:∀n,gX loc n->n<=M):∃L:List Nat,L.length<=M+1/\∀y π,loc y=some (r,π)->y∈L:=by
 obtain⟨n,L,l1,l2,l3⟩:=h.cnt;refine⟨R.root::L,by simp only[List.length_cons];have:=hc n ⟨L,l1,l2,l3⟩;omega,λy π hy=>?_⟩;by_cases U:π=[]
 ·subst U;rw[h.inj _ _ _ hy (h.root r R hr)];simp
 · exact List.mem_cons_of_mem _ ((l2 y).2 ⟨r,π,hy,U⟩)
theorem AY {π:List Int} {k:Nat} {id:Int} (h:π[k]? =some id):π=π.take k++[id]++π.drop (k+1)/\(π.take k).length=k:=by
 have U:=(List.getElem?_eq_some_iff.1 h).1;refine⟨?_,by simp;omega⟩;have h1:π.drop k=id::π.drop (k+1):=OP h
 calc π=π.take k++π.drop k:=(List.take_append_drop k π).symm
  _=_:=by rw[h1];simp
theorem Ai {N M r k a:Nat} {R:eO} {sc:eL} {id:Int} {Q:Q7->Prop} (hW:nZ C) (hr:C.rows[r]? =some R) (hk:R.steps[k]? =some sc) (bw:sc.st=.join a) (N8:R.steps.length<9223372036854775807) (hM:M<4398046511103) (hN:M+R.steps.length+R.steps.length+2<N) (hZ:∀(k:Nat) (sc:eL),R.steps[k]? =some sc->¬Zo sc.st.adr)
    (h:Inv S C T Ta B Zo none loc s) (hc:∀n,gX loc n->n<=M) (hQ:∀bf s',Inv S C T Ta B Zo none bf s'->(∀y l,bf y=some l↔loc y=some l/\¬(l.1=r/\l.2[k]? =some id))->Q s'):Q6i N a id s Q:=by
  have jC:k<R.steps.length:=(List.getElem?_eq_some_iff.1 hk).1;have h0:=h.step r R k sc hr hk (hZ k sc hk);unfold ia at h0;rw[bw]at h0;obtain⟨x,b1,b2,b3,b4,b5,b6⟩:=h0;have qa:s a=some (.join x):=b1;have eX:sc.st.adr=a:=by rw[bw];rfl
  obtain⟨L,hL1,To⟩:=h.parts_list hr hc;obtain⟨n0,Pz⟩:=h.cnt;have Tx:∀k',k'<=R.steps.length->Ra S C T Ta B Zo M (Lu N) r R k':=λk' dx=>Iq hW hr N8 an hZ (R.steps.length-k') k' an N an;refine Qh (RG qa) ?_;refine wQ (λ(b,m,d,σ)=>b=x.partsA/\m=x.parts/\d.Nodup/\(∀q∈d,q∈x.parts.keys)/\∃bf,Inv S C T Ta B Zo none bf σ/\Frame s σ R (k+1)/\∀y l,bf y=some l↔loc y=some l/\¬∃q∈d,∃ρ,loc q=some (r,ρ)/\ρ.length=k/\∃τ,l=(r,ρ++[id]++τ)) (λ(_,_,d,_)=>M+1-d.length) ?_ N _ ⟨rfl,rfl,List.nodup_nil,(λq hq=>by cases hq),loc,h,(λ_ _ _ _=>rfl),λy l=>⟨λhy=>⟨hy,λ⟨q,hq,_⟩=>by cases hq⟩,λhy=>hy.1⟩⟩ (by show M+1-0<N;omega);rintro⟨b,m,d,σ⟩ ag ⟨rfl,rfl,jY,mC,cz,j9,BV,iU⟩ eY;dsimp only at jY mC eY⊢;have lg:σ a=some (.join x):=by rw[<-eX,BV k sc an hk,eX];exact qa
  refine Qh (RG lg) ?_;refine fR ⟨rfl,rfl⟩ ?_;refine OY (λej=>?_) λq hq Ew=>?_
  · refine hQ cz σ j9 λy l=>?_;rw[iU];constructor
    · rintro⟨U,e2⟩;refine⟨U,λ⟨e3,e4⟩=>?_⟩;obtain⟨r',π⟩:=l;dsimp only at e3 e4;subst e3;obtain⟨e5,e6⟩:=AY e4;rw[e5,List.append_assoc]at U;obtain⟨q,hq⟩:=h.pre _ _ y rfl U;exact e2 ⟨q,ej q ((b6 q).2 ⟨⟨_,hq,e6⟩,ax⟩),_,hq,e6,π.drop (k+1),by rw[<-e5]⟩
    · rintro⟨U,e2⟩;refine⟨U,λ⟨q,_,ρ,_,e4,τ,e5⟩=>e2 ?_⟩;rw[e5];refine⟨rfl,?_⟩;show(ρ++[id]++τ)[k]? =some id;rw[List.append_assoc,List.getElem?_append_right an,e4];simp
  · obtain⟨⟨ρ,gA,gT⟩,_⟩:=(b6 q).1 hq
    have Gb:cz q=some (r,ρ):=(iU q _).2 ⟨gA,λ⟨q',_,cj,_,e4,τ,e5⟩=>by
      have:=congrArg (λz:Nat×List Int=>z.2.length) e5;simp only[List.length_append,List.length_cons,List.length_nil]at this;omega⟩
    obtain⟨v,hv⟩:=Xd hq;refine Qh hv ?_;obtain⟨R',z,r1,r2,r3,r4⟩:=j9.gPart Gb;rw[hr]at r1;cases r1;refine Qh r2 ?_;have VU:∀n,gX cz n->n<=M:=λn hn=>Nat.le_trans (hn.mono Pz λy l hy=>((iU y l).1 hy).1) (hc _ Pz);obtain⟨n1,L1,l1,l2,l3⟩:=j9.cnt
    have hkb:∀ks:List Nat,ks.Nodup->(∀w∈ks,w∈z.kids.keys)->ks.length<=M:=λks h1 h2=>by
      have:=HL (l:=L1) h1 λw hw=>by
        obtain⟨i,hi⟩:=(r4.kids w).1 (h2 w hw);exact(l2 w).2 ⟨r,_,hi,ax⟩
      have:=VU n1 ⟨L1,l1,l2,l3⟩;omega
    refine QR ⟨Nat.le_trans (hkb _ r4.kn λ_ h=>h) an,λks JA=>?_⟩;have a0I:=hkb ks JA.1 λw hw=>(JA.2 w).1 hw
    have Nj:d.length<M+1:=by
      have:=HL (l:=L) (List.nodup_cons.2 ⟨Ew,jY⟩) λw hw=>by
        have:w∈x.parts.keys:=by
          rcases List.mem_cons.1 hw with rfl|hw;· exact hq
          · exact mC w hw
        obtain⟨⟨π,U,_⟩,_⟩:=(b6 w).1 this;exact To w π U
      simp only[List.length_cons]at this;omega
    refine wQ (λ(u,DV)=>u<=ks.length/\∃bf,Inv S C T Ta B Zo none bf DV/\Frame s DV R (k+1)/\∀y l,bf y=some l↔cz y=some l/\¬((∃w∈ks.take u,cz w=some (r,ρ++[id]))/\∃τ,l=(r,ρ++[id]++τ))) (λ(u,_)=>ks.length-u) ?_ N (0,σ) ⟨Nat.zero_le _,cz,j9,BV,λy l=>⟨λhy=>⟨hy,λ⟨⟨w,hw,_⟩,_⟩=>by cases hw⟩,λhy=>hy.1⟩⟩ (by show ks.length-0<N;omega);rintro⟨u,DV⟩ ag2 ⟨hu,eo,j2,zL,xu⟩ G1;dsimp only at hu G1⊢;refine ig (λhb=>?_) (λhb=>?_)
    · have bp:u<ks.length:=of_decide_eq_true hb;obtain⟨w,hw⟩:∃w,ks[u]? =some w:=⟨_,List.getElem?_eq_getElem bp⟩
      have hwk:=List.mem_of_getElem? hw;obtain⟨i,M3⟩:=(r4.kids w).1 ((JA.2 w).1 hwk);have fu:ks.take (u+1)=ks.take u++[w]:=by rw[List.take_add_one,hw];rfl
      have sG:w∉ks.take u:=λhm=>by
        have h2:(ks.take (u+1)).Nodup:=List.Nodup.sublist (List.take_sublist _ _) JA.1;rw[fu]at h2;exact(List.nodup_append.1 h2).2.2 _ hm _ ax rfl
      have W6:eo w=some (r,ρ++[i]):=(xu w _).2 ⟨M3,λ⟨⟨w',iK,hj⟩,τ,e⟩=>by
        simp only[Prod.mk.injEq,true_and,List.append_assoc,List.append_cancel_left_eq,List.cons_append,List.nil_append,List.cons.injEq]at e;rw[<-e.1]at hj;exact sG (by rw[j9.inj _ _ _ M3 hj];exact iK)⟩
      refine jk ?_;refine Qh hw ?_;obtain⟨R',zw,p1,p2,p3,p4⟩:=j2.gPart W6;refine Qh p2 ?_;have hid:=(p4.up ρ i rfl).1;refine ig (λTt=>?_) (λTt=>?_)
      · have VY:i=id:=by rw[hid]at Tt;simpa using Tt
        subst VY;have Zu:DV a=some (.join x):=by rw[<-eX,zL k sc an hk,eX];exact qa
        refine Qh (RG Zu) ?_;refine QR ?_;rw[b3];have LZ:(ρ++[i]).length=k+1:=by simp[gT]
        show X0 N (Lu N) R.b w DV _;refine L7 hW hr an N8 an (Tx _ an) hZ j2 (λm hm=>Nat.le_trans (hm.mono ⟨L1,l1,l2,rfl⟩ λy l hy=>((xu y l).1 hy).1) (VU _ ⟨L1,l1,l2,rfl⟩)) W6 λa0Y s3 hi3 ht3 hf3=>?_;refine fR an (G1 (u+1,s3) ⟨an,a0Y,hi3,λk' dh U e2=>(hf3 k' dh an e2).trans (zL k' dh U e2),λy l=>?_⟩ an);rw[ht3,xu,fu];constructor;· rintro⟨⟨U,e2⟩,e3⟩;exact⟨U,λ⟨_,e5⟩=>e3 e5⟩
        · rintro⟨U,e2⟩;exact⟨⟨U,λ⟨⟨w',iK,e4⟩,e5⟩=>e2 ⟨⟨w',List.mem_append_left _ iK,e4⟩,e5⟩⟩,λe5=>e2 ⟨⟨w,ax,M3⟩,e5⟩⟩
      · have VY:i≠id:=λe=>by rw[hid,e]at Tt;simp at Tt
        refine fR an (G1 (u+1,DV) ⟨an,eo,j2,zL,λy l=>?_⟩ an);rw[xu,fu];constructor
        · rintro⟨U,e2⟩;refine⟨U,λ⟨⟨w',iK,e4⟩,e5⟩=>?_⟩;rcases List.mem_append.1 iK with iK|iK;· exact e2 ⟨⟨w',iK,e4⟩,e5⟩
          · rw[List.mem_singleton.1 iK,M3]at e4;simp only[Option.some.injEq,Prod.mk.injEq,true_and]at e4;exact VY (VK e4).2
        · rintro⟨U,e2⟩;exact⟨U,λ⟨⟨w',iK,e4⟩,e5⟩=>e2 ⟨⟨w',List.mem_append_left _ iK,e4⟩,e5⟩⟩
    · have pB:¬u<ks.length:=of_decide_eq_false hb;have W3:ks.take u=ks:=List.take_of_length_le an;rw[W3]at xu;refine eY _ ⟨rfl,rfl,List.nodup_append.2 ⟨jY,ax,λy hy w hw U=>Ew (by simp at hw;rw[<-hw,<-U];exact hy)⟩,(λw hw=>?_),eo,j2,zL,λy l=>?_⟩ (by show M+1-(d++[q]).length<_;simp only[List.length_append,List.length_cons,List.length_nil];omega)
      · rcases List.mem_append.1 hw with hw|hw;· exact mC w hw
        · rw[List.mem_singleton.1 hw];exact hq
      · rw[xu,iU];constructor
        · rintro⟨⟨U,e2⟩,e3⟩;refine⟨U,λ⟨q',dz,cj,e4,e5,τ,e6⟩=>?_⟩;rcases List.mem_append.1 dz with dz|dz;· exact e2 ⟨q',dz,cj,e4,e5,τ,e6⟩
          · rw[List.mem_singleton.1 dz,gA]at e4;cases e4;have Wa:cz y=some l:=(iU y l).2 ⟨U,e2⟩;rw[e6]at Wa;obtain⟨w,hw⟩:=j9.pre _ _ y rfl Wa;exact e3 ⟨⟨w,(JA.2 w).2 ((r4.kids w).2 ⟨id,hw⟩),hw⟩,τ,e6⟩
        · rintro⟨U,e2⟩;exact⟨⟨U,λ⟨q',dz,hh⟩=>e2 ⟨q',List.mem_append_left _ dz,hh⟩⟩,λ⟨_,τ,e6⟩=>e2 ⟨q,ax,ρ,gA,gT,τ,e6⟩⟩
end
end
section
open Go Go.RowKit Classical
section
variable {S:fe} {I:ep->Prop} {C:fz} {T:bz} {Ta:Nat->bz} {B:Nat->List Int->bz×bz} {Zo:Nat->Prop} {ck:Option Nat} {loc:Loc} {s:Q7} {D:List Int}
theorem Inv.congrB {B':Nat->List Int->bz×bz} (h:Inv S C T Ta B Zo ck loc s)(U:∀p r π,loc p=some (r,π)->B' r π=B r π):Inv S C T Ta B' Zo ck loc s:=by
 refine⟨h.net,h.row,h.step,h.al,λp r π hp=>?_,h.inj,h.root,h.le⟩;obtain⟨R,x,a1,a2,a3⟩:=h.part p r π hp;exact⟨R,x,a1,a2,⟨a3.env,a3.top,a3.up,a3.kids,by rw[U p r π hp];exact a3.blocks,by rw[U p r π hp];exact a3.free,a3.kn⟩⟩
noncomputable def nb (B:Nat->List Int->bz×bz)(r k:Nat)(T:bz):Nat->List Int->bz×bz:=λU π=>if U=r/\π.length=k then(T,T)else B U π
theorem Dg {N M r k a:Nat} {R:eO} {sc:eL} {id:Int} {T0:bz} {Q:Q7->Prop} (hW:nZ C) (hT:il T D) (hD:D.length<=3518437208882) (hr:C.rows[r]? =some R) (hk:R.steps[k]? =some sc) (bw:sc.st=.nt a) (hlen:R.steps.length<9223372036854775807) (cn:∀sc∈R.steps,wE S I C T sc) (hI:∀π e,fE S T R.steps (R.hs,R.vs) π=some e->I e)
  (hN:B0+D.length+R.steps.length+2<N) (Ys:M+2<N) (hZ:∀(k:Nat) (sc:eL),R.steps[k]? =some sc->¬Zo sc.st.adr) (hid:T id=none) (Na:∀i,i≠id->T0 i=T i) (hB0:∀π:List Int,π.length=k->B r π=(T0,T0)) (hB1:∀π:List Int,k<π.length->B r π=(T,T))
  (h:Inv S C T (λ_=>T) B Zo none loc s) (hc:∀n,gX loc n->n<=M)
  (hQ:∀bf s',Inv S C T (λ_=>T) (nb B r k T) Zo none bf s'->ke loc bf->(∀y l,bf y=some l->loc y=none->∃q ρ τ,loc q=some (r,ρ)/\ρ.length=k/\τ≠[]/\l=(r,ρ++τ))->(pX bf->∀q ρ e,loc q=some (r,ρ)->ρ.length=k->fE S T R.steps (R.hs,R.vs) ρ=some e->jx S sc e T0 id->iH S T bf r ρ (R.steps.drop k) e)->Q s'):Q6T N a id s Q:=by
 have h0:=h.step r R k sc hr hk (hZ k sc hk);unfold ia at h0;rw[bw]at h0;obtain⟨x,b1,b2,b3,b4,b5,b6⟩:=h0;have qa:s a=some (.nt x):=b1;have jC:k<R.steps.length:=(List.getElem?_eq_some_iff.1 hk).1;obtain⟨L,hL1,To⟩:=h.parts_list hr hc
 have Cs:∀(e:ep) (i:Int),jx S sc e T i↔i≠id/\jx S sc e T0 i:=λe i=>by
  constructor
  ·rintro⟨f,f1,f2⟩;have:i≠id:=λU=>by rw[U,hid]at f1;cases f1
   exact⟨this,f,by rw[Na i this];exact f1,f2⟩
  · rintro⟨h1,f,f1,f2⟩;exact⟨f,by rw[<-Na i h1];exact f1,f2⟩
 let Bd:List Nat->Nat->List Int->bz×bz:=λd r' fc=>if r'=r/\∃q∈d,loc q=some (r,fc)then(T,T)else B r' fc
 have BdT:∀d fc,k<fc.length->Bd d r fc=(T,T):=λd fc hp=>by
  show(if _ then _ else _)=_;split;· rfl
  · exact hB1 fc hp
 refine Qh (LG qa) ?_;refine wQ (λ(d,σ)=>d.Nodup/\(∀q∈d,q∈x.parts.keys)/\∃bf,Inv S C T (λ_=>T) (Bd d) Zo none bf σ/\ke loc bf/\(∀y l,bf y=some l->loc y=none->∃q ρ τ,q∈d/\loc q=some (r,ρ)/\ρ.length=k/\τ≠[]/\l=(r,ρ++τ))/\(pX bf->∀q∈d,∀ρ e,loc q=some (r,ρ)->fE S T R.steps (R.hs,R.vs) ρ=some e->jx S sc e T0 id->iH S T bf r ρ (R.steps.drop k) e)) (λ(d,_)=>M+1-d.length) ?_ N ([],s) ⟨List.nodup_nil,(λq hq=>by cases hq),loc,h.congrB (λp r' fc _=>if_neg λ⟨_,q,hq,_⟩=>by cases hq),ke.refl _,(λy l h1 h2=>by rw[h1]at h2;cases h2),λ_ q hq=>by cases hq⟩ (by show M+1-0<N;omega);rintro⟨d,σ⟩ ag ⟨jY,mC,cz,j9,yL,BW,CT⟩ eY;dsimp only at jY mC eY⊢;refine OY (λej=>?_) λq hq Ew=>?_
 ·refine hQ cz σ (j9.congrB λp r' fc hp=>?_) yL (λy l h1 h2=>?_) λfS q ρ e hq PG=>CT fS q (ej q ((b6 q).2 ⟨⟨ρ,hq,PG⟩,ax⟩)) ρ e hq
  ·show nb B r k T r' fc=if _ then _ else _
   unfold nb;by_cases hh:r'=r/\fc.length=k
   ·rw [if_pos hh];obtain⟨rfl,hh⟩:=hh
    have qN:loc p=some (r',fc):=by
      cases hl:loc p with
      |some l=>have:=yL _ _ hl;rw[hp]at this;exact this.symm
      | none=>
        obtain⟨q,ρ,τ,_,_,e3,e4,e5⟩:=BW p _ hp hl;simp only[Prod.mk.injEq,true_and]at e5;have:=List.length_pos_iff.2 e4;rw[e5,List.length_append]at hh;omega
    rw[if_pos ⟨rfl,p,ej p ((b6 p).2 ⟨⟨fc,qN,hh⟩,ax⟩),qN⟩]
   ·rw[if_neg hh];split
    · rename_i h2;obtain⟨rfl,q,hq,zQ⟩:=h2;obtain⟨⟨ρ,U,e2⟩,_⟩:=(b6 q).1 (mC q hq);rw[U]at zQ;cases zQ;exact absurd ⟨rfl,e2⟩ hh
    · rfl
  ·obtain⟨q,ρ,τ,_,e2,e3,e4,e5⟩:=BW y l h1 h2;exact⟨q,ρ,τ,e2,e3,e4,e5⟩
 ·obtain ⟨⟨ρ,gA,gT⟩,_⟩:=(b6 q).1 hq;have Gb:=yL _ _ gA;obtain⟨v,hv⟩:=Xd hq;refine Qh hv ?_;obtain⟨R',z,r1,r2,r3,r4⟩:=j9.gPart Gb;rw[hr]at r1;cases r1;have oy:=r4.env;have hIe:=hI _ _ oy;obtain⟨bb,m,m1,m2,m3⟩:=r4.blocks ax sc a (by rw[gT];exact hk) bw
  have Tm:Bd d r ρ=(T0,T0):=by
   show(if _ then _ else _)=_;rw[if_neg];· exact hB0 ρ gT
   ·rintro⟨_,q',dz,zQ⟩;exact Ew (by rw[h.inj _ _ _ gA zQ];exact dz)
  rw[Tm]at m2;dsimp only at m2
  have Nj:d.length<M+1:=by
   have:=HL (l:=L) (List.nodup_cons.2 ⟨Ew,jY⟩) λw hw=>by
    have:w∈x.parts.keys:=by
      rcases List.mem_cons.1 hw with rfl|hw;· exact hq
      · exact mC w hw
    obtain⟨⟨π,U,_⟩,_⟩:=(b6 w).1 this;exact To w π U
   simp only[List.length_cons]at this;omega
  have CX:(d++[q]).Nodup:=List.nodup_append.2 ⟨jY,ax,λy hy w hw U=>Ew (by simp at hw;rw[<-hw,<-U];exact hy)⟩
  have CW:∀w∈d++[q],w∈x.parts.keys:=λw hw=>by
   rcases List.mem_append.1 hw with hw|hw;· exact mC w hw
   · rw[List.mem_singleton.1 hw];exact hq
  have sv:Bd (d++[q]) r ρ=(T,T):=if_pos ⟨rfl,q,ax,gA⟩
  have zF:∀r' fc,(r',fc)≠(r,ρ)->Bd (d++[q]) r' fc=Bd d r' fc:=λr' fc db=>by
   show(if _ then _ else _)=(if _ then _ else _)
   by_cases hh:r'=r/\∃q'∈d,loc q'=some (r,fc);· rw[if_pos hh,if_pos ⟨hh.1,hh.2.choose,List.mem_append_left _ hh.2.choose_spec.1,hh.2.choose_spec.2⟩]
   ·rw[if_neg hh,if_neg];rintro⟨rfl,q',dz,zQ⟩;rcases List.mem_append.1 dz with dz|dz;· exact hh ⟨rfl,q',dz,zQ⟩
    · rw[List.mem_singleton.1 dz,gA]at zQ;cases zQ;exact db rfl
  have YV:M+1-(d++[q]).length<M+1-d.length:=by simp only[List.length_append,List.length_cons,List.length_nil];omega
  refine jk ?_;refine Qh r2 ?_;refine Qh m1 ?_
  have skip:¬jx S sc (z.has,z.vals) T0 id->ag (d++[q],σ) Q:=λhnb=>by
   refine eY (d++[q],σ) ⟨CX,CW,cz,?_,yL,(λy l h1 h2=>by obtain⟨q',cj,τ,e0,U⟩:=BW y l h1 h2;exact⟨q',cj,τ,List.mem_append_left _ e0,U⟩),λfS q' dz cj e U e2 e3=>?_⟩ YV
   ·have:=j9.setBlocks (B':=Bd (d++[q])) (bl:=z.blocks) hr Gb r3 zF (λ_ dh a' q1 q2=>?_) (λdh a' q1 q2 dx=>?_);· rwa [tI r3]at this
    · rw[gT,hk]at q1;cases q1;refine⟨bb,m,m1,λi=>?_,m3⟩;rw[m2,sv];refine Iff.trans ?_ (Cs _ _).symm;exact⟨λhb=>⟨λe=>hnb (e▸hb),hb⟩,λhb=>hb.2⟩
    · have:=r4.free dh a' q1 q2 dx;rw[gT,hk]at q1;cases q1;rw[Tm]at this;intro i hi;rw[sv]at hi;have hi:=(Cs _ _).1 hi;exact this i hi.2
   ·rcases List.mem_append.1 dz with dz|dz;· exact CT fS q' dz cj e U e2 e3
    · rw[List.mem_singleton.1 dz,gA]at U;cases U;rw[oy]at e2;cases e2;exact absurd e3 hnb
  refine xW (λJD=>?_) (λw JD=>?_)
  ·refine z6 rfl (skip λhb=>?_);obtain⟨w,hw⟩:=MS.look_iff.1 ((m2 id).2 hb);rw[JD]at hw;cases hw
  ·have hwt:=m3 _ _ JD;subst hwt;have a0v:jx S sc (z.has,z.vals) T0 id:=(m2 id).1 (MS.look_iff.2 ⟨_,JD⟩)
   have fG:∀y i,cz y≠some (r,ρ++[i]):=λy i hy=>by
    have:=r4.free sc a (by rw[gT];exact hk) bw ⟨y,i,hy⟩ id;rw[Tm]at this;exact this a0v
   refine jj rfl ?_;refine Qh r2 ?_;refine Qh m1 ?_;refine lR ?_
   have xx:=j9.setBlocks (B':=Bd (d++[q])) (bl:=some (bb,m.del id)) hr Gb r3 zF (λ_ dh a' q1 q2=>by
    rw[gT,hk]at q1;cases q1;refine⟨bb,m.del id,rfl,λi=>?_,λi v hv=>?_⟩
    · rw[MS.keys_del,m2,sv];exact(Cs _ _).symm
    · rw[MS.look_del]at hv;split at hv;· cases hv
      · exact m3 i v hv) (λdh a' q1 q2 ⟨y,i,hy⟩=>absurd hy (fG y i))
   refine QR ?_;show Rm N (GS N) a q _ _;refine sW hW hlen hr hk bw (NY (S:=S) (I:=I) (B:=Bd (d++[q])) hW hlen hT hD hr cn (R.steps.length-(k+1)) (k+1) an (λfc Zt=>BdT _ fc an) N an) xx Gb gT oy hIe sv fG (λk' dh _ hs=>hZ k' dh hs) λeo s2 j2 mE tY=>?_;refine eY (d++[q],s2) ⟨CX,CW,eo,j2,yL.trans mE.1,λy l h1 h2=>?_,λfS q' dz cj e U e2 e3=>?_⟩ YV
   ·cases hy:cz y with
    | some l'=>
      have:=mE.1 _ _ hy;rw[h1]at this;cases this;obtain⟨q',cj,τ,e0,U⟩:=BW y l hy h2;exact⟨q',cj,τ,List.mem_append_left _ e0,U⟩
    | none=>
      obtain⟨τ,U,e2⟩:=mE.2 y l h1 hy;exact⟨q,ρ,τ,ax,gA,gT,U,e2⟩
   ·rcases List.mem_append.1 dz with dz|dz;· exact(CT (Xh j9.cnt mE.1 fS j2.cnt) q' dz cj e U e2 e3).mono mE.1
    · rw[List.mem_singleton.1 dz,gA]at U;cases U;rw[oy]at e2;cases e2;exact tY fS
end
end
section
open Go Go.RowKit Classical
section
variable {S:fe} {I:ep->Prop} {C:fz} {T:bz} {Ta:Nat->bz} {B:Nat->List Int->bz×bz} {Zo:Nat->Prop} {ck:Option Nat} {loc:Loc} {s:Q7} {D:List Int}
def uZ (A:Hz)(f:Qq)(j:Nat):Bool:=match A.args[j]? with
 |some a=>if a.k=4 then decide (f.args[j]? =some a.v)else true
 |none=>true
theorem sA {A:Hz} {f:Qq}:hasB A f=true↔f.ty=A.kind/\∀j,j<A.args.length->uZ A f j=true:=by
 unfold hasB;simp only[Bool.and_eq_true,decide_eq_true_eq,List.all_eq_true,List.mem_range];exact Iff.rfl
theorem Jo {N:Nat} {A:Hz} {Ta:bz} {f:Qq} {Q:Bool->Prop} (hA:HA Ta A (s A.b)) (hN:A.args.length<N) (hlen:A.args.length<9223372036854775807) (hf:f.ty=A.kind->∀(j:Nat) (a:fl),A.args[j]? =some a->∃v,f.args[j]? =some v) (hQ:Q (hasB A f)):Md N A.b f.id f.ty f.args s Q:=by
 obtain⟨x,h1,h2,h3,_⟩:=hA;refine Qh (VD h1) ?_;refine ig (λhb=>?_) (λhb=>?_)
 ·have:hasB A f=false:=by
   cases hh:hasB A f with
   |false=>rfl
   |true=>have:=(sA.1 hh).1;rw[h2,this]at hb;simp at hb
  rw[this]at hQ;exact hQ
 ·have hk:f.ty=A.kind:=by rw[h2]at hb;simpa using hb
  refine jk ?_;refine wQ (λu=>u<=A.args.length/\∀j,j<u->uZ A f j=true) (λu=>A.args.length-u) ?_ N 0 ⟨Nat.zero_le _,λj hj=>absurd hj (Nat.not_lt_zero _)⟩ an;intro u ag ⟨hu,ej⟩ eY;rw[h3];refine ig (λsB=>?_) (λsB=>?_)
  ·have bp:u<A.args.length:=of_decide_eq_true sB;obtain⟨a,ha⟩:∃a,A.args[u]? =some a:=⟨_,List.getElem?_eq_getElem bp⟩
   refine Qh ha ?_;refine jk ?_
   have go:uZ A f u=true->eS (u+1<=9223372036854775807) (ag (u+1)) Q:=λh=>fR an (eY (u+1) ⟨an,λj hj=>by
    by_cases e:j=u;· rw[e];exact h
    · exact ej j an⟩ an)
   refine ig (λLS=>?_) (λLS=>?_)
   ·have h4:a.k=4:=by simpa using LS
    obtain⟨v,hv⟩:=hf hk u a ha;refine Qh hv ?_;refine ig (λU=>?_) (λU=>?_)
    ·have db:¬a.v=v:=by simpa using U
     have:hasB A f=false:=by
      cases hh:hasB A f with
      |false=>rfl
      | true=>
        have:=(sA.1 hh).2 u bp;simp only[uZ,ha,h4,if_true,hv,decide_eq_true_eq,Option.some.injEq]at this;exact absurd this.symm db
     rw[this]at hQ;exact hQ
    ·have heq:a.v=v:=by simpa using U
     exact go (by simp only[uZ,ha,h4,if_true,hv,heq,decide_true])
   ·have h4:¬a.k=4:=by simpa using LS
    exact z6 rfl (go (by simp only[uZ,ha,if_neg h4]))
  ·have pB:¬u<A.args.length:=of_decide_eq_false sB;have:hasB A f=true:=sA.2 ⟨hk,λj hj=>ej j an⟩;rw[this]at hQ;exact hQ
theorem Inv.congrB2 {B':Nat->List Int->bz×bz} (h:Inv S C T Ta B Zo ck loc s)(U:∀p r π,loc p=some (r,π)->B' r π=B r π\/((B' r π).1=(B r π).1/\∀y i,loc y≠some (r,π++[i]))):Inv S C T Ta B' Zo ck loc s:=by
 refine⟨h.net,h.row,h.step,h.al,λp r π hp=>?_,h.inj,h.root,h.le⟩;obtain⟨R,x,a1,a2,a3⟩:=h.part p r π hp;refine⟨R,x,a1,a2,⟨a3.env,a3.top,a3.up,a3.kids,?_,?_,a3.kn⟩⟩
 ·rcases U p r π hp with e|⟨e,_⟩
  · rw[e];exact a3.blocks
  · rw[e];exact a3.blocks
 ·rcases U p r π hp with e|⟨_,e⟩
  · rw[e];exact a3.free
  ·intro sc a q1 q2 ⟨y,i,hy⟩;exact absurd hy (e y i)
theorem Inv.congrK {B':Nat->List Int->bz×bz} (h:Inv S C T Ta B Zo ck loc s)(hB:∀p r π R x sc a,loc p=some (r,π)->C.rows[r]? =some R->s p=some (.part x)->fE S T R.steps (R.hs,R.vs) π=some (x.has,x.vals)->R.steps[π.length]? =some sc->sc.st=.nt a->∀i,(jx S sc (x.has,x.vals) (B' r π).1 i↔jx S sc (x.has,x.vals) (B r π).1 i)/\(jx S sc (x.has,x.vals) (B' r π).2 i->jx S sc (x.has,x.vals) (B r π).2 i)):Inv S C T Ta B' Zo ck loc s:=by
 refine⟨h.net,h.row,h.step,h.al,λp r π hp=>?_,h.inj,h.root,h.le⟩;obtain⟨R,x,a1,a2,a3⟩:=h.part p r π hp;refine⟨R,x,a1,a2,⟨a3.env,a3.top,a3.up,a3.kids,λC1 sc a U q2=>?_,λsc a U q2 q3 i hi=>?_,a3.kn⟩⟩
 ·obtain⟨bb,m,m1,m2,m3⟩:=a3.blocks C1 sc a U q2;exact⟨bb,m,m1,λi=>(m2 i).trans (hB p r π R x sc a hp a1 a2 a3.env U q2 i).1.symm,m3⟩
 · exact a3.free sc a U q2 q3 i ((hB p r π R x sc a hp a1 a2 a3.env U q2 i).2 hi)
end
end
section
open Go Go.RowKit Classical
section
variable {S:fe} {I:ep->Prop} {C:fz} {T:bz} {Ta:Nat->bz} {B:Nat->List Int->bz×bz} {Zo:Nat->Prop} {ck:Option Nat} {loc:Loc} {s:Q7} {D:List Int}
theorem Jn {N a b:Nat} {i t:Int} {l:List V} {s:Q7} {Q:Bool->Prop} (e:a=b)(h:Md N b i t l s Q):Md N a i t l s Q:=e▸h
theorem Av {N M r k a:Nat} {R:eO} {sc:eL} {f:Qq} {T0:bz} {Q:Q7->Prop} (hW:nZ C) (hr:C.rows[r]? =some R) (hk:R.steps[k]? =some sc) (bw:sc.st=.nt a) (hlen:R.steps.length<9223372036854775807) (cn:wE S I C T sc) (hI:∀π e,fE S T R.steps (R.hs,R.vs) π=some e->I e)
    (hN0:B0<=N) (hM:M<4398046511103) (hN:M+R.steps.length+R.steps.length+2<N) (hA:∀A∈C.als,A.args.length<N/\A.args.length<9223372036854775807/\(f.ty=A.kind->∀(j:Nat) (a:fl),A.args[j]? =some a->∃v,f.args[j]? =some v)) (hZ:∀(k:Nat) (sc:eL),R.steps[k]? =some sc->¬Zo sc.st.adr) (hf:T f.id=some f) (LY:T0 f.id=none) (Na:∀i,i≠f.id->T0 i=T i) (hB0:∀π:List Int,π.length=k->B r π=(T0,T0))
    (h:Inv S C T Ta B Zo none loc s) (hc:∀n,gX loc n->n<=M)
    (hQ:∀bf s',Inv S C T Ta (nb B r k T) Zo none bf s'->(∀y l,bf y=some l↔loc y=some l/\¬∃q ρ e,loc q=some (r,ρ)/\ρ.length=k/\fE S T R.steps (R.hs,R.vs) ρ=some e/\(S.mt sc.c e.1 e.2 f).isSome=true/\∃τ,τ≠[]/\l=(r,ρ++τ))->Q s'):Q6j N a f.id f.ty f.args s Q:=by
  have h0:=h.step r R k sc hr hk (hZ k sc hk);unfold ia at h0;rw[bw]at h0;obtain⟨x,b1,b2,b3,b4,b5,b6⟩:=h0;have qa:s a=some (.nt x):=b1;have eX:sc.st.adr=a:=by rw[bw];rfl
  have jC:k<R.steps.length:=(List.getElem?_eq_some_iff.1 hk).1;obtain⟨L,hL1,To⟩:=h.parts_list hr hc;obtain⟨n0,Pz⟩:=h.cnt;obtain⟨A,pz,LR,Tk⟩:=cn.al (λa' e'=>by rw[bw]at e';cases e')
  have Cs:∀(e:ep) (i:Int),jx S sc e T i↔jx S sc e T0 i\/(i=f.id/\(S.mt sc.c e.1 e.2 f).isSome=true):=λe i=>by
    by_cases hi:i=f.id
    · subst hi;constructor
      · rintro⟨g,g1,g2⟩;rw[hf]at g1;cases g1;exact .inr ⟨rfl,g2⟩
      · rintro(⟨g,g1,_⟩|⟨_,g2⟩);· rw[LY]at g1;cases g1
        · exact⟨f,hf,g2⟩
    · constructor;· rintro⟨g,g1,g2⟩;exact .inl ⟨g,by rw[Na i hi];exact g1,g2⟩
      · rintro(⟨g,g1,g2⟩|⟨g1,_⟩);· exact⟨g,by rw[<-Na i hi];exact g1,g2⟩
        · exact absurd g1 hi
  obtain⟨hAn,hAl,hAf⟩:=hA A pz;refine Qh (LG qa) ?_;refine QR ?_;refine Jn (b2.trans LR.symm) (Jo (h.al A pz) hAn hAl hAf ?_)
  refine ig (λhb=>?_) (λhb=>?_)
  · have mF:∀e:ep,(S.mt sc.c e.1 e.2 f).isSome=false:=λe=>by
      cases U:S.mt sc.c e.1 e.2 f with
      |none=>rfl
      |some p=>have:=Tk f e p U;rw[this]at hb;simp at hb
    refine hQ loc s (h.congrK λp r' π R' z dh a' hp cy hx he q1 q2 i=>?_) λy l=>⟨λhy=>⟨hy,λ⟨q,ρ,e,_,_,_,e4,_⟩=>by rw[mF]at e4;cases e4⟩,λhy=>hy.1⟩
    unfold nb;by_cases U:r'=r/\π.length=k
    · rw[if_pos U];obtain⟨rfl,U⟩:=U;rw[hr]at cy;cases cy;rw[U,hk]at q1;cases q1;rw[hB0 π U];have:=Cs (z.has,z.vals) i;rw[mF]at this;have key:jx S sc (z.has,z.vals) T i↔jx S sc (z.has,z.vals) T0 i:=by rw[this];simp
      exact⟨key,key.1⟩
    · rw[if_neg U];exact⟨Iff.rfl,λh=>h⟩
  · let Bd:List Nat->Nat->List Int->bz×bz:=λd r' fc=>if r'=r/\∃q∈d,loc q=some (r,fc)then(T,T)else B r' fc
    refine wQ (λ(b,m,d,σ)=>b=x.partsA/\m=x.parts/\d.Nodup/\(∀q∈d,q∈x.parts.keys)/\∃bf,Inv S C T Ta (Bd d) Zo none bf σ/\Frame s σ R (k+1)/\∀y l,bf y=some l↔loc y=some l/\¬∃q∈d,∃ρ e,loc q=some (r,ρ)/\ρ.length=k/\fE S T R.steps (R.hs,R.vs) ρ=some e/\(S.mt sc.c e.1 e.2 f).isSome=true/\∃τ,τ≠[]/\l=(r,ρ++τ)) (λ(_,_,d,_)=>M+1-d.length) ?_ N _ ⟨rfl,rfl,List.nodup_nil,(λq hq=>by cases hq),loc,h.congrB (λp r' fc _=>if_neg λ⟨_,q,hq,_⟩=>by cases hq),(λ_ _ _ _=>rfl),λy l=>⟨λhy=>⟨hy,λ⟨q,hq,_⟩=>by cases hq⟩,λhy=>hy.1⟩⟩ (by show M+1-0<N;omega);rintro⟨b,m,d,σ⟩ ag ⟨rfl,rfl,jY,mC,cz,j9,BV,iU⟩ eY;dsimp only at jY mC eY⊢;have lg:σ a=some (.nt x):=by rw[<-eX,BV k sc an hk,eX];exact qa
    refine Qh (LG lg) ?_;refine fR ⟨rfl,rfl⟩ ?_;refine OY (λej=>?_) λq hq Ew=>?_
    · refine hQ cz σ (j9.congrB λp r' fc hp=>?_) λy l=>?_
      · have qN:=((iU p _).1 hp).1;show nb B r k T r' fc=if _ then _ else _
        unfold nb;by_cases U:r'=r/\fc.length=k
        · rw[if_pos U];obtain⟨rfl,U⟩:=U;rw[if_pos ⟨rfl,p,ej p ((b6 p).2 ⟨⟨fc,qN,U⟩,ax⟩),qN⟩]
        · rw[if_neg U];split
          · rename_i h2;obtain⟨rfl,q,hq,zQ⟩:=h2;obtain⟨⟨ρ,e1,e2⟩,_⟩:=(b6 q).1 (mC q hq);rw[e1]at zQ;cases zQ;exact absurd ⟨rfl,e2⟩ U
          · rfl
      · rw[iU];constructor
        · rintro⟨e1,e2⟩;refine⟨e1,λ⟨q,ρ,e,e3,e4,e5⟩=>e2 ⟨q,ej q ((b6 q).2 ⟨⟨ρ,e3,e4⟩,ax⟩),ρ,e,e3,e4,e5⟩⟩
        · rintro⟨e1,e2⟩;exact⟨e1,λ⟨q,_,ρ,e,e3⟩=>e2 ⟨q,ρ,e,e3⟩⟩
    · obtain ⟨⟨ρ,gA,gT⟩,_⟩:=(b6 q).1 hq
      have Gb:cz q=some (r,ρ):=(iU q _).2 ⟨gA,λ⟨q',_,cj,_,_,e4,_,_,τ,e5,e6⟩=>by
        have:=congrArg (λz:Nat×List Int=>z.2.length) e6;have:=List.length_pos_iff.2 e5;simp only[List.length_append]at*;omega⟩
      obtain⟨v,hv⟩:=Xd hq;refine Qh hv ?_;obtain⟨R',z,r1,r2,r3,r4⟩:=j9.gPart Gb;rw[hr]at r1;cases r1;have oy:=r4.env;have hIe:=hI _ _ oy;refine Qh r2 ?_;obtain⟨ha,hw,d1,d2⟩:=cn.mt (λa' e'=>by rw[bw]at e';cases e') N hN0 f hf _ hIe;refine Qh (a:=(ha,hw,(S.mt sc.c (z.has,z.vals).1 (z.has,z.vals).2 f).isSome)) (by rw[b5];exact d1) ?_;obtain⟨bb,m,m1,m2,m3⟩:=r4.blocks ax sc a (by rw[gT];exact hk) bw
      have Tm:Bd d r ρ=(T0,T0):=by
        show(if _ then _ else _)=_;rw[if_neg];· exact hB0 ρ gT
        · rintro⟨_,q',dz,zQ⟩;exact Ew (by rw[h.inj _ _ _ gA zQ];exact dz)
      rw[Tm]at m2;dsimp only at m2
      have Nj:d.length<M+1:=by
        have:=HL (l:=L) (List.nodup_cons.2 ⟨Ew,jY⟩) λw hw=>by
          have:w∈x.parts.keys:=by
            rcases List.mem_cons.1 hw with rfl|hw;· exact hq
            · exact mC w hw
          obtain⟨⟨π,e1,_⟩,_⟩:=(b6 w).1 this;exact To w π e1
        simp only[List.length_cons]at this;omega
      have CX:(d++[q]).Nodup:=List.nodup_append.2 ⟨jY,ax,λy hy w hw e1=>Ew (by simp at hw;rw[<-hw,<-e1];exact hy)⟩
      have CW:∀w∈d++[q],w∈x.parts.keys:=λw hw=>by
        rcases List.mem_append.1 hw with hw|hw;· exact mC w hw
        · rw[List.mem_singleton.1 hw];exact hq
      have sv:Bd (d++[q]) r ρ=(T,T):=if_pos ⟨rfl,q,ax,gA⟩
      have zF:∀r' fc,(r',fc)≠(r,ρ)->Bd (d++[q]) r' fc=Bd d r' fc:=λr' fc db=>by
        show(if _ then _ else _)=(if _ then _ else _)
        by_cases U:r'=r/\∃q'∈d,loc q'=some (r,fc);· rw[if_pos U,if_pos ⟨U.1,U.2.choose,List.mem_append_left _ U.2.choose_spec.1,U.2.choose_spec.2⟩]
        · rw[if_neg U,if_neg];rintro⟨rfl,q',dz,zQ⟩;rcases List.mem_append.1 dz with dz|dz;· exact U ⟨rfl,q',dz,zQ⟩
          · rw[List.mem_singleton.1 dz,gA]at zQ;cases zQ;exact db rfl
      have YV:M+1-(d++[q]).length<M+1-d.length:=by simp only[List.length_append,List.length_cons,List.length_nil];omega
      have sy:a≠q:=λe1=>by rw[e1,r3]at lg;cases lg
      refine ig (λHk=>?_) (λHk=>?_)
      · refine Qh m1 ?_;refine lR ?_;refine Qh (a:=x) (by rw[CM sy];exact LG lg) ?_;refine QR ?_;rw[b3];let B1:Nat->List Int->bz×bz:=λr' fc=>if(r',fc)=(r,ρ)then(T,T0)else Bd d r' fc
        have Tl:B1 r ρ=(T,T0):=if_pos rfl
        have xx:Inv S C T Ta B1 Zo none cz (cq σ q (.part {z with blocks:=some (bb,m.put f.id true)})):=j9.setBlocks hr Gb r3 (λr' fc db=>if_neg db) (λ_ dh a' q1 q2=>by
          rw[gT,hk]at q1;cases q1;refine⟨bb,m.put f.id true,rfl,λi=>?_,λi v hv=>?_⟩
          · rw[MS.keys_put,m2,Tl];refine Iff.trans ?_ (Cs _ _).symm;constructor
            · rintro(e|e);· exact .inr ⟨e,Hk⟩
              · exact .inl e
            · rintro(e|e);· exact .inr e
              · exact .inl e.1
          · rw[MS.look_put]at hv;split at hv;· cases hv;rfl
            · exact m3 i v hv) (λdh a' q1 q2 q3 i hi=>by
          have:=r4.free dh a' q1 q2 q3 i;rw[Tm]at this;rw[Tl]at hi;exact this hi)
        have VU:∀n,gX cz n->n<=M:=λn hn=>Nat.le_trans (hn.mono Pz λy l hy=>((iU y l).1 hy).1) (hc _ Pz);refine Iq hW hr hlen an hZ (R.steps.length-k) k an N an cz _ q ρ _ xx VU Gb gT λeo s2 j2 YC zL=>?_;refine eY _ ⟨rfl,rfl,CX,CW,eo,j2.congrB2 λp r' fc hp=>?_,λk' dh e1 e2=>?_,λy l=>?_⟩ YV
        · by_cases U:(r',fc)=(r,ρ)
          · cases U;exact .inr ⟨by rw[sv,Tl],λy i hy=>((YC y _).1 hy).2 ⟨[i],ax,rfl⟩⟩
          · left;rw[zF _ _ U];exact(if_neg U).symm
        · show s2 dh.st.adr=s dh.st.adr;rw[zL k' dh e1 e2,QD,BV k' dh e1 e2];intro e3;have h1:=j9.step r R k' dh hr e2 (hZ _ _ e2);unfold ia at h1;split at h1;· obtain⟨w,f1,_⟩:=h1;rw[e3,r3]at f1;cases f1
          · obtain⟨w,f1,_⟩:=h1;rw[e3,r3]at f1;cases f1
          · obtain⟨w,f1,_⟩:=h1;rw[e3,r3]at f1;cases f1
        · rw[YC,iU];constructor
          · rintro⟨⟨e1,e2⟩,e3⟩;refine⟨e1,λ⟨q',dz,cj,e,e4,e5,e6,e7,τ,e8,e9⟩=>?_⟩;rcases List.mem_append.1 dz with dz|dz;· exact e2 ⟨q',dz,cj,e,e4,e5,e6,e7,τ,e8,e9⟩
            · rw[List.mem_singleton.1 dz,gA]at e4;cases e4;exact e3 ⟨τ,e8,e9⟩
          · rintro⟨e1,e2⟩;exact⟨⟨e1,λ⟨q',dz,U⟩=>e2 ⟨q',List.mem_append_left _ dz,U⟩⟩,λ⟨τ,e8,e9⟩=>e2 ⟨q,ax,ρ,_,gA,gT,oy,Hk,τ,e8,e9⟩⟩
      · refine eY _ ⟨rfl,rfl,CX,CW,cz,j9.congrK λp r' fc R' z' dh a' hp cy hx he q1 q2 i=>?_,BV,λy l=>?_⟩ YV
        · by_cases U:(r',fc)=(r,ρ)
          · cases U;rw[hr]at cy;cases cy;rw[oy]at he;have Et:=Option.some.inj he;rw[gT,hk]at q1;cases q1;rw[sv,Tm,<-Et]
            have key:jx S sc (z.has,z.vals) T i↔jx S sc (z.has,z.vals) T0 i:=by
              rw[Cs];constructor
              · rintro(e|e);· exact e
                · rw[e.2]at Hk;cases Hk
              · exact .inl
            exact⟨key,key.1⟩
          · rw[zF _ _ U];exact⟨Iff.rfl,λh=>h⟩
        · rw[iU];constructor
          · rintro⟨e1,e2⟩;refine⟨e1,λ⟨q',dz,cj,e,e4,e5,e6,e7,e8⟩=>?_⟩;rcases List.mem_append.1 dz with dz|dz;· exact e2 ⟨q',dz,cj,e,e4,e5,e6,e7,e8⟩
            · rw[List.mem_singleton.1 dz,gA]at e4;cases e4;rw[oy]at e6;cases e6;rw[e7]at Hk;cases Hk
          · rintro⟨e1,e2⟩;exact⟨e1,λ⟨q',dz,U⟩=>e2 ⟨q',List.mem_append_left _ dz,U⟩⟩
end
end
section
open Go Go.RowKit Classical
section
variable {S:fe} {I:ep->Prop} {C:fz} {T:bz} {Ta:Nat->bz} {B:Nat->List Int->bz×bz} {Zo:Nat->Prop} {ck:Option Nat} {loc:Loc} {s:Q7} {D:List Int}
theorem Ah {N M r k a:Nat} {R:eO} {sc:eL} {f:Qq} {Q:Q7->Prop} (hW:nZ C) (hT:il T D) (hD:D.length<=3518437208882) (hr:C.rows[r]? =some R) (hk:R.steps[k]? =some sc) (bw:sc.st=.join a) (hlen:R.steps.length<9223372036854775807) (cn:∀sc∈R.steps,wE S I C T sc) (hI:∀π e,fE S T R.steps (R.hs,R.vs) π=some e->I e)
  (hN:B0+D.length+R.steps.length+2<N) (Ys:M+2<N) (hA:∀A∈C.als,A.args.length<N/\A.args.length<9223372036854775807/\(f.ty=A.kind->∀(j:Nat) (a:fl),A.args[j]? =some a->∃v,f.args[j]? =some v)) (hZ:∀(k:Nat) (sc:eL),R.steps[k]? =some sc->¬Zo sc.st.adr) (hf:T f.id=some f) (hB1:∀π:List Int,k<π.length->B r π=(T,T))
  (h:Inv S C T (λ_=>T) B Zo none loc s) (hc:∀n,gX loc n->n<=M) (mF:∀y ρ,ρ.length=k->loc y≠some (r,ρ++[f.id]))
  (hQ:∀bf s',Inv S C T (λ_=>T) B Zo none bf s'->ke loc bf->(∀y l,bf y=some l->loc y=none->∃q ρ τ,loc q=some (r,ρ)/\ρ.length=k/\l=(r,ρ++[f.id]++τ))->(pX bf->∀q ρ e U,loc q=some (r,ρ)->ρ.length=k->fE S T R.steps (R.hs,R.vs) ρ=some e->S.mt sc.c e.1 e.2 f=some U->iH S T bf r (ρ++[f.id]) (R.steps.drop (k+1)) U)->Q s'):Q6h N a f.id f.ty f.args s Q:=by
 have G8:=cn sc (List.mem_of_getElem? hk);have h0:=h.step r R k sc hr hk (hZ k sc hk);unfold ia at h0;rw[bw]at h0;obtain⟨x,b1,b2,b3,b4,b5,b6⟩:=h0;have qa:s a=some (.join x):=b1;have jC:k<R.steps.length:=(List.getElem?_eq_some_iff.1 hk).1;obtain⟨L,hL1,To⟩:=h.parts_list hr hc;obtain⟨A,pz,LR,Tk⟩:=G8.al (λa' U=>by rw[bw]at U;cases U);obtain⟨hAn,hAl,hAf⟩:=hA A pz;refine Qh (RG qa) ?_;refine QR ?_;refine Jn (b2.trans LR.symm) (Jo (h.al A pz) hAn hAl hAf ?_)
 refine ig (λhb=>?_) (λhb=>?_)
 ·refine hQ loc s h (ke.refl _) (λy l h1 h2=>by rw[h1]at h2;cases h2) λ_ q ρ e U _ _ _ e4=>?_;have:=Tk f e U e4;rw[this]at hb;cases hb
 ·refine wQ (λ(d,σ)=>d.Nodup/\(∀q∈d,q∈x.parts.keys)/\∃bf,Inv S C T (λ_=>T) B Zo none bf σ/\ke loc bf/\(∀y l,bf y=some l->loc y=none->∃q ρ τ,q∈d/\loc q=some (r,ρ)/\ρ.length=k/\l=(r,ρ++[f.id]++τ))/\(pX bf->∀q∈d,∀ρ e U,loc q=some (r,ρ)->fE S T R.steps (R.hs,R.vs) ρ=some e->S.mt sc.c e.1 e.2 f=some U->iH S T bf r (ρ++[f.id]) (R.steps.drop (k+1)) U)) (λ(d,_)=>M+1-d.length) ?_ N ([],s) ⟨List.nodup_nil,(λq hq=>by cases hq),loc,h,ke.refl _,(λy l h1 h2=>by rw[h1]at h2;cases h2),λ_ q hq=>by cases hq⟩ (by show M+1-0<N;omega);rintro⟨d,σ⟩ ag ⟨jY,mC,cz,j9,yL,BW,CT⟩ eY;dsimp only at jY mC eY⊢;refine OY (λej=>?_) λq hq Ew=>?_
  ·refine hQ cz σ j9 yL (λy l h1 h2=>?_) λfS q ρ e U hq PG=>CT fS q (ej q ((b6 q).2 ⟨⟨ρ,hq,PG⟩,ax⟩)) ρ e U hq;obtain⟨q,ρ,τ,_,e2⟩:=BW y l h1 h2;exact⟨q,ρ,τ,e2⟩
  ·obtain ⟨⟨ρ,gA,gT⟩,_⟩:=(b6 q).1 hq;have Gb:=yL _ _ gA;obtain⟨v,hv⟩:=Xd hq;refine Qh hv ?_;obtain⟨R',z,r1,r2,r3,r4⟩:=j9.gPart Gb;rw[hr]at r1;cases r1;have oy:=r4.env
   have Nj:d.length<M+1:=by
    have:=HL (l:=L) (List.nodup_cons.2 ⟨Ew,jY⟩) λw hw=>by
      have:w∈x.parts.keys:=by
        rcases List.mem_cons.1 hw with rfl|hw;· exact hq
        · exact mC w hw
      obtain⟨⟨π,e1,_⟩,_⟩:=(b6 w).1 this;exact To w π e1
    simp only[List.length_cons]at this;omega
   have CX:(d++[q]).Nodup:=List.nodup_append.2 ⟨jY,ax,λy hy w hw e1=>Ew (by simp at hw;rw[<-hw,<-e1];exact hy)⟩
   have CW:∀w∈d++[q],w∈x.parts.keys:=λw hw=>by
    rcases List.mem_append.1 hw with hw|hw;· exact mC w hw
    · rw[List.mem_singleton.1 hw];exact hq
   refine QR ?_;show WZ N (GS N) a q f.id f.ty f.args σ _;refine PL hW hlen an hr hk bw G8 (NY (S:=S) (I:=I) (B:=B) hW hlen hT hD hr cn (R.steps.length-(k+1)) (k+1) an (λfc Zt=>hB1 fc an) N an) j9 Gb gT oy (hI _ _ oy) hf (λy hy=>?_) (λk' dh _ hs=>hZ k' dh hs) λeo s2 j2 ic mE tY=>?_
   ·cases hl:loc y with
    |some l=>have:=yL _ _ hl;rw[hy]at this;cases this;exact mF y ρ gT hl
    | none=>
      obtain⟨q',cj,τ,e0,e1,e2,e3⟩:=BW y _ hy hl;simp only[Prod.mk.injEq,true_and]at e3
      have h5:ρ=cj:=by
        have:=congrArg (List.take k) e3;rw[List.take_append_of_le_length an,List.append_assoc,List.take_append_of_le_length an,List.take_of_length_le an,List.take_of_length_le an]at this;exact this
      rw[<-h5]at e1;exact Ew (by rw[h.inj _ _ _ gA e1];exact e0)
   ·refine eY (d++[q],s2) ⟨CX,CW,eo,j2,yL.trans ic,λy l h1 h2=>?_,λfS q' dz cj e U e1 e2 e3=>?_⟩ (by show M+1-(d++[q]).length<M+1-d.length;simp only[List.length_append,List.length_cons,List.length_nil];omega)
    · cases hy:cz y with
      | some l'=>
        have:=ic _ _ hy;rw[h1]at this;cases this;obtain⟨q',cj,τ,e0,e1⟩:=BW y l hy h2;exact⟨q',cj,τ,List.mem_append_left _ e0,e1⟩
      | none=>
        obtain⟨τ,e1⟩:=mE y l h1 hy;exact⟨q,ρ,τ,ax,gA,gT,e1⟩
    · rcases List.mem_append.1 dz with dz|dz;· exact(CT (Xh j9.cnt ic fS j2.cnt) q' dz cj e U e1 e2 e3).mono ic
      · rw[List.mem_singleton.1 dz,gA]at e1;cases e1;rw[oy]at e2;cases e2;exact tY fS U e3
end
end
section
open Go Go.RowKit Classical
section
variable {S:fe} {I:ep->Prop} {C:fz} {T:bz} {Ta:Nat->bz} {B:Nat->List Int->bz×bz} {Zo:Nat->Prop} {ck:Option Nat} {loc:Loc} {s:Q7} {D:List Int}
theorem Inv.congrTa {Tb:Nat->bz} (h:Inv S C T Ta B Zo ck loc s)(hg:Tb C.g=Ta C.g)(ha:∀A∈C.als,Tb A.b=Ta A.b):Inv S C T Tb B Zo ck loc s:=by
 refine⟨?_,h.row,h.step,λA U=>by rw[ha A U];exact h.al A U,h.part,h.inj,h.root,h.le⟩;obtain⟨x,a1,a2,a3,a4,a5,a6,a7,a8,n,a9,hY⟩:=h.net;exact⟨x,a1,a2,a3,a4,a5,a6,a7,by rw[hg];exact a8,n,a9,hY⟩
theorem Inv.setNet {Tb:bz} {x:fk} {fm:MS Int Qq} (h:Inv S C T Ta B Zo ck loc s)(hx:s C.g=some (.net x))(hn:fm.keys.Nodup)(hl:∀i,fm.look i=Tb i):Inv S C T (λb=>if b=C.g then Tb else Ta b) B Zo ck loc (cq s C.g (.net {x with facts:=fm})):=by
 have ne:∀b o',s b=some o'->(∀z,o'≠.net z)->cq s C.g (.net {x with facts:=fm}) b=some o':=λb o' hb c1=>by
  rw[QD (λe=>by rw[e,hx]at hb;cases hb;exact c1 _ rfl)];exact hb
 refine⟨?_,?_,?_,?_,?_,h.inj,h.root,h.le⟩
 ·obtain⟨y,U,a2,a3,a4,a5,a6,a7,a8,n,a9,hY⟩:=h.net;rw[hx]at U;cases U;exact⟨_,iN _ _ _,a2,a3,a4,a5,a6,a7,⟨hn,λi=>by rw[hl];show Tb i=(if C.g=C.g then Tb else Ta C.g) i;rw[if_pos rfl]⟩,n,a9,hY⟩
 ·intro r' R' cy;obtain⟨y,U,a2⟩:=h.row r' R' cy;exact⟨y,ne _ _ U (λ_ e=>by cases e),a2⟩
 ·intro r' R' k' dh cy dx xB;have h1:=h.step r' R' k' dh cy dx xB;unfold ia at h1⊢;split at h1;· obtain⟨y,c1,c2⟩:=h1;exact⟨y,ne _ _ c1 (λ_ e=>by cases e),c2⟩
  · obtain⟨y,c1,c2⟩:=h1;exact⟨y,ne _ _ c1 (λ_ e=>by cases e),c2⟩
  · obtain⟨y,c1,c2⟩:=h1;exact⟨y,ne _ _ c1 (λ_ e=>by cases e),c2⟩
 ·intro A hA;obtain⟨y,U,a2⟩:=h.al A hA;refine⟨y,ne _ _ U (λ_ e=>by cases e),?_⟩;show _/\_/\_/\∀i,y.facts.look i=((if A.b=C.g then Tb else Ta A.b) i).filter (hasB A);rw[if_neg (λe=>by rw[e,hx]at U;cases U)];exact a2
 ·intro q r' ρ hl;obtain⟨R',y,U,a2,a3⟩:=h.part q r' ρ hl;exact⟨R',y,U,ne _ _ a2 (λ_ e=>by cases e),a3⟩
theorem Inv.setAlpha {Tb:bz} {A:Hz} {x:LJ} {fm:MS Int Qq} (h:Inv S C T Ta B Zo ck loc s)(hA:A∈C.als)(hx:s A.b=some (.alpha x))(hn:fm.keys.Nodup)(hl:∀i,fm.look i=(Tb i).filter (hasB A)):Inv S C T (λb=>if b=A.b then Tb else Ta b) B Zo ck loc (cq s A.b (.alpha {x with facts:=fm})):=by
 have ne:∀b o',s b=some o'->(∀z,o'≠.alpha z)->cq s A.b (.alpha {x with facts:=fm}) b=some o':=λb o' hb c1=>by
  rw[QD (λe=>by rw[e,hx]at hb;cases hb;exact c1 _ rfl)];exact hb
 refine⟨?_,?_,?_,?_,?_,h.inj,h.root,h.le⟩
 ·obtain⟨y,U,a2,a3,a4,a5,a6,a7,a8,n,a9,hY⟩:=h.net;refine⟨y,ne _ _ U (λ_ e=>by cases e),a2,a3,a4,a5,a6,a7,?_,n,a9,hY⟩;show _/\∀i,y.facts.look i=(if C.g=A.b then Tb else Ta C.g) i;rw[if_neg (λe=>by rw[e,hx]at U;cases U)];exact a8
 ·intro r' R' cy;obtain⟨y,U,a2⟩:=h.row r' R' cy;exact⟨y,ne _ _ U (λ_ e=>by cases e),a2⟩
 ·intro r' R' k' dh cy dx xB;have h1:=h.step r' R' k' dh cy dx xB;unfold ia at h1⊢;split at h1;· obtain⟨y,c1,c2⟩:=h1;exact⟨y,ne _ _ c1 (λ_ e=>by cases e),c2⟩
  · obtain⟨y,c1,c2⟩:=h1;exact⟨y,ne _ _ c1 (λ_ e=>by cases e),c2⟩
  · obtain⟨y,c1,c2⟩:=h1;exact⟨y,ne _ _ c1 (λ_ e=>by cases e),c2⟩
 ·intro A' ux;obtain⟨y,U,a2,a3,a4,a5⟩:=h.al A' ux;obtain⟨x',b1,b2,b3,_⟩:=h.al A hA;rw[hx]at b1;cases b1;by_cases e:A'.b=A.b
  ·rw [e,hx]at U;cases U;refine⟨{x with facts:=fm},(by rw[e,iN]),a2,a3,hn,λi=>?_⟩;show fm.look i=((if A'.b=A.b then Tb else Ta A'.b) i).filter (hasB A');rw[if_pos e,hl]
   have:hasB A'=hasB A:=by
    funext f;unfold hasB;rw[<-a2,<-a3,<-b2,<-b3]
   rw[this]
  ·refine⟨y,(by rw[QD e];exact U),a2,a3,a4,?_⟩;show∀i,y.facts.look i=((if A'.b=A.b then Tb else Ta A'.b) i).filter (hasB A');rw[if_neg e];exact a5
 ·intro q r' ρ hl;obtain⟨R',y,U,a2,a3⟩:=h.part q r' ρ hl;exact⟨R',y,U,ne _ _ a2 (λ_ e=>by cases e),a3⟩
end
end
section
open Go Go.RowKit Classical
section
variable {S:fe} {I:ep->Prop} {C:fz} {T T':bz} {Ta:Nat->bz} {B:Nat->List Int->bz×bz} {Zo:Nat->Prop} {ck:Option Nat} {loc:Loc} {s:Q7} {D:List Int}
def xa (T T':bz):Prop:=∀i f,T i=some f->T' i=some f
theorem Ka {sc:eL} {e U:ep} {i:Int} (hs:xa T T')(h:fU S T sc e i=some U):fU S T' sc e i=some U:=by
 unfold fU at h⊢;split at h
 ·cases hT:T i with
  |none=>rw[hT]at h;cases h
  |some f=>rw[hT]at h;rw[hs i f hT];exact h
 · exact h
 · exact h
theorem rZ (hs:xa T T'):∀{π:List Int} {l:List eL} {e U:ep},fE S T l e π=some U->fE S T' l e π=some U
 |[],l,e,U,h=>by cases l<;>exact h
 |i::π,[],e,U,h=>by cases h
 | i ::π,sc::l,e,U,h=>by
   simp only[fE]at h⊢;cases h1:fU S T sc e i with
   |none=>rw[h1]at h;cases h
   | some e1=>
     rw[h1]at h;rw[Ka hs h1];exact rZ hs h
theorem zp {id:Int} (hd:∀i,i≠id->T' i=T i):∀{π:List Int} {l:List eL} {e:ep},id∉π->fE S T' l e π=fE S T l e π
 |[],l,e,_=>by cases l<;>rfl
 |i::π,[],e,_=>rfl
 | i::π,sc::l,e,h=>by
   have hi:i≠id:=λU=>h (by rw[U];simp);have jb:id∉π:=λU=>h (List.mem_cons_of_mem _ U)
   have h1:fU S T' sc e i=fU S T sc e i:=by
    unfold fU;split;· rw[hd i hi]
    · rfl
    · rfl
   simp only[fE,h1];cases fU S T sc e i with
   |none=>rfl
   |some U=>exact zp hd jb
theorem Inv.congrT (h:Inv S C T Ta B Zo ck loc s)(hT:∀p r π R e,loc p=some (r,π)->C.rows[r]? =some R->fE S T R.steps (R.hs,R.vs) π=some e->fE S T' R.steps (R.hs,R.vs) π=some e):Inv S C T' Ta B Zo ck loc s:=by
 refine⟨h.net,h.row,h.step,h.al,λp r π hp=>?_,h.inj,h.root,h.le⟩;obtain⟨R,x,U,a2,a3⟩:=h.part p r π hp;exact⟨R,x,U,a2,⟨hT p r π R _ hp U a3.env,a3.top,a3.up,a3.kids,a3.blocks,a3.free,a3.kn⟩⟩
theorem Ub {sc:eL} {e U:ep} {i:Int} (cn:wE S I C T sc)(hD:il T D)(hI:I e)(h:fU S T sc e i=some U):I U:=by
 unfold fU at h;cases bw:sc.st with
 | join a=>
   rw[bw]at h;simp only at h;cases hT:T i with
   |none=>rw[hT]at h;cases h
   | some f=>
     rw[hT]at h;obtain⟨_,_,_,h2⟩:=cn.mt (λa' e1=>by rw[bw]at e1;cases e1) B0 (Nat.le_refl _) f (by rw[(hD.mem i f hT).2.1];exact hT) e hI;exact(h2 U h).2
 | nt a=>
   rw[bw]at h;simp only at h;split at h;· cases h;exact hI
   · cases h
 | test a=>
   rw[bw]at h;simp only at h;split at h;· cases h;exact hI
   · cases h
theorem Iz (hD:il T D):∀{π:List Int} {l:List eL} {e U:ep},(∀sc∈l,wE S I C T sc)->I e->fE S T l e π=some U->I U
 | [],l,e,U,_,hI,h=>by
   have:e=U:=by cases l<;>exact Option.some.inj h
   rw[<-this];exact hI
 |i::π,[],e,U,_,_,h=>by cases h
 | i ::π,sc::l,e,U,cn,hI,h=>by
   simp only[fE]at h;cases h1:fU S T sc e i with
   |none=>rw[h1]at h;cases h
   | some e1=>
     rw[h1]at h;exact Iz hD (λdh h'=>cn dh (List.mem_cons_of_mem _ h')) (Ub (cn sc ax) hD hI h1) h
def wu (S:fe)(C:fz)(T:bz)(loc:Loc):Prop:=∀(r:Nat)(R:eO),C.rows[r]? =some R->iH S T loc r [] R.steps (R.hs,R.vs)
theorem LH:∀{π:List Int} {l:List eL} {e U:ep},fI S T l e π=some U->fE S T l e π=some U
 |[],l,e,U,h=>by cases l<;>exact h
 |i::π,[],e,U,h=>by cases h
 | i :: π,sc::l,e,U,h=>by
   simp only[fI]at h;simp only[fE];cases h1:iV S T sc e i with
   |none=>rw[h1]at h;cases h
   | some e1=>
     rw[h1]at h
     have:fU S T sc e i=some e1:=by
      unfold iV at h1;unfold fU;cases bw:sc.st with
      |join a=>rw[bw]at h1;exact h1
      | nt a=>
        rw[bw]at h1;simp only at h1⊢;split at h1;· rename_i hh;rw[if_pos hh.1];exact h1
        · cases h1
      |test a=>rw[bw]at h1;exact h1
     rw[this];exact LH h
theorem OW:∀{π U:List Int} {l:List eL} {e:ep},fI S T l e (π++U)=(fI S T l e π).bind λe'=>fI S T (l.drop π.length) e' U
 |[],U,l,e=>by cases l<;>simp[fI]
 |i::π,U,[],e=>by simp[fI]
 | i::π,U,sc::l,e=>by
   simp only[List.cons_append,fI,List.length_cons,List.drop_succ_cons];cases iV S T sc e i with
   |none=>rfl
   |some e1=>simp only[Option.bind_some];exact OW
end
end
section
open Go Go.RowKit Classical
section
variable {S:fe} {I:ep->Prop} {C:fz} {T T':bz} {Ta:Nat->bz} {B:Nat->List Int->bz×bz} {ck:Option Nat} {loc:Loc} {s:Q7} {D:List Int}
theorem og:∀{π:List Int} {l:List eL} {e U:ep} {k:Nat} {sc:eL} {j:Int},fE S T l e π=some U->l[k]? =some sc->(∀a,sc.st≠.join a)->π[k]? =some j->j=0
 |[],l,e,U,k,sc,j,_,_,_,h=>by simp at h
 |i::π,[],e,U,k,sc,j,h,_,_,_=>by cases h
 | i ::π,dh::l,e,U,0,sc,j,h,hk,hn,hj=>by
   simp only[List.getElem?_cons_zero,Option.some.injEq]at hk hj;subst hk;subst hj;simp only[fE]at h;cases h1:fU S T dh e i with
   |none=>rw[h1]at h;cases h
   | some e1=>
     unfold fU at h1;cases bw:dh.st with
     |join a=>exact absurd bw (hn a)
     | nt a=>
       rw[bw]at h1;simp only at h1;split at h1;· assumption
       · cases h1
     | test a=>
       rw[bw]at h1;simp only at h1;split at h1;· rename_i hh;exact hh.1
       · cases h1
 | i::π,dh::l,e,U,k+1,sc,j,h,hk,hn,hj=>by
   simp only[List.getElem?_cons_succ]at hk hj;simp only[fE]at h;cases h1:fU S T dh e i with
   |none=>rw[h1]at h;cases h
   |some e1=>rw[h1]at h;exact og h hk hn hj
theorem N5 {N M:Nat} {id:Int} {Q:Q7->Prop} (hW:nZ C)(hlen:C.rows.length<=9223372036854775806)(hsl:∀R∈C.rows,R.steps.length<9223372036854775807/\M+R.steps.length+R.steps.length+2<N)(hM:M<4398046511103)(hid:id≠0)
  (h:Inv S C T Ta B (λ_=>False) none loc s) (hc:∀n,gX loc n->n<=M) (hQ:∀bf s',Inv S C T Ta B (λ_=>False) none bf s'->(∀y l,bf y=some l↔loc y=some l/\id∉l.2)->Q s'):E4 (λst σ=>Vg N st id σ) C.g s Q:=by
 obtain⟨n0,Pz⟩:=h.cnt
 have eP:∀y r π,loc y=some (r,π)->∃R,C.rows[r]? =some R/\π.length<=R.steps.length:=λy r π hy=>by
  obtain⟨R,x,a1,_,a3⟩:=h.part y r π hy;exact⟨R,a1,mw a3.env⟩
 refine xo (E:=λr σ=>∃bf,Inv S C T Ta B (λ_=>False) none bf σ/\∀y l,bf y=some l↔loc y=some l/\¬(l.1<r/\id∈l.2)) (J:=λr m σ=>∃bf,Inv S C T Ta B (λ_=>False) none bf σ/\∀y l,bf y=some l↔loc y=some l/\¬((l.1<r/\id∈l.2)\/(l.1=r/\∃k,m<=k/\l.2[k]? =some id))) hlen (λR hR=>by have:=(hsl R hR).1;omega) (λr σ ⟨_,h1,_⟩=>h1.shape) (λr m σ ⟨_,h1,_⟩=>h1.shape) (λr R σ hr ⟨cz,h1,h2⟩=>⟨cz,h1,λy l=>?_⟩) (λr R m sc σ Q' hr ⟨cz,h1,h2⟩ ez Jm=>?_) (λr σ ⟨cz,h1,h2⟩=>⟨cz,h1,λy l=>?_⟩) ⟨loc,h,λy l=>⟨λhy=>⟨hy,λhh=>absurd hh.1 (Nat.not_lt_zero _)⟩,λhy=>hy.1⟩⟩ (λσ ⟨cz,h1,h2⟩=>hQ cz σ h1 λy l=>?_)
 ·rw[h2];constructor
  · rintro⟨e1,e2⟩;refine⟨e1,λU=>?_⟩;rcases U with U|⟨U,k,e4,e5⟩
    · exact e2 U
    ·obtain⟨R',q1,q2⟩:=eP y l.1 l.2 e1;rw[U,hr]at q1;cases q1;have:=(List.getElem?_eq_some_iff.1 e5).1;omega
  · rintro⟨e1,e2⟩;exact⟨e1,λU=>e2 (.inl U)⟩
 ·have ox:=List.mem_of_getElem? hr;obtain⟨Ge,Gf⟩:=hsl R ox
  have sV:(∀a,sc.st≠.join a)->Q' σ:=λhn=>Jm σ ⟨cz,h1,λy l=>by
    rw[h2];constructor
    ·rintro⟨e1,e2⟩;refine⟨e1,λU=>?_⟩;rcases U with U|⟨U,k,e4,e5⟩
     · exact e2 (.inl U)
     ·by_cases hk:k=m
      ·subst hk;obtain⟨R',x,a1,_,a3⟩:=h.part y l.1 l.2 e1;rw[U,hr]at a1;cases a1;exact hid (og a3.env ez hn e5)
      · exact e2 (.inr ⟨U,k,an,e5⟩)
    ·rintro⟨e1,e2⟩;refine⟨e1,λU=>e2 ?_⟩;rcases U with U|⟨U,k,e4,e5⟩
     · exact .inl U
     · exact .inr ⟨U,k,an,e5⟩⟩
  cases bw:sc.st with
  | join a=>
    refine jG (QR ?_);refine Ai hW hr ez bw Ge hM Gf (λ_ _ _ hz=>hz) h1 (λn hn=>Nat.le_trans (hn.mono Pz λy l hy=>((h2 y l).1 hy).1) (hc _ Pz)) λeo s2 j2 xu=>?_;refine Jm s2 ⟨eo,j2,λy l=>?_⟩;rw[xu,h2];constructor
    ·rintro⟨⟨e1,e2⟩,U⟩;refine⟨e1,λe4=>?_⟩;rcases e4 with e4|⟨e4,k,e5,e6⟩
     · exact e2 (.inl e4)
     ·by_cases hk:k=m;· subst hk;exact U ⟨e4,e6⟩
      · exact e2 (.inr ⟨e4,k,an,e6⟩)
    ·rintro⟨e1,e2⟩;refine⟨⟨e1,λU=>e2 ?_⟩,λU=>e2 (.inr ⟨U.1,m,Nat.le_refl _,U.2⟩)⟩;rcases U with U|⟨U,k,e4,e5⟩
     · exact .inl U
     · exact .inr ⟨U,k,an,e5⟩
  |nt a=>exact jH (sV λa' e=>by rw[bw]at e;cases e)
  |test a=>exact jI (sV λa' e=>by rw[bw]at e;cases e)
 ·rw [h2]
  have key:(l.1<r+1/\id∈l.2)↔((l.1<r/\id∈l.2)\/(l.1=r/\∃k,0<=k/\l.2[k]? =some id)):=by
    constructor
    ·rintro⟨e1,e2⟩;by_cases hh:l.1<r;· exact .inl ⟨hh,e2⟩
     ·obtain⟨k,hk⟩:=List.mem_iff_getElem?.1 e2;exact .inr ⟨an,k,Nat.zero_le _,hk⟩
    ·rintro(⟨e1,e2⟩|⟨e1,k,_,e2⟩);· exact⟨an,e2⟩
     · exact⟨an,List.mem_of_getElem? e2⟩
  rw[key]
 ·rw[h2];constructor
  · rintro⟨e1,e2⟩;refine⟨e1,λU=>e2 ⟨?_,U⟩⟩;obtain⟨R,q1,_⟩:=eP y l.1 l.2 e1;exact(List.getElem?_eq_some_iff.1 q1).1
  · rintro⟨e1,e2⟩;exact⟨e1,λU=>e2 U.2⟩
end
end
section
open Go Go.RowKit Classical
section
variable {S:fe} {I:ep->Prop} {C:fz} {T T0:bz} {Ta:Nat->bz} {B:Nat->List Int->bz×bz} {ck:Option Nat} {loc:Loc} {s:Q7} {D:List Int}
def HB (S:fe)(T T0:bz)(id:Int)(R:eO)(π:List Int)(k:Nat):Prop:=k<π.length/\∃sc a e,R.steps[k]? =some sc/\sc.st=.nt a/\fE S T R.steps (R.hs,R.vs) (π.take k)=some e/\jx S sc e T0 id
noncomputable def bE (T T0:bz)(r:Nat):Nat->List Int->bz×bz:=λU _=>if U<r then(T,T)else(T0,T0)
noncomputable def bJ (T T0:bz)(r m:Nat):Nat->List Int->bz×bz:=λU π=>if U<r\/(U=r/\m<=π.length)then(T,T)else(T0,T0)
theorem N6 {N:Nat} {id:Int} {Q:Q7->Prop} (hW:nZ C) (hT:il T D) (hD:D.length<=3518437208882) (hlen:C.rows.length<=9223372036854775806) (hsl:∀R∈C.rows,R.steps.length<9223372036854775807/\B0+D.length+R.steps.length+2<N) (Ys:4099<N) (cn:∀R∈C.rows,∀sc∈R.steps,wE S I C T sc) (hI:∀R∈C.rows,∀π e,fE S T R.steps (R.hs,R.vs) π=some e->I e)
  (hid:T id=none) (Na:∀i,i≠id->T0 i=T i)
  (h:Inv S C T (λ_=>T) (λ_ _=>(T0,T0)) (λ_=>False) none loc s) (hP:∀(r:Nat) (R:eO) (π:List Int),C.rows[r]? =some R->fI S T R.steps (R.hs,R.vs) π≠none->(∀k,¬HB S T T0 id R π k)->∃y,loc y=some (r,π))
  (hQ:∀bf s',Inv S C T (λ_=>T) (λ_ _=>(T,T)) (λ_=>False) none bf s'->ke loc bf->(pX bf->wu S C T bf)->Q s'):E4 (λst σ=>Vh N st id σ) C.g s Q:=by
 have bp:∀(B:Nat->List Int->bz×bz) (bf:Loc) (σ:Q7),Inv S C T (λ_=>T) B (λ_=>False) none bf σ->∀y r π,bf y=some (r,π)->r<C.rows.length:=λB bf σ h' y r π hy=>by
  obtain⟨R,x,a1,_⟩:=h'.part y r π hy;exact(List.getElem?_eq_some_iff.1 a1).1
 refine xo (E:=λr σ=>∃bf,Inv S C T (λ_=>T) (bE T T0 r) (λ_=>False) none bf σ/\ke loc bf/\(pX bf->∀(U:Nat) (R:eO),U<r->C.rows[U]? =some R->iH S T bf U [] R.steps (R.hs,R.vs)))
  (J:=λr m σ=>∃bf,Inv S C T (λ_=>T) (bJ T T0 r m) (λ_=>False) none bf σ/\ke loc bf/\(pX bf->(∀(U:Nat) (R:eO),U<r->C.rows[U]? =some R->iH S T bf U [] R.steps (R.hs,R.vs))/\∀(R:eO) (π:List Int),C.rows[r]? =some R->fI S T R.steps (R.hs,R.vs) π≠none->(∀k,k<m->¬HB S T T0 id R π k)->∃y,bf y=some (r,π)))
  hlen (λR hR=>by have:=(hsl R hR).1;omega) (λr σ ⟨_,h1,_⟩=>h1.shape) (λr m σ ⟨_,h1,_⟩=>h1.shape) (λr R σ hr ⟨cz,h1,h2,h3⟩=>⟨cz,?_,h2,λfS=>⟨h3 fS,λR' π cy hi hb=>?_⟩⟩) (λr R m sc σ Q' hr ⟨cz,h1,h2,h3⟩ ez Jm=>?_) (λr σ ⟨cz,h1,h2,h3⟩=>⟨cz,h1.congrB (λp U π hp=>?_),h2,λfS U R cy hR=>?_⟩) ⟨loc,h.congrB (λp U π _=>if_neg (Nat.not_lt_zero _)),ke.refl _,λ_ U R cy=>absurd cy (Nat.not_lt_zero _)⟩ (λσ ⟨cz,h1,h2,h3⟩=>hQ cz σ (h1.congrB λp U π hp=>(if_pos (bp _ _ _ h1 p U π hp)).symm) h2 λfS U R hR=>h3 fS U R (List.getElem?_eq_some_iff.1 hR).1 hR)
 ·
  refine h1.congrK λp U π R' x sc a hp cy hx he q1 q2 i=>?_;unfold bJ bE;by_cases hh:U<r;· rw[if_pos (.inl hh),if_pos hh];exact⟨Iff.rfl,λh=>h⟩
  ·rw[if_neg hh,if_neg];· exact⟨Iff.rfl,λh=>h⟩
   · rintro(e|⟨e1,e2⟩);· exact hh e
     ·rw[e1,hr]at cy;cases cy;have:=(List.getElem?_eq_some_iff.1 q1).1;omega
 ·rw [hr]at cy;cases cy
  obtain ⟨y,hy⟩:=hP r R π hr hi λk hk=>by
   obtain⟨e1,sc,a,e,e2,_⟩:=hk;exact hb k (List.getElem?_eq_some_iff.1 e2).1 ⟨e1,sc,a,e,e2,by assumption⟩
  exact⟨y,h2 _ _ hy⟩
 ·
  have ox:=List.mem_of_getElem? hr;obtain⟨Ge,Gf⟩:=hsl R ox;have As:(∀a,sc.st≠.nt a)->Q' σ:=λhn=>Jm σ ⟨cz,h1.congrK λp U π R' x dh a hp cy hx he q1 q2 i=>?_,h2,λfS=>⟨(h3 fS).1,λR' π cy hi hb=>(h3 fS).2 R' π cy hi λk hk LU=>?_⟩⟩
  ·cases bw:sc.st with
   |join a=>exact jG (QR (As λa' e=>by rw[bw]at e;cases e))
   |test a=>exact jI (QR (As λa' e=>by rw[bw]at e;cases e))
   | nt a =>
     refine jH (QR ?_);refine Dg (I:=I) (M:=4097) hW hT hD hr ez bw Ge (cn R ox) (hI R ox) Gf an (λ_ _ _ hz=>hz) hid Na (λπ jb=>?_) (λπ jb=>?_) h1 h1.le λeo s2 j2 ic mE tY=>?_
     ·unfold bJ;rw[if_neg];rintro(e|⟨_,e⟩);· exact Nat.lt_irrefl _ e
      · omega
     ·unfold bJ;exact if_pos (.inr ⟨rfl,an⟩)
     ·refine Jm s2 ⟨eo,j2.congrB (λp U π hp=>?_),h2.trans ic,λfS=>?_⟩
      ·unfold nb bJ;by_cases hh:U=r/\π.length=m;· rw[if_pos hh,if_pos (.inr ⟨hh.1,an⟩)]
       ·rw [if_neg hh];by_cases h5:U<r\/(U=r/\m+1<=π.length)
        · rw[if_pos h5,if_pos];rcases h5 with e|⟨e1,e2⟩
          · exact .inl e
          · exact .inr ⟨e1,an⟩
        · rw[if_neg h5,if_neg];rintro(e|⟨e1,e2⟩);· exact h5 (.inl e)
          ·by_cases h6:π.length=m;· exact hh ⟨e1,h6⟩
           · exact h5 (.inr ⟨e1,an⟩)
      ·have TJ:=Xh h1.cnt ic fS j2.cnt;obtain⟨h4,h5⟩:=h3 TJ;refine⟨λU R' cy N9=>(h4 U R' cy N9).mono ic,λR' π cy hi hb=>?_⟩;rw[hr]at cy;cases cy;by_cases Hk:HB S T T0 id R π m
       ·obtain⟨e1,dh,a',e,e2,e3,e4,e5⟩:=Hk;rw[ez]at e2;cases e2;have sJ:π=π.take m++π.drop m:=(List.take_append_drop m π).symm;have JC:(π.take m).length=m:=by simp;omega
        have gG:fI S T R.steps (R.hs,R.vs) (π.take m++π.drop m)≠none:=by rw[<-sJ];exact hi
        rw[OW]at gG;cases ft:fI S T R.steps (R.hs,R.vs) (π.take m)with
        |none=>rw[ft]at gG;exact absurd rfl gG
        | some e'=>
          rw[ft,Option.bind_some,JC]at gG;have YD:e'=e:=by have:=LH ft;rw[e4]at this;exact(Option.some.inj this).symm
          subst YD
          obtain ⟨q,hq⟩:=h5 R (π.take m) hr (by rw[ft];simp) λk hk LU=>by
           obtain⟨f1,sc2,a2,ee,f2,f3,f4,f5⟩:=LU;have hkm:k<m:=by rw[JC]at f1;exact f1
           refine hb k hkm ⟨an,sc2,a2,ee,f2,f3,?_,f5⟩;rw[List.take_take,Nat.min_eq_left an]at f4;exact f4
          obtain⟨y,hy⟩:=tY fS q (π.take m) e' hq JC e4 e5 (π.drop m) gG;exact⟨y,by rw[hy,<-sJ]⟩
       ·obtain⟨y,hy⟩:=h5 R π hr hi λk hk=>by
          by_cases h6:k=m;· rw[h6];exact Hk
          · exact hb k an
        exact⟨y,ic _ _ hy⟩
  ·unfold bJ;by_cases h5:U<r\/(U=r/\m+1<=π.length)
   · rw[if_pos h5,if_pos];· exact⟨Iff.rfl,λh=>h⟩
     ·rcases h5 with e|⟨e1,e2⟩
      · exact .inl e
      · exact .inr ⟨e1,an⟩
   · by_cases h6:U=r/\π.length=m
     ·obtain⟨rfl,h6⟩:=h6;rw[hr]at cy;cases cy;rw[h6,ez]at q1;cases q1;exact absurd q2 (hn a)
     ·rw [if_neg h5,if_neg];· exact⟨Iff.rfl,λh=>h⟩
      ·rintro(e|⟨e1,e2⟩);· exact h5 (.inl e)
       ·by_cases h7:π.length=m;· exact h6 ⟨e1,h7⟩
        · exact h5 (.inr ⟨e1,an⟩)
  ·rw[hr]at cy;cases cy;by_cases h6:k=m
   · subst h6;obtain⟨_,sc2,a2,_,f2,f3,_⟩:=LU;rw[ez]at f2;cases f2;exact hn a2 f3
   · exact hb k an LU
 ·unfold bJ bE;by_cases hh:U<r+1
  ·rw[if_pos hh,if_pos];by_cases h5:U<r;· exact .inl h5
   · exact .inr ⟨an,Nat.zero_le _⟩
  ·rw[if_neg hh,if_neg];rintro(e|⟨e,_⟩)<;>omega
 ·obtain ⟨h4,h5⟩:=h3 fS;by_cases hh:U<r;· exact h4 U R hh hR
  ·have:U=r:=an
   subst this;intro τ fT;obtain⟨y,hy⟩:=h5 R τ hR fT λk hk=>absurd hk (Nat.not_lt_zero _)
   exact⟨y,by simpa using hy⟩
end
end
section
open Go Go.RowKit Classical
section
variable {S:fe} {I:ep->Prop} {C:fz} {T T0:bz} {Ta:Nat->bz} {B:Nat->List Int->bz×bz} {ck:Option Nat} {loc:Loc} {s:Q7} {D:List Int}
def Fq (S:fe)(T:bz)(f:Qq)(R:eO)(π:List Int)(k:Nat):Prop:=k<π.length/\∃sc a e,R.steps[k]? =some sc/\sc.st=.nt a/\fE S T R.steps (R.hs,R.vs) (π.take k)=some e/\(S.mt sc.c e.1 e.2 f).isSome=true
theorem ML {N:Nat} {f:Qq} {Q:Q7->Prop} (hW:nZ C) (hlen:C.rows.length<=9223372036854775806) (hsl:∀R∈C.rows,R.steps.length<9223372036854775807/\4097+R.steps.length+R.steps.length+2<N) (hN0:B0<=N) (cn:∀R∈C.rows,∀sc∈R.steps,wE S I C T sc) (hI:∀R∈C.rows,∀π e,fE S T R.steps (R.hs,R.vs) π=some e->I e)
  (hA:∀A∈C.als,A.args.length<N/\A.args.length<9223372036854775807/\(f.ty=A.kind->∀(j:Nat) (a:fl),A.args[j]? =some a->∃v,f.args[j]? =some v)) (hf:T f.id=some f) (LY:T0 f.id=none) (Na:∀i,i≠f.id->T0 i=T i)
  (h:Inv S C T Ta (λ_ _=>(T0,T0)) (λ_=>False) none loc s)
  (hQ:∀bf s',Inv S C T Ta (λ_ _=>(T,T)) (λ_=>False) none bf s'->(∀y r π,bf y=some (r,π)↔loc y=some (r,π)/\¬∃R k,C.rows[r]? =some R/\Fq S T f R π k)->Q s'):E4 (λst σ=>Ve N st f.id f.ty f.args σ) C.g s Q:=by
 have bp:∀(B:Nat->List Int->bz×bz) (bf:Loc) (σ:Q7),Inv S C T Ta B (λ_=>False) none bf σ->∀y r π,bf y=some (r,π)->r<C.rows.length:=λB bf σ h' y r π hy=>by
  obtain⟨R,x,a1,_⟩:=h'.part y r π hy;exact(List.getElem?_eq_some_iff.1 a1).1
 refine xo (E:=λr σ=>∃bf,Inv S C T Ta (bE T T0 r) (λ_=>False) none bf σ/\∀y U π,bf y=some (U,π)↔loc y=some (U,π)/\¬(U<r/\∃R k,C.rows[U]? =some R/\Fq S T f R π k))
  (J:=λr m σ=>∃bf,Inv S C T Ta (bJ T T0 r m) (λ_=>False) none bf σ/\∀y U π,bf y=some (U,π)↔loc y=some (U,π)/\¬∃R k,C.rows[U]? =some R/\Fq S T f R π k/\(U<r\/(U=r/\m<=k)))
  hlen (λR hR=>by have:=(hsl R hR).1;omega) (λr σ ⟨_,h1,_⟩=>h1.shape) (λr m σ ⟨_,h1,_⟩=>h1.shape) (λr R σ hr ⟨cz,h1,h2⟩=>⟨cz,?_,λy U π=>?_⟩) (λr R m sc σ Q' hr ⟨cz,h1,h2⟩ ez Jm=>?_) (λr σ ⟨cz,h1,h2⟩=>⟨cz,h1.congrB (λp U π hp=>?_),λy U π=>?_⟩) ⟨loc,h.congrB (λp U π _=>if_neg (Nat.not_lt_zero _)),λy U π=>⟨λhy=>⟨hy,λhh=>absurd hh.1 (Nat.not_lt_zero _)⟩,λhy=>hy.1⟩⟩ (λσ ⟨cz,h1,h2⟩=>hQ cz σ (h1.congrB λp U π hp=>(if_pos (bp _ _ _ h1 p U π hp)).symm) λy U π=>?_)
 ·refine h1.congrK λp U π R' x sc a hp cy hx he q1 q2 i=>?_;unfold bJ bE;by_cases hh:U<r;· rw[if_pos (.inl hh),if_pos hh];exact⟨Iff.rfl,λh=>h⟩
  ·rw[if_neg hh,if_neg];· exact⟨Iff.rfl,λh=>h⟩
   · rintro(e|⟨e1,e2⟩);· exact hh e
     ·rw[e1,hr]at cy;cases cy;have:=(List.getElem?_eq_some_iff.1 q1).1;omega
 ·rw [h2];constructor
  ·rintro⟨e1,e2⟩;refine⟨e1,λ⟨R',k,e3,e4,e5⟩=>?_⟩;rcases e5 with e5|⟨e5,e6⟩
   · exact e2 ⟨e5,R',k,e3,e4⟩
   · rw[e5,hr]at e3;cases e3;obtain⟨_,sc,a,e,e7,_⟩:=e4;have:=(List.getElem?_eq_some_iff.1 e7).1;omega
  ·rintro⟨e1,e2⟩;exact⟨e1,λ⟨e3,R',k,e4,e5⟩=>e2 ⟨R',k,e4,e5,.inl e3⟩⟩
 ·have ox:=List.mem_of_getElem? hr;obtain⟨Ge,Gf⟩:=hsl R ox;have As:(∀a,sc.st≠.nt a)->Q' σ:=λhn=>Jm σ ⟨cz,h1.congrK λp U π R' x dh a hp cy hx he q1 q2 i=>?_,λy U π=>?_⟩
  ·cases bw:sc.st with
   |join a=>exact jG (QR (As λa' e=>by rw[bw]at e;cases e))
   |test a=>exact jI (QR (As λa' e=>by rw[bw]at e;cases e))
   | nt a =>
     refine jH (QR ?_);refine Av (I:=I) (M:=4097) hW hr ez bw Ge (cn R ox sc (List.mem_of_getElem? ez)) (hI R ox) hN0 an Gf hA (λ_ _ _ hz=>hz) hf LY Na (λπ jb=>?_) h1 h1.le λeo s2 j2 xu=>?_
     ·unfold bJ;rw[if_neg];rintro(e|⟨_,e⟩);· exact Nat.lt_irrefl _ e
      · omega
     ·refine Jm s2 ⟨eo,j2.congrB (λp U π hp=>?_),λy U π=>?_⟩
      ·unfold nb bJ;by_cases hh:U=r/\π.length=m;· rw[if_pos hh,if_pos (.inr ⟨hh.1,an⟩)]
       ·rw [if_neg hh];by_cases h5:U<r\/(U=r/\m+1<=π.length)
        ·rw[if_pos h5,if_pos];rcases h5 with e|⟨e1,e2⟩
         · exact .inl e
         · exact .inr ⟨e1,an⟩
        ·rw [if_neg h5,if_neg];rintro(e|⟨e1,e2⟩);· exact h5 (.inl e)
         ·by_cases h6:π.length=m;· exact hh ⟨e1,h6⟩
          · exact h5 (.inr ⟨e1,an⟩)
      ·rw [xu,h2];constructor
       ·rintro⟨⟨e1,e2⟩,e3⟩;refine⟨e1,λ⟨R',k,e4,e5,e6⟩=>?_⟩;by_cases hk:U=r/\k=m
        ·obtain⟨rfl,rfl⟩:=hk;rw[hr]at e4;cases e4;obtain⟨f1,sc2,a2,e,f2,f3,f4,f5⟩:=e5;rw[ez]at f2;cases f2;have Wa:cz y=some (U,π.take k++π.drop k):=by rw[List.take_append_drop];exact(h2 y U π).2 ⟨e1,e2⟩
         obtain⟨q,hq⟩:=h1.pre _ _ y rfl Wa;refine e3 ⟨q,π.take k,e,hq,by simp;omega,f4,f5,π.drop k,λe0=>?_,by rw[List.take_append_drop]⟩;have:=congrArg List.length e0;simp at this;omega
        ·refine e2 ⟨R',k,e4,e5,?_⟩;rcases e6 with e6|⟨e6,e7⟩
         · exact .inl e6
         ·refine .inr ⟨e6,?_⟩;have:k≠m:=λe=>hk ⟨e6,e⟩;omega
       ·rintro⟨e1,e2⟩;refine⟨⟨e1,λ⟨R',k,e4,e5,e6⟩=>e2 ⟨R',k,e4,e5,?_⟩⟩,λ⟨q,ρ,e,f1,f2,f3,f4,τ,f5,f6⟩=>?_⟩
        ·rcases e6 with e6|⟨e6,e7⟩
         · exact .inl e6
         · exact .inr ⟨e6,an⟩
        ·simp only[Prod.mk.injEq]at f6;obtain⟨rfl,rfl⟩:=f6;have:=List.length_pos_iff.2 f5;refine e2 ⟨R,m,hr,⟨by rw[List.length_append];omega,sc,a,e,ez,bw,?_,f4⟩,.inr ⟨rfl,Nat.le_refl _⟩⟩;rw[List.take_append_of_le_length an,List.take_of_length_le an];exact f3
  ·unfold bJ;by_cases h5:U<r\/(U=r/\m+1<=π.length)
   · rw[if_pos h5,if_pos];· exact⟨Iff.rfl,λh=>h⟩
     ·rcases h5 with e|⟨e1,e2⟩
      · exact .inl e
      · exact .inr ⟨e1,an⟩
   · by_cases h6:U=r/\π.length=m
     ·obtain⟨rfl,h6⟩:=h6;rw[hr]at cy;cases cy;rw[h6,ez]at q1;cases q1;exact absurd q2 (hn a)
     ·rw [if_neg h5,if_neg];· exact⟨Iff.rfl,λh=>h⟩
      ·rintro(e|⟨e1,e2⟩);· exact h5 (.inl e)
       ·by_cases h7:π.length=m;· exact h6 ⟨e1,h7⟩
        · exact h5 (.inr ⟨e1,an⟩)
  ·rw [h2];constructor
   · rintro⟨e1,e2⟩;refine⟨e1,λ⟨R',k,e4,e5,e6⟩=>e2 ⟨R',k,e4,e5,?_⟩⟩;rcases e6 with e6|⟨e6,e7⟩
     · exact .inl e6
     ·refine .inr ⟨e6,?_⟩;by_cases h6:k=m
      ·subst h6;rw[e6,hr]at e4;cases e4;obtain⟨_,sc2,a2,_,f2,f3,_⟩:=e5;rw[ez]at f2;cases f2;exact absurd f3 (hn a2)
      · omega
   · rintro⟨e1,e2⟩;refine⟨e1,λ⟨R',k,e4,e5,e6⟩=>e2 ⟨R',k,e4,e5,?_⟩⟩;rcases e6 with e6|⟨e6,e7⟩
     · exact .inl e6
     · exact .inr ⟨e6,an⟩
 ·unfold bJ bE;by_cases hh:U<r+1
  ·rw[if_pos hh,if_pos];by_cases h5:U<r;· exact .inl h5
   · exact .inr ⟨an,Nat.zero_le _⟩
  ·rw[if_neg hh,if_neg];rintro(e|⟨e,_⟩)<;>omega
 ·rw [h2];constructor
  ·rintro⟨e1,e2⟩;refine⟨e1,λ⟨e3,R',k,e4,e5⟩=>e2 ⟨R',k,e4,e5,?_⟩⟩;by_cases hh:U<r;· exact .inl hh
   · exact .inr ⟨an,Nat.zero_le _⟩
  ·rintro⟨e1,e2⟩;refine⟨e1,λ⟨R',k,e4,e5,e6⟩=>e2 ⟨?_,R',k,e4,e5⟩⟩;rcases e6 with e6|⟨e6,_⟩<;>omega
 ·rw[h2];constructor
  ·rintro⟨e1,e2⟩;exact⟨e1,λ⟨R',k,e4,e5⟩=>e2 ⟨(List.getElem?_eq_some_iff.1 e4).1,R',k,e4,e5⟩⟩
  ·rintro⟨e1,e2⟩;exact⟨e1,λ⟨_,R',k,e4,e5⟩=>e2 ⟨R',k,e4,e5⟩⟩
end
end
end Go.Proofs.YtocfkfhdcnjklaaGreatDoor
