import Derived.Test.YtocfkfhdcnjklaaGreatDoorYM
namespace Go.Proofs.YtocfkfhdcnjklaaGreatDoor
section
open Go Go.RowKit Classical
theorem hY.mono' {loc U:Loc} {n n':Nat} (h:hY loc n)(h':hY U n')(he:∀y l,loc y=some l->U y=some l):n<=n':=h.mono h' he
def Ic (loc:Loc)(p:Nat):Loc:=λb=>if b=p then none else loc b
theorem ur {loc:Loc} {p y:Nat} {l:Nat×List Int}:Ic loc p y=some l↔y≠p/\loc y=some l:=by
 unfold Ic;by_cases h:y=p<;>simp[h]
theorem hY.del {loc:Loc} {n p r:Nat} {π:List Int} (h:hY loc n)(hp:loc p=some (r,π))(je:π≠[]):∃m,n=m+1/\hY (Ic loc p) m:=by
 obtain⟨L,a1,a2,rfl⟩:=h;have hm:p∈L:=(a2 p).2 ⟨r,π,hp,je⟩;refine⟨L.length-1,?_,L.erase p,a1.erase p,λq=>?_,List.length_erase_of_mem hm⟩;· have:=List.length_pos_of_mem hm;omega
 ·rw[List.Nodup.mem_erase_iff a1,a2];constructor;· rintro⟨h1,r',fg,U,h3⟩;exact⟨r',fg,ur.2 ⟨h1,U⟩,h3⟩
  · rintro⟨r',fg,U,h3⟩;exact⟨(ur.1 U).1,r',fg,(ur.1 U).2,h3⟩
section
variable {S:fh} {I:ew->Prop} {C:fC} {T:bx} {Ta:Nat->bx} {B:Nat->List Int->bx×bx} {Zo:Nat->Prop} {cj:Option Nat} {loc:Loc} {s:Q8} {D:List Int}
theorem LK.del {r k p:Nat} {m:MS Nat Bool} (h:LK none loc r k m):LK none (Ic loc p) r k (m.del p):=λy=>by
 rw[MS.keys_del,h y];constructor;· rintro⟨h1,⟨π,U,h3⟩,h4⟩;exact⟨⟨π,ur.2 ⟨h1,U⟩,h3⟩,h4⟩
 · rintro⟨⟨π,U,h3⟩,h4⟩;exact⟨(ur.1 U).1,⟨π,(ur.1 U).2,h3⟩,h4⟩
theorem LK.del' {r r' k p:Nat} {π:List Int} {m:MS Nat Bool} (h:LK none loc r' k m)(hp:loc p=some (r,π))(db:r'=r->π.length≠k):LK none (Ic loc p) r' k m/\p∉m.keys:=by
 have NO:p∉m.keys:=λhm=>by
  obtain⟨⟨ρ,h1,U⟩,_⟩:=(h p).1 hm;rw[hp]at h1;cases h1;exact db rfl U
 refine⟨λy=>?_,NO⟩;rw[h y];constructor
 ·rintro⟨⟨ρ,U,h3⟩,h4⟩;refine⟨⟨ρ,ur.2 ⟨λe=>?_,U⟩,h3⟩,h4⟩;subst e;exact NO ((h y).2 ⟨⟨ρ,U,h3⟩,h4⟩)
 · rintro⟨⟨ρ,U,h3⟩,h4⟩;exact⟨⟨ρ,(ur.1 U).2,h3⟩,h4⟩
theorem Inv.kill (hW:oi C) {s6:Q8} {p q r:Nat} {ρ:List Int} {i:Int} {R:eQ} {xn:fo} {xq:ir} {y:mi} (h:Inv S C T Ta B Zo none loc s)(hr:C.rows[r]? =some R)(hp:loc p=some (r,ρ++[i]))(hq:loc q=some (r,ρ))(mJ:∀z j,loc z≠some (r,ρ++[i]++[j]))
  (hn:s C.g=some (.net xn)) (hxq:s q=some (.part xq)) (hy:s R.b=some (.row y))
  (gn:s6 C.g=some (.net {xn with parts:=xn.parts-1})) (gq:s6 q=some (.part {xq with kids:=xq.kids.del p})) (gr:s6 R.b=some (.row {y with whole:=y.whole.del p}))
  (gs:∀sc,R.steps[(ρ++[i]).length]? =some sc->¬Zo sc.st.adr->im none (Ic loc p) r R (ρ++[i]).length sc (s6 sc.st.adr))
  (go:∀b,b≠C.g->b≠q->b≠R.b->(∀sc,R.steps[(ρ++[i]).length]? =some sc->b=sc.st.adr->(∀x,s b≠some (.join x))/\(∀x,s b≠some (.nt x))/\(∀x,s b≠some (.test x)))->s6 b=s b):
  Inv S C T Ta B Zo none (Ic loc p) s6:=by
 have Zm:q≠p:=λe=>by
  rw[e,hp]at hq;simp only[Option.some.injEq,Prod.mk.injEq,true_and]at hq;have:=congrArg List.length hq;simp at this
 have keep:∀b o,s b=some o->b≠C.g->b≠q->b≠R.b->(∀x,o≠.join x)->(∀x,o≠.nt x)->(∀x,o≠.test x)->s6 b=some o:=λb o hb c1 c2 c3 c4 c5 c6=>by
  rw[go b c1 c2 c3 λsc _ _=>⟨λx e=>by rw[hb]at e;cases e;exact c4 _ rfl,λx e=>by rw[hb]at e;cases e;exact c5 _ rfl,λx e=>by rw[hb]at e;cases e;exact c6 _ rfl⟩];exact hb
 refine⟨?_,?_,?_,?_,?_,?_,?_,?_⟩
 ·obtain⟨x,a1,a2,a3,a4,a5,a6,a7,a8,n,a9,ig⟩:=h.net;rw[hn]at a1;cases a1;obtain⟨m,rfl,hm⟩:=ig.del hp ax;exact⟨_,gn,a2,a3,a4,a5,a6,a7,a8,m,by simp[a9],hm⟩
 ·intro r' R' cy;obtain⟨x,a1,a2,a3,a4,a5,a6⟩:=h.row r' R' cy;by_cases e:R'.b=R.b
  ·obtain rfl:=hW.rows _ _ _ _ cy hr e;rw[hr]at cy;cases cy;rw[hy]at a1;cases a1;exact⟨_,gr,a2,a3,a4,a5,a6.del⟩
  ·refine⟨x,keep _ _ a1 (λU=>by rw[U,hn]at a1;cases a1) (λU=>by rw[U,hxq]at a1;cases a1) e (λ_ e=>by cases e) (λ_ e=>by cases e) (λ_ e=>by cases e),a2,a3,a4,a5,(a6.del' hp λU=>?_).1⟩;subst U;rw[hr]at cy;cases cy;exact absurd rfl e
 ·intro r' R' k' df cy dy xW;have h1:=h.step r' R' k' df cy dy xW;by_cases e:r'=r/\(ρ++[i]).length=k'
  ·obtain⟨rfl,rfl⟩:=e;rw[hr]at cy;cases cy;exact gs df dy xW
  ·have db:r'=r->(ρ++[i]).length≠k':=λU e2=>e ⟨U,e2⟩
   have iB:(∃o,s df.st.adr=some o/\(∀x,o≠.net x)/\(∀x,o≠.part x)/\∀x,o≠.row x)->s6 df.st.adr=s df.st.adr:=λ⟨o,ho,c1,c2,c3⟩=>
    go _ (λU=>by rw[U,hn]at ho;cases ho;exact c1 _ rfl) (λU=>by rw[U,hxq]at ho;cases ho;exact c2 _ rfl) (λU=>by rw[U,hy]at ho;cases ho;exact c3 _ rfl) λsc eE hb=>by
     obtain⟨U,e2⟩:=hW.steps _ _ _ _ _ _ _ _ cy hr dy eE hb;exact absurd ⟨U,e2.symm⟩ e
   unfold im at h1⊢;split at h1
   ·obtain⟨x,c1,c2,c3,c4,c5,c6⟩:=h1;exact⟨x,(by rw[iB ⟨_,c1,(λ_ e=>by cases e),(λ_ e=>by cases e),λ_ e=>by cases e⟩];exact c1),c2,c3,c4,c5,(c6.del' hp db).1⟩
   ·obtain⟨x,c1,c2,c3,c4,c5,c6⟩:=h1;exact⟨x,(by rw[iB ⟨_,c1,(λ_ e=>by cases e),(λ_ e=>by cases e),λ_ e=>by cases e⟩];exact c1),c2,c3,c4,c5,(c6.del' hp db).1⟩
   ·obtain⟨x,c1,c2⟩:=h1;exact⟨x,(by rw[iB ⟨_,c1,(λ_ e=>by cases e),(λ_ e=>by cases e),λ_ e=>by cases e⟩];exact c1),c2⟩
 ·intro A hA;obtain⟨x,a1,a2⟩:=h.al A hA;exact⟨x,keep _ _ a1 (λU=>by rw[U,hn]at a1;cases a1) (λU=>by rw[U,hxq]at a1;cases a1) (λU=>by rw[U,hy]at a1;cases a1) (λ_ e=>by cases e) (λ_ e=>by cases e) (λ_ e=>by cases e),a2⟩
 ·intro z r' fg hl;obtain⟨hzp,qX⟩:=ur.1 hl;obtain⟨R',x,a1,a2,a3⟩:=h.part z r' fg qX
  have Zy:∀ca j,fg=ca++[j]->x.id=j/\∃q2,x.up=some q2/\Ic loc p q2=some (r',ca):=λca j e=>by
   obtain⟨d1,q2,d2,d3⟩:=a3.up ca j e;refine⟨d1,q2,d2,ur.2 ⟨λU=>?_,d3⟩⟩;subst U;rw[hp]at d3;simp only[Option.some.injEq,Prod.mk.injEq]at d3;obtain⟨rfl,rfl⟩:=d3;rw[e]at qX;exact mJ _ _ qX
  have fJ:∀sc a,R'.steps[fg.length]? =some sc->sc.st=.nt a->(∃w j,Ic loc p w=some (r',fg++[j]))->∀j,¬jG S sc (x.has,x.vals) (B r' fg).2 j:=λsc a U e2 ⟨w,j,hw⟩=>a3.free sc a U e2 ⟨w,j,(ur.1 hw).2⟩;by_cases hzq:z=q
  ·subst hzq;rw[hq]at qX;cases qX;rw[hr]at a1;cases a1;rw[hxq]at a2;cases a2;refine⟨R,_,hr,gq,⟨a3.env,a3.top,Zy,λw=>?_,a3.blocks,fJ,MS.nodup_del a3.kn⟩⟩;show w∈(xq.kids.del p).keys↔_;rw[MS.keys_del,a3.kids];constructor;· rintro⟨h1,j,h2⟩;exact⟨j,ur.2 ⟨h1,h2⟩⟩
   · rintro⟨j,h2⟩;exact⟨(ur.1 h2).1,j,(ur.1 h2).2⟩
  ·refine⟨R',x,a1,keep _ _ a2 (λU=>by rw[U,hn]at a2;cases a2) hzq (λU=>by rw[U,hy]at a2;cases a2) (λ_ e=>by cases e) (λ_ e=>by cases e) (λ_ e=>by cases e),⟨a3.env,a3.top,Zy,λw=>?_,a3.blocks,fJ,a3.kn⟩⟩;rw[a3.kids];constructor
   ·rintro⟨j,h2⟩;refine⟨j,ur.2 ⟨λU=>?_,h2⟩⟩;subst U;rw[hp]at h2;simp only[Option.some.injEq,Prod.mk.injEq]at h2;obtain⟨rfl,e2⟩:=h2;obtain⟨rfl,_⟩:=W7 e2;exact hzq (h.inj _ _ _ qX hq)
   · rintro⟨j,h2⟩;exact⟨j,(ur.1 h2).2⟩
 ·intro a b l ha hb;exact h.inj _ _ _ (ur.1 ha).2 (ur.1 hb).2
 ·intro r' R' cy;refine ur.2 ⟨λe=>?_,h.root r' R' cy⟩;have:=h.root r' R' cy;rw[e,hp]at this;simp at this
 ·intro n' ET;obtain⟨_,_,_,_,_,_,_,_,_,n,_,ig⟩:=h.net;exact Nat.le_trans (ET.mono' ig λy l hy=>(ur.1 hy).2) (h.le n ig)
end
end
section
open Go Go.RowKit Classical
def WG (loc bg:Loc)(r:Nat)(π:List Int):Prop:=∀y l,bg y=some l↔loc y=some l/\¬∃U,U≠[]/\l=(r,π++U)
def Ik (loc U:Loc)(r:Nat)(π:List Int):Prop:=∀y l,U y=some l↔loc y=some l/\¬∃τ,l=(r,π++τ)
def Frame (s s':Q8)(R:eQ)(n:Nat):Prop:=∀(k:Nat)(sc:eM),k<n->R.steps[k]? =some sc->s' sc.st.adr=s sc.st.adr
theorem tW {s:Q8} {a:Nat} {o:PO} (h:s a=some o):cq s a o=s:=by
 funext c;unfold cq;split;· rename_i e;rw[e,h]
 · rfl
section
variable {S:fh} {I:ew->Prop} {C:fC} {T:bx} {Ta:Nat->bx} {B:Nat->List Int->bx×bx} {Zo:Nat->Prop} {cj:Option Nat} {loc:Loc} {s:Q8} {D:List Int}
theorem zR {N a p:Nat} {x:va} {Q:Q8->Prop} (h:s a=some (.join x))(hk:∀y,y=p\/y∈x.parts.keys->s y≠none)(U:Q (cq s a (.join {x with parts:=x.parts.del p}))):X7 N a p s Q:=
 Qi (RZ h) (fQ hk (lV U))
theorem zS {N a p:Nat} {x:va} {Q:Q8->Prop} (h:s a=some (.nt x))(hk:∀y,y=p\/y∈x.parts.keys->s y≠none)(U:Q (cq s a (.nt {x with parts:=x.parts.del p}))):WU N a p s Q:=
 Qi (LZ h) (fQ hk (lV U))
theorem Jo {N a p:Nat} {x:kC} {Q:Q8->Prop} (h:s a=some (.test x))(hk:∀y,y=p\/y∈x.parts.keys->s y≠none)(U:Q (cq s a (.test {x with parts:=x.parts.del p}))):X0 N a p s Q:=
 Qi (sM h) (fQ hk (lV U))
theorem Inv.pre (h:Inv S C T Ta B Zo cj loc s) {r:Nat} {π:List Int}:∀(n:Nat)(U:List Int)(y:Nat),U.length=n->loc y=some (r,π++U)->∃z,loc z=some (r,π)
 | 0,U,y,hn,hy=>by
   have:U=[]:=List.eq_nil_of_length_eq_zero hn;subst this;exact⟨y,by simpa using hy⟩
 | n+1,U,y,hn,hy=>by
   rcases List.eq_nil_or_concat U with rfl|⟨τ',j,rfl⟩
   · cases hn
   ·rw[List.concat_eq_append]at hy hn;obtain⟨R,x,_,_,h4⟩:=h.part _ _ _ hy;obtain⟨_,q,_,h5⟩:=h4.up (π++τ') j ax;exact h.pre n τ' q (cv hn) h5
def Ru (S:fh)(C:fC)(T:bx)(Ta:Nat->bx)(B:Nat->List Int->bx×bx)(Zo:Nat->Prop)(M:Nat)(rc:Nat->Nat->Q8->WM Q8)(r:Nat)(R:eQ)(k:Nat):Prop:=
 ∀(loc:Loc) (s:Q8) (p:Nat) (π:List Int) (Q:Q8->Prop),Inv S C T Ta B Zo none loc s->(∀n,hY loc n->n<=M)->loc p=some (r,π)->π.length=k->(∀U s',Inv S C T Ta B Zo none U s'->WG loc U r π->Frame s s' R (k+1)->Q s')->rc R.b p s Q
theorem Lo {N M r p:Nat} {R:eQ} {ρ:List Int} {i:Int} {rc:Nat->Nat->Q8->WM Q8} {Q:Q8->Prop} (hW:oi C) (hr:C.rows[r]? =some R) (hN:R.steps.length<N) (Nx:R.steps.length<9223372036854775807) (hM:M<9223372036854775807) (TO:Ru S C T Ta B Zo M rc r R (ρ++[i]).length) (hZ:∀(k:Nat) (sc:eM),R.steps[k]? =some sc->¬Zo sc.st.adr)
  (h:Inv S C T Ta B Zo none loc s) (hc:∀n,hY loc n->n<=M) (hp:loc p=some (r,ρ++[i])) (hQ:∀bg s',Inv S C T Ta B Zo none bg s'->Ik loc bg r (ρ++[i])->Frame s s' R (ρ++[i]).length->Q s'):Xg N rc R.b p s Q:=by
 refine QS ?_;refine TO loc s p (ρ++[i]) _ h hc hp rfl λeu s2 h2 Wi eP=>?_;have gY:eu p=some (r,ρ++[i]):=(Wi p _).2 ⟨hp,λ⟨τ,h1,h3⟩=>by have h4:=congrArg (λz:Nat×List Int=>z.2.length) h3;have:=List.length_pos_iff.2 h1;simp only[List.length_append]at h4;omega⟩;have mJ:∀z j,eu z≠some (r,ρ++[i]++[j]):=λz j hz=>((Wi z _).1 hz).2 ⟨[j],ax,rfl⟩;obtain⟨y,y1,y2,y3,y4,y5,y6,y7⟩:=h2.gRow hr;obtain⟨xn,g1,g2,_,_,_,_,_,_,_,n,g3,g4⟩:=h2.gNet
 have hnM:n<=M:=by
  obtain⟨m,hm⟩:=h.cnt;exact Nat.le_trans (g4.mono hm λy l hy=>((Wi y l).1 hy).1) (hc m hm)
 obtain⟨R',xp,c1,c2,c3,c4⟩:=h2.gPart gY;rw[hr]at c1;cases c1;obtain⟨_,q,c5,hq⟩:=c4.up ρ i rfl;obtain⟨R',xq,d1,d2,d3,d4⟩:=h2.gPart hq;rw[hr]at d1;cases d1;have Zh:p≠C.g:=λe=>by rw[e,g2]at c3;cases c3
 have Zl:q≠C.g:=λe=>by rw[e,g2]at d3;cases d3
 have hRg:R.b≠C.g:=λe=>by rw[e,g2]at y2;cases y2
 have hRq:R.b≠q:=λe=>by rw[e,d3]at y2;cases y2
 have hRp:R.b≠p:=λe=>by rw[e,c3]at y2;cases y2
 have Zm:q≠p:=λe=>by
  rw[e,gY]at hq;simp only[Option.some.injEq,Prod.mk.injEq,true_and]at hq;have:=congrArg List.length hq;simp at this
 refine Qi y1 ?_;rw[y3];refine Qi g1 ?_;refine fQ an ?_;refine lV ?_;refine Qi (a:=xp) (by rw[qU Zh];exact c2) ?_;refine Qi c5 ?_;refine Qi (a:=xq) (by rw[qU Zl];exact d2) ?_
 have live:∀z l,eu z=some l->s2 z≠none:=λz l hz=>by
  obtain⟨_,x,_,e2,_⟩:=h2.part z l.1 l.2 hz;rw[e2];simp
 have Rn:∀(σ:Q8) (b:Nat) (o:PO) (z:Nat),σ z≠none->cq σ b o z≠none:=λσ b o z hz=>by
  unfold cq;split;· simp
  · exact hz
 refine fQ (λz hz=>Rn _ _ _ _ ?_) ?_
 ·rcases hz with rfl|hz;· exact live _ _ gY
  · obtain⟨j,hj⟩:=(d4.kids z).1 hz;exact live _ _ hj
 refine lV ?_;refine Qi (a:=y) (by rw[xG hRq,xG hRg];exact y1) ?_;refine fQ (λz hz=>Rn _ _ _ _ (Rn _ _ _ _ ?_)) ?_
 ·rcases hz with rfl|hz;· exact live _ _ gY
  · obtain⟨⟨π,hj,_⟩,_⟩:=(y7 z).1 hz;exact live _ _ hj
 refine lV ?_;generalize Zr:cq (cq (cq s2 C.g (.net {xn with parts:=xn.parts-1})) q (.part {xq with kids:=xq.kids.del p})) R.b (.row {y with whole:=y.whole.del p})=s5;have s5g:s5 C.g=some (.net {xn with parts:=xn.parts-1}):=by rw[<-Zr,QC (Ne.symm hRg),QC (Ne.symm Zl),iQ]
 have s5q:s5 q=some (.part {xq with kids:=xq.kids.del p}):=by rw[<-Zr,QC (Ne.symm hRq),iQ]
 have s5R:s5 R.b=some (.row {y with whole:=y.whole.del p}):=by rw[<-Zr,iQ]
 have s5o:∀b,b≠C.g->b≠q->b≠R.b->s5 b=s2 b:=λb e1 e2 e3=>by rw[<-Zr,QC e3,QC e2,QC e1]
 have s5n:∀z,s2 z≠none->s5 z≠none:=λz hz=>by rw[<-Zr];exact Rn _ _ _ _ (Rn _ _ _ _ (Rn _ _ _ _ hz))
 have KJ:∀b o,s2 b=some o->(∀z,o≠.net z)->(∀z,o≠.part z)->(∀z,o≠.row z)->s5 b=some o:=λb o hb e1 e2 e3=>by
  rw[s5o b (λe=>by rw[e,g2]at hb;cases hb;exact e1 _ rfl) (λe=>by rw[e,d3]at hb;cases hb;exact e2 _ rfl) (λe=>by rw[e,y2]at hb;cases hb;exact e3 _ rfl)];exact hb
 obtain ⟨s6,a1a,HL⟩:∃s6:Q8,(∀z,s5 z≠none->s6 z≠none)/\((R.steps[(ρ++[i]).length]? =none/\s6=s5)\/∃sc,R.steps[(ρ++[i]).length]? =some sc/\((∃a x,sc.st=.join a/\s5 a=some (.join x)/\s6=cq s5 a (.join {x with parts:=x.parts.del p}))\/(∃a x,sc.st=.nt a/\s5 a=some (.nt x)/\s6=cq s5 a (.nt {x with parts:=x.parts.del p}))\/∃a,sc.st=.test a/\s6=s5)):=by
  cases eE:R.steps[(ρ++[i]).length]? with
  |none=>exact⟨s5,λ_ h=>h,.inl ⟨rfl,rfl⟩⟩
  | some sc=>
    have h1:=h2.step r R _ sc hr eE (hZ _ sc eE);unfold im at h1;cases U:sc.st with
    | join a=>
      rw[U]at h1;obtain⟨x,e1,_⟩:=h1;exact⟨_,λz hz=>Rn _ _ _ _ hz,.inr ⟨sc,rfl,.inl ⟨a,x,U,KJ _ _ e1 (λ_ e=>by cases e) (λ_ e=>by cases e) (λ_ e=>by cases e),rfl⟩⟩⟩
    | nt a=>
      rw[U]at h1;obtain⟨x,e1,_⟩:=h1;exact⟨_,λz hz=>Rn _ _ _ _ hz,.inr ⟨sc,rfl,.inr (.inl ⟨a,x,U,KJ _ _ e1 (λ_ e=>by cases e) (λ_ e=>by cases e) (λ_ e=>by cases e),rfl⟩)⟩⟩
    |test a=>exact⟨s5,λ_ h=>h,.inr ⟨sc,rfl,.inr (.inr ⟨a,U,rfl⟩)⟩⟩
 have s6k:∀b o,s5 b=some o->(∀z,o≠.join z)->(∀z,o≠.nt z)->s6 b=some o:=λb o hb e1 e2=>by
  rcases HL with⟨_,rfl⟩|⟨sc,_,⟨a,x,_,hx,rfl⟩|⟨a,x,_,hx,rfl⟩|⟨a,_,rfl⟩⟩
  · exact hb
  · rw[QC (λe=>by rw[e,hx]at hb;cases hb;exact e1 _ rfl)];exact hb
  · rw[QC (λe=>by rw[e,hx]at hb;cases hb;exact e2 _ rfl)];exact hb
  · exact hb
 have Z4:Inv S C T Ta B Zo none (Ic eu p) s6:=by
  refine h2.kill hW hr gY hq mJ g2 d3 y2 (s6k _ _ s5g (λ_ e=>by cases e) (λ_ e=>by cases e)) (s6k _ _ s5q (λ_ e=>by cases e) (λ_ e=>by cases e)) (s6k _ _ s5R (λ_ e=>by cases e) (λ_ e=>by cases e)) (λsc eE hz=>?_) (λb e1 e2 e3 e4=>?_)
  · have h1:=h2.step r R _ sc hr eE hz;rcases HL with⟨h0,_⟩|⟨df,fl,hh⟩
    · rw[h0]at eE;cases eE
    · rw[fl]at eE;cases eE;rcases hh with⟨a,x,U,hx,rfl⟩|⟨a,x,U,hx,rfl⟩|⟨a,U,rfl⟩
      ·unfold im at h1⊢;rw[U]at h1⊢;obtain⟨x',f1,f2,f3,f4,f5,f6⟩:=h1;have:=KJ _ _ f1 (λ_ e=>by cases e) (λ_ e=>by cases e) (λ_ e=>by cases e);have lY:s5 (bu.join a).adr=some (.join x):=hx;rw[lY]at this;cases this;exact⟨_,iQ _ _ _,f2,f3,f4,f5,f6.del⟩
      ·unfold im at h1⊢;rw[U]at h1⊢;obtain⟨x',f1,f2,f3,f4,f5,f6⟩:=h1;have:=KJ _ _ f1 (λ_ e=>by cases e) (λ_ e=>by cases e) (λ_ e=>by cases e);have lY:s5 (bu.nt a).adr=some (.nt x):=hx;rw[lY]at this;cases this;exact⟨_,iQ _ _ _,f2,f3,f4,f5,f6.del⟩
      ·unfold im at h1⊢;rw[U]at h1⊢;obtain⟨x',f1,f2⟩:=h1;exact⟨x',KJ _ _ f1 (λ_ e=>by cases e) (λ_ e=>by cases e) (λ_ e=>by cases e),f2⟩
  · rw[<-s5o b e1 e2 e3];rcases HL with⟨_,rfl⟩|⟨sc,eE,⟨a,x,U,hx,rfl⟩|⟨a,x,U,hx,rfl⟩|⟨a,_,rfl⟩⟩
    · rfl
    · refine QC λe=>?_;have:=(e4 sc eE (by rw[e,U];rfl)).1 x;rw[<-s5o b e1 e2 e3,e]at this;exact this hx
    · refine QC λe=>?_;have:=(e4 sc eE (by rw[e,U];rfl)).2.1 x;rw[<-s5o b e1 e2 e3,e]at this;exact this hx
    · rfl
 have fz:Ik loc (Ic eu p) r (ρ++[i]):=λz l=>by
  rw[ur,Wi];constructor
  · rintro⟨e1,e2,e3⟩;refine⟨e2,λ⟨τ,e4⟩=>?_⟩;by_cases fT:τ=[]
    · subst fT;rw[List.append_nil]at e4;rw[e4]at e2;exact e1 (h.inj _ _ _ e2 hp)
    · exact e3 ⟨τ,fT,e4⟩
  · rintro⟨e2,e3⟩;refine⟨λe=>?_,e2,λ⟨τ,_,e4⟩=>e3 ⟨τ,e4⟩⟩;rw[e,hp]at e2;cases e2;exact e3 ⟨[],ax⟩
 have PZ:y.steps.length=R.steps.length:=by rw[y4];simp
 have TS:Frame s s6 R (ρ++[i]).length:=λk' df dy fl=>by
  rw[<-eP k' df an fl];have h1:=h2.step r R k' df hr fl (hZ _ _ fl)
  have h5:s5 df.st.adr=s2 df.st.adr:=by
    unfold im at h1;split at h1;· obtain⟨x,f1,_⟩:=h1;rw[f1];exact KJ _ _ f1 (λ_ e=>by cases e) (λ_ e=>by cases e) (λ_ e=>by cases e)
    · obtain⟨x,f1,_⟩:=h1;rw[f1];exact KJ _ _ f1 (λ_ e=>by cases e) (λ_ e=>by cases e) (λ_ e=>by cases e)
    · obtain⟨x,f1,_⟩:=h1;rw[f1];exact KJ _ _ f1 (λ_ e=>by cases e) (λ_ e=>by cases e) (λ_ e=>by cases e)
  rw[<-h5]
  have db:∀sc,R.steps[(ρ++[i]).length]? =some sc->df.st.adr≠sc.st.adr:=λsc eE e=>by
    have:=(hW.steps r r R R _ _ df sc hr hr fl eE e).2;omega
  rcases HL with⟨_,rfl⟩|⟨sc,eE,⟨a,x,U,hx,rfl⟩|⟨a,x,U,hx,rfl⟩|⟨a,_,rfl⟩⟩
  · rfl
  · exact QC λe=>db sc eE (by rw[e,U];rfl)
  · exact QC λe=>db sc eE (by rw[e,U];rfl)
  · rfl
 have both:∀(σ:Q8) (u:Nat),σ=(if(ρ++[i]).length<u then s6 else s5)->(∀z,s5 z≠none->σ z≠none)/\∀b o,s5 b=some o->(∀z,o≠.join z)->(∀z,o≠.nt z)->σ b=some o:=λσ u e=>by
  split at e;· subst e;exact⟨a1a,s6k⟩
  · subst e;exact⟨λ_ h=>h,λ_ _ h _ _=>h⟩
 refine wX (λ(u,σ)=>u<=R.steps.length/\σ=if(ρ++[i]).length<u then s6 else s5) (λ(u,_)=>R.steps.length-u) ?_ N (0,s5) ⟨Nat.zero_le _,by rw[if_neg an]⟩ (by show R.steps.length-0<N;omega);rintro⟨u,σ⟩ ag ⟨hu,Dr⟩ fa;dsimp only at hu Dr fa⊢;obtain⟨bn,bk⟩:=both σ u Dr;refine iu (λhb=>?_) (λhb=>?_)
 ·have bq:u<R.steps.length:=by have:=of_decide_eq_true hb;rwa [PZ]at this
  obtain⟨sc,eE⟩:∃sc,R.steps[u]? =some sc:=⟨_,List.getElem?_eq_getElem bq⟩
  refine jt ?_;refine Qi (qV (bk _ _ s5R (λ_ e=>by cases e) (λ_ e=>by cases e))) ?_;refine fQ ⟨rfl,rfl,rfl⟩ ?_;refine Qi (a:=sc.st) (by show y.steps[u]? =_;rw[y4,List.getElem?_map,eE];rfl) ?_;have h1:=h2.step r R u sc hr eE (hZ u sc eE)
  have lv:∀(m:MS Nat Bool),LK none eu r u m->∀z,z=p\/z∈m.keys->σ z≠none:=λm hm z hz=>by
    refine bn z (s5n z ?_);rcases hz with rfl|hz;· exact live _ _ gY
    · obtain⟨⟨π,hj,_⟩,_⟩:=(hm z).1 hz;exact live _ _ hj
  have next:u≠(ρ++[i]).length->(∀s',s'=σ->eU (u+1<=9223372036854775807) (ag (u+1,s')) Q):=λdb s' e=>by
    refine fQ an (fa (u+1,s') ⟨an,?_⟩ an);rw[e,Dr];by_cases hh:(ρ++[i]).length<u;· rw[if_pos hh,if_pos an]
    · rw[if_neg hh,if_neg an]
  have last:u=(ρ++[i]).length->eU (u+1<=9223372036854775807) (ag (u+1,s6)) Q:=λhe=>
    fQ an (fa (u+1,s6) ⟨an,by rw[if_pos an]⟩ an)
  unfold im at h1;cases U:sc.st with
  | join a=>
    rw[U]at h1;obtain⟨x,f1,f2,f3,f4,f5,f6⟩:=h1;have Yi:s2 a=some (.join x):=f1;have g5:=KJ _ _ Yi (λ_ e=>by cases e) (λ_ e=>by cases e) (λ_ e=>by cases e);refine jQ (QS ?_);by_cases he:u=(ρ++[i]).length
    · have Dt:σ=s5:=by rw[Dr,if_neg an]
      refine zR (x:=x) (by rw[Dt];exact g5) (lv _ f6) ?_;rw[Dt]
      have:cq s5 a (.join {x with parts:=x.parts.del p})=s6:=by
       rcases HL with⟨h0,_⟩|⟨df,fl,⟨a',x',q1,q2,q3⟩|⟨a',x',q1,q2,q3⟩|⟨a',q1,q3⟩⟩
       · rw[<-he,eE]at h0;cases h0
       ·rw[<-he,eE]at fl;cases fl;rw[U]at q1;cases q1;rw[g5]at q2;cases q2;exact q3.symm
       ·rw[<-he,eE]at fl;cases fl;rw[U]at q1;cases q1
       ·rw[<-he,eE]at fl;cases fl;rw[U]at q1;cases q1
      rw[this];exact last he
    · obtain⟨_,hnk⟩:=f6.del' gY (λ_ e=>he e.symm)
      have ll:σ a=some (.join x):=by
       rw[Dr];split
       ·rcases HL with⟨_,rfl⟩|⟨df,fl,⟨a',x',q1,q2,rfl⟩|⟨a',x',q1,q2,rfl⟩|⟨a',q1,rfl⟩⟩
        · exact g5
        · rw[QC (λe=>he (hW.steps r r R R _ _ sc df hr hr eE fl (by rw[U,q1,<-e])).2)];exact g5
        · rw[QC (λe=>he (hW.steps r r R R _ _ sc df hr hr eE fl (by rw[U,q1,<-e];rfl)).2)];exact g5
        · exact g5
       · exact g5
      refine zR (x:=x) ll (lv _ f6) ?_;rw[MS.del_none hnk];exact next he _ (tW ll)
  | nt a=>
    rw[U]at h1;obtain⟨x,f1,f2,f3,f4,f5,f6⟩:=h1;have Yi:s2 a=some (.nt x):=f1;have g5:=KJ _ _ Yi (λ_ e=>by cases e) (λ_ e=>by cases e) (λ_ e=>by cases e);refine jR (QS ?_);by_cases he:u=(ρ++[i]).length
    · have Dt:σ=s5:=by rw[Dr,if_neg an]
      refine zS (x:=x) (by rw[Dt];exact g5) (lv _ f6) ?_;rw[Dt]
      have:cq s5 a (.nt {x with parts:=x.parts.del p})=s6:=by
       rcases HL with⟨h0,_⟩|⟨df,fl,⟨a',x',q1,q2,q3⟩|⟨a',x',q1,q2,q3⟩|⟨a',q1,q3⟩⟩
       · rw[<-he,eE]at h0;cases h0
       ·rw[<-he,eE]at fl;cases fl;rw[U]at q1;cases q1
       ·rw[<-he,eE]at fl;cases fl;rw[U]at q1;cases q1;rw[g5]at q2;cases q2;exact q3.symm
       ·rw[<-he,eE]at fl;cases fl;rw[U]at q1;cases q1
      rw[this];exact last he
    · obtain⟨_,hnk⟩:=f6.del' gY (λ_ e=>he e.symm)
      have ll:σ a=some (.nt x):=by
       rw[Dr];split
       ·rcases HL with⟨_,rfl⟩|⟨df,fl,⟨a',x',q1,q2,rfl⟩|⟨a',x',q1,q2,rfl⟩|⟨a',q1,rfl⟩⟩
        · exact g5
        · rw[QC (λe=>he (hW.steps r r R R _ _ sc df hr hr eE fl (by rw[U,q1,<-e];rfl)).2)];exact g5
        · rw[QC (λe=>he (hW.steps r r R R _ _ sc df hr hr eE fl (by rw[U,q1,<-e])).2)];exact g5
        · exact g5
       · exact g5
      refine zS (x:=x) ll (lv _ f6) ?_;rw[MS.del_none hnk];exact next he _ (tW ll)
  | test a=>
    rw[U]at h1;obtain⟨x,f1,f2,f3,f4,f5⟩:=h1;have Yi:s2 a=some (.test x):=f1;have g5:=KJ _ _ Yi (λ_ e=>by cases e) (λ_ e=>by cases e) (λ_ e=>by cases e);have ll:=bk _ _ g5 (λ_ e=>by cases e) (λ_ e=>by cases e);refine jS (QS ?_);refine Jo (x:=x) ll (λz hz=>?_) ?_
    · rcases hz with rfl|hz;· exact bn _ (s5n _ (live _ _ gY))
      · exact absurd hz (f5 z)
    · rw[MS.del_none (f5 p),tW ll];by_cases he:u=(ρ++[i]).length
      ·have Dt:σ=s6:=by
        rw[Dr,if_neg an];rcases HL with⟨_,rfl⟩|⟨df,fl,⟨a',x',q1,q2,q3⟩|⟨a',x',q1,q2,q3⟩|⟨a',q1,q3⟩⟩
        · rfl
        ·rw[<-he,eE]at fl;cases fl;rw[U]at q1;cases q1
        ·rw[<-he,eE]at fl;cases fl;rw[U]at q1;cases q1
        · exact q3.symm
       rw[Dt];exact last he
      · exact next he _ rfl
 ·have pI:¬u<R.steps.length:=by have:=of_decide_eq_false hb;rwa [PZ]at this
  have:σ=s6:=by
    rw[Dr];split;· rfl
    · rename_i hh;rcases HL with⟨_,rfl⟩|⟨df,fl,_⟩
      · rfl
      ·have:=(List.getElem?_eq_some_iff.1 fl).1;omega
  rw[this];exact hQ _ _ Z4 fz TS
end
end
section
open Go Go.RowKit Classical
section
variable {S:fh} {I:ew->Prop} {C:fC} {T:bx} {Ta:Nat->bx} {B:Nat->List Int->bx×bx} {Zo:Nat->Prop} {cj:Option Nat} {loc:Loc} {s:Q8} {D:List Int}
theorem IG {M r:Nat} {R:eQ} (hW:oi C)(hr:C.rows[r]? =some R)(Nx:R.steps.length<9223372036854775807)(hM:M<4398046511104)(hZ:∀(k:Nat)(sc:eM),R.steps[k]? =some sc->¬Zo sc.st.adr):
   ∀(d k:Nat),k+d=R.steps.length->∀N,M+R.steps.length+d+1<N->Ru S C T Ta B Zo M (LL N) r R k
 |d,k,hd,0,hN=>an
 | d,k,hd,N+1,hN=>by
   intro loc s p π Q h hc hp je hQ;show Q6g N (LL N) R.b p s Q;obtain⟨R',x,r1,r2,r3,r4⟩:=h.gPart hp;rw[hr]at r1;cases r1;obtain⟨n,L,l1,l2,l3⟩:=h.cnt;have hn:=hc n ⟨L,l1,l2,l3⟩
   have jL:∀ks:List Nat,ks.Nodup->(∀w∈ks,w∈x.kids.keys)->ks.length<=M:=λks h1 h2=>by
    have:=I5 (l:=L) h1 λw hw=>by
     obtain⟨i,hi⟩:=(r4.kids w).1 (h2 w hw);exact(l2 w).2 ⟨r,_,hi,ax⟩
    omega
   refine Qi r2 ?_;refine QS ⟨Nat.le_trans (jL _ r4.kn λ_ h=>h) an,λks JQ=>?_⟩;have a0X:=jL ks JQ.1 λw hw=>(JQ.2 w).1 hw;have G1:∀w∈ks,∃i,loc w=some (r,π++[i]):=λw hw=>(r4.kids w).1 ((JQ.2 w).1 hw);refine wX (λ(u,σ)=>u<=ks.length/\∃bg,Inv S C T Ta B Zo none bg σ/\Frame s σ R (k+1)/\∀y l,bg y=some l↔loc y=some l/\¬∃w∈ks.take u,∃i,loc w=some (r,π++[i])/\∃U,l=(r,π++[i]++U)) (λ(u,_)=>ks.length-u) ?_ N (0,s) ⟨Nat.zero_le _,loc,h,λ_ _ _ _=>rfl,λy l=>⟨λhy=>⟨hy,λ⟨w,hw,_⟩=>by cases hw⟩,λhy=>hy.1⟩⟩ (by show ks.length-0<N;omega);rintro⟨u,σ⟩ ag ⟨hu,da,jb,YX,iX⟩ fa;dsimp only at hu fa⊢;refine iu (λhb=>?_) (λhb=>?_)
   ·have bq:u<ks.length:=of_decide_eq_true hb;obtain⟨w,hw⟩:∃w,ks[u]? =some w:=⟨_,List.getElem?_eq_getElem bq⟩
    obtain⟨i,Mn⟩:=G1 w (List.mem_of_getElem? hw);have fz:ks.take (u+1)=ks.take u++[w]:=by rw[List.take_add_one,hw];rfl
    have sW:w∉ks.take u:=λhm=>by
     have h2:(ks.take (u+1)).Nodup:=List.Nodup.sublist (List.take_sublist _ _) JQ.1;rw[fz]at h2;exact(List.nodup_append.1 h2).2.2 _ hm _ ax rfl
    have hw1:da w=some (r,π++[i]):=(iX w _).2 ⟨Mn,λ⟨w',iO,j,hj,U,e⟩=>by
     simp only[Prod.mk.injEq,true_and,List.append_assoc,List.append_cancel_left_eq,List.cons_append,List.nil_append,List.cons.injEq]at e;rw[<-e.1]at hj;exact sW (by rw[h.inj _ _ _ Mn hj];exact iO)⟩
    have hkn:k<R.steps.length:=by
     obtain⟨R',x',q1,q2,q3⟩:=h.part _ _ _ Mn;rw[hr]at q1;cases q1;have:=my q3.env;simp only[List.length_append,List.length_cons,List.length_nil]at this;omega
    obtain⟨d',rfl⟩:∃d',d=d'+1:=⟨d-1,an⟩
    refine Qi hw ?_;refine QS ?_;have ih:=IG hW hr Nx hM hZ d' (k+1) an N an;refine Lo hW hr an Nx an (by rw[show(π++[i]).length=k+1 from by simp[je]];exact ih) hZ jb (λm hm=>Nat.le_trans (hm.mono ⟨L,l1,l2,l3⟩ λy l hy=>((iX y l).1 hy).1) hn) hw1 λeu s2 iN ht2 A4=>?_;refine fQ an (fa (u+1,s2) ⟨an,eu,iN,λk' df e1 e2=>(A4 k' df (by simp[je];omega) e2).trans (YX k' df e1 e2),λy l=>?_⟩ an);rw[ht2,iX,fz];constructor
    ·rintro⟨⟨e1,e2⟩,e3⟩;refine⟨e1,λ⟨w',iO,j,hj,U,e⟩=>?_⟩;rcases List.mem_append.1 iO with iO|iO;· exact e2 ⟨w',iO,j,hj,U,e⟩
     · rw[List.mem_singleton.1 iO,Mn]at hj;simp only[Option.some.injEq,Prod.mk.injEq,true_and]at hj;obtain⟨_,rfl⟩:=W7 hj;exact e3 ⟨U,e⟩
    ·rintro⟨e1,e2⟩;exact⟨⟨e1,λ⟨w',iO,hh⟩=>e2 ⟨w',List.mem_append_left _ iO,hh⟩⟩,λ⟨U,e⟩=>e2 ⟨w,List.mem_append_right _ ax,i,Mn,U,e⟩⟩
   ·have pI:¬u<ks.length:=of_decide_eq_false hb;have Wo:ks.take u=ks:=List.take_of_length_le an;rw[Wo]at iX;refine hQ da σ jb (λy l=>?_) YX;rw[iX];constructor
    ·rintro⟨e1,e2⟩;refine⟨e1,λ⟨U,fT,e⟩=>?_⟩;cases U with
     |nil=>exact fT rfl
     | cons i U=>
       rw[e]at e1;have e1':loc y=some (r,π++[i]++U):=by rw[e1];simp
       obtain⟨w,hw⟩:=h.pre U.length U y rfl e1';have hwk:w∈ks:=(JQ.2 w).2 ((r4.kids w).2 ⟨i,hw⟩);exact e2 ⟨w,hwk,i,hw,U,by rw[e];simp⟩
    ·rintro⟨e1,e2⟩;exact⟨e1,λ⟨w,_,i,_,U,e⟩=>e2 ⟨i::U,ax,by rw[e];simp⟩⟩
end
end
section
open Go Go.RowKit Classical
def Shape (C:fC)(s:Q8):Prop:=(∃x,gNet s C.g=some x/\x.rows=C.rows.map (·.b)/\x.rowsP=C.rP/\x.rowsC=C.rC)/\∀(r:Nat)(R:eQ),C.rows[r]? =some R->∃y,gRow s R.b=some y/\y.steps=R.steps.map (·.st)/\y.stepsP=R.sP/\y.stepsC=R.sC
theorem Inv.shape {S:fh} {C:fC} {T:bx} {Ta:Nat->bx} {B:Nat->List Int->bx×bx} {Zo:Nat->Prop} {cj:Option Nat} {loc:Loc} {s:Q8} (h:Inv S C T Ta B Zo cj loc s):Shape C s:=by
 refine⟨?_,λr R hr=>?_⟩
 ·obtain⟨x,h1,_,_,U,h3,h4,_⟩:=h.gNet;exact⟨x,h1,U,h3,h4⟩
 ·obtain⟨y,h1,_,_,U,h3,h4,_⟩:=h.gRow hr;exact⟨y,h1,U,h3,h4⟩
section
variable {C:fC} {K:bu->Q8->WM Q8} {E:Nat->Q8->Prop} {J:Nat->Nat->Q8->Prop}
theorem Fk {r:Nat} {R:eQ} {y:mi} (hr:C.rows[r]? =some R)(hy:y.steps=R.steps.map (·.st)/\y.stepsP=R.sP/\y.stepsC=R.sC)(hJ:∀m s,J r m s->Shape C s)
   (step:∀m sc s Q,J r (m+1) s->R.steps[m]? =some sc->(∀s',J r m s'->Q s')->K sc.st s Q):∀(m:Nat) (s:Q8) (Q:Q8->Prop),m<=R.steps.length->J r m s->(∀s',J r 0 s'->Q s')->tK K R.b y m s Q
 |0,s,Q,_,h,U=>U s h
 | m+1,s,Q,hm,h,U=>by
   obtain⟨sc,eE⟩:∃sc,R.steps[m]? =some sc:=⟨_,List.getElem?_eq_getElem an⟩
   obtain⟨y',h1,h2,h3,h4⟩:=(hJ _ _ h).2 r R hr;refine Qi h1 ?_;refine fQ ⟨by rw[h3,hy.2.1],by rw[h2,hy.1],by rw[h4,hy.2.2]⟩ ?_;refine Qi (a:=sc.st) (by rw[hy.1,List.getElem?_map,eE];rfl) ?_;refine QS ?_;exact step m sc s _ h eE λs' EV=>Fk hr hy hJ step m s' Q an EV U
theorem xC {s:Q8} {Q:Q8->Prop} (hlen:C.rows.length<=9223372036854775806)(hsl:∀R∈C.rows,R.steps.length<=9223372036854775807)(hE:∀r s,E r s->Shape C s)(hJ:∀r m s,J r m s->Shape C s)
  (enter:∀r R s,C.rows[r]? =some R->E r s->J r R.steps.length s)
  (step:∀r R m sc s Q,C.rows[r]? =some R->J r (m+1) s->R.steps[m]? =some sc->(∀s',J r m s'->Q s')->K sc.st s Q)
  (leave:∀r s,J r 0 s->E (r+1) s) (h:E 0 s) (hQ:∀s',E C.rows.length s'->Q s'):Ep K C.g s Q:=by
 obtain⟨x,h1,h2,h3,h4⟩:=(hE _ _ h).1;refine Qi h1 ?_;refine fQ (by rw[h2];simpa using hlen) ?_
 have key:∀(l:List eQ) (r:Nat) (s:Q8),C.rows.drop r=l->r+l.length=C.rows.length->E r s->Fh K C.g x (l.map (·.b)) s Q:=by
  intro l;induction l with
  | nil=>
    intro r s hl Wn he;exact hQ s (by rw[<-Wn];exact he)
  | cons R l ih=>
    intro r s hl Wn he
    have U:C.rows[r]? =some R:=by
     have:=congrArg (·[0]?) hl;simpa using this
    have xQ:C.rows.drop (r+1)=l:=by rw[<-List.drop_drop,hl];rfl
    obtain⟨x',q1,q2,q3,q4⟩:=(hE _ _ he).1;obtain⟨y,p1,p2,p3,p4⟩:=(hE _ _ he).2 r R U;refine Qi q1 ?_;refine fQ ⟨by rw[q3,h3],by rw[q2,h2],by rw[q4,h4]⟩ ?_;refine Qi p1 ?_;have PZ:y.steps.length=R.steps.length:=by rw[p2];simp
    refine fQ (by rw[PZ];exact hsl R (List.mem_of_getElem? U)) ?_;refine QS ?_;rw[PZ];exact Fk U ⟨p2,p3,p4⟩ (hJ r) (λm sc s Q=>step r R m sc s Q U) _ s _ (Nat.le_refl _) (enter r R s U he) λs' EV=>ih (r+1) s' xQ (by simp only[List.length_cons]at Wn;omega) (leave r s' EV)
 rw[h2];exact key C.rows 0 s rfl an h
end
end
section
open Go Go.RowKit Classical
section
variable {S:fh} {I:ew->Prop} {C:fC} {T:bx} {Ta:Nat->bx} {B:Nat->List Int->bx×bx} {Zo:Nat->Prop} {cj:Option Nat} {loc:Loc} {s:Q8} {D:List Int}
theorem Inv.parts_list (h:Inv S C T Ta B Zo cj loc s) {r M:Nat} {R:eQ} (hr:C.rows[r]? =some R)(hc:∀n,hY loc n->n<=M):∃L:List Nat,L.length<=M+1/\∀y π,loc y=some (r,π)->y∈L:=by
 obtain⟨n,L,l1,l2,l3⟩:=h.cnt;refine⟨R.root::L,by simp only[List.length_cons];have:=hc n ⟨L,l1,l2,l3⟩;omega,λy π hy=>?_⟩;by_cases U:π=[]
 ·subst U;rw[h.inj _ _ _ hy (h.root r R hr)];simp
 · exact List.mem_cons_of_mem _ ((l2 y).2 ⟨r,π,hy,U⟩)
theorem Bb {π:List Int} {k:Nat} {id:Int} (h:π[k]? =some id):π=π.take k++[id]++π.drop (k+1)/\(π.take k).length=k:=by
 have U:=(List.getElem?_eq_some_iff.1 h).1;refine⟨?_,by simp;omega⟩;have h1:π.drop k=id::π.drop (k+1):=P8 h
 calc π=π.take k++π.drop k:=(List.take_append_drop k π).symm
  _=_:=by rw[h1];simp
theorem Ax {N M r k a:Nat} {R:eQ} {sc:eM} {id:Int} {Q:Q8->Prop} (hW:oi C) (hr:C.rows[r]? =some R) (hk:R.steps[k]? =some sc) (bw:sc.st=.join a) (Nx:R.steps.length<9223372036854775807) (hM:M<4398046511103) (hN:M+R.steps.length+R.steps.length+2<N) (hZ:∀(k:Nat) (sc:eM),R.steps[k]? =some sc->¬Zo sc.st.adr)
    (h:Inv S C T Ta B Zo none loc s) (hc:∀n,hY loc n->n<=M) (hQ:∀bg s',Inv S C T Ta B Zo none bg s'->(∀y l,bg y=some l↔loc y=some l/\¬(l.1=r/\l.2[k]? =some id))->Q s'):Q6e N a id s Q:=by
  have jL:k<R.steps.length:=(List.getElem?_eq_some_iff.1 hk).1;have h0:=h.step r R k sc hr hk (hZ k sc hk);unfold im at h0;rw[bw]at h0;obtain⟨x,b1,b2,b3,b4,b5,b6⟩:=h0;have qk:s a=some (.join x):=b1;have eZ:sc.st.adr=a:=by rw[bw];rfl
  obtain⟨L,hL1,TI⟩:=h.parts_list hr hc;obtain⟨n0,PT⟩:=h.cnt;have TO:∀k',k'<=R.steps.length->Ru S C T Ta B Zo M (LL N) r R k':=λk' dy=>IG hW hr Nx an hZ (R.steps.length-k') k' an N an;refine Qi (RZ qk) ?_;refine wX (λ(b,m,d,σ)=>b=x.partsA/\m=x.parts/\d.Nodup/\(∀q∈d,q∈x.parts.keys)/\∃bg,Inv S C T Ta B Zo none bg σ/\Frame s σ R (k+1)/\∀y l,bg y=some l↔loc y=some l/\¬∃q∈d,∃ρ,loc q=some (r,ρ)/\ρ.length=k/\∃τ,l=(r,ρ++[id]++τ)) (λ(_,_,d,_)=>M+1-d.length) ?_ N _ ⟨rfl,rfl,List.nodup_nil,(λq hq=>by cases hq),loc,h,(λ_ _ _ _=>rfl),λy l=>⟨λhy=>⟨hy,λ⟨q,hq,_⟩=>by cases hq⟩,λhy=>hy.1⟩⟩ (by show M+1-0<N;omega);rintro⟨b,m,d,σ⟩ ag ⟨rfl,rfl,kp,mG,da,jb,Cc,iX⟩ fa;dsimp only at kp mG fa⊢;have ll:σ a=some (.join x):=by rw[<-eZ,Cc k sc an hk,eZ];exact qk
  refine Qi (RZ ll) ?_;refine fQ ⟨rfl,rfl⟩ ?_;refine Ph (λef=>?_) λq hq EU=>?_
  · refine hQ da σ jb λy l=>?_;rw[iX];constructor
    · rintro⟨U,e2⟩;refine⟨U,λ⟨e3,e4⟩=>?_⟩;obtain⟨r',π⟩:=l;dsimp only at e3 e4;subst e3;obtain⟨e5,e6⟩:=Bb e4;rw[e5,List.append_assoc]at U;obtain⟨q,hq⟩:=h.pre _ _ y rfl U;exact e2 ⟨q,ef q ((b6 q).2 ⟨⟨_,hq,e6⟩,ax⟩),_,hq,e6,π.drop (k+1),by rw[<-e5]⟩
    · rintro⟨U,e2⟩;refine⟨U,λ⟨q,_,ρ,_,e4,τ,e5⟩=>e2 ?_⟩;rw[e5];refine⟨rfl,?_⟩;show(ρ++[id]++τ)[k]? =some id;rw[List.append_assoc,List.getElem?_append_right an,e4];simp
  · obtain⟨⟨ρ,gC,gZ⟩,_⟩:=(b6 q).1 hq
    have GC:da q=some (r,ρ):=(iX q _).2 ⟨gC,λ⟨q',_,ca,_,e4,τ,e5⟩=>by
      have:=congrArg (λz:Nat×List Int=>z.2.length) e5;simp only[List.length_append,List.length_cons,List.length_nil]at this;omega⟩
    obtain⟨v,hv⟩:=Xt hq;refine Qi hv ?_;obtain⟨R',z,r1,r2,r3,r4⟩:=jb.gPart GC;rw[hr]at r1;cases r1;refine Qi r2 ?_;have Wh:∀n,hY da n->n<=M:=λn hn=>Nat.le_trans (hn.mono PT λy l hy=>((iX y l).1 hy).1) (hc _ PT);obtain⟨n1,L1,l1,l2,l3⟩:=jb.cnt
    have hkb:∀ks:List Nat,ks.Nodup->(∀w∈ks,w∈z.kids.keys)->ks.length<=M:=λks h1 h2=>by
      have:=I5 (l:=L1) h1 λw hw=>by
        obtain⟨i,hi⟩:=(r4.kids w).1 (h2 w hw);exact(l2 w).2 ⟨r,_,hi,ax⟩
      have:=Wh n1 ⟨L1,l1,l2,l3⟩;omega
    refine QS ⟨Nat.le_trans (hkb _ r4.kn λ_ h=>h) an,λks JQ=>?_⟩;have a0X:=hkb ks JQ.1 λw hw=>(JQ.2 w).1 hw
    have NG:d.length<M+1:=by
      have:=I5 (l:=L) (List.nodup_cons.2 ⟨EU,kp⟩) λw hw=>by
        have:w∈x.parts.keys:=by
          rcases List.mem_cons.1 hw with rfl|hw;· exact hq
          · exact mG w hw
        obtain⟨⟨π,U,_⟩,_⟩:=(b6 w).1 this;exact TI w π U
      simp only[List.length_cons]at this;omega
    refine wX (λ(u,E9)=>u<=ks.length/\∃bg,Inv S C T Ta B Zo none bg E9/\Frame s E9 R (k+1)/\∀y l,bg y=some l↔da y=some l/\¬((∃w∈ks.take u,da w=some (r,ρ++[id]))/\∃τ,l=(r,ρ++[id]++τ))) (λ(u,_)=>ks.length-u) ?_ N (0,σ) ⟨Nat.zero_le _,da,jb,Cc,λy l=>⟨λhy=>⟨hy,λ⟨⟨w,hw,_⟩,_⟩=>by cases hw⟩,λhy=>hy.1⟩⟩ (by show ks.length-0<N;omega);rintro⟨u,E9⟩ ag2 ⟨hu,eu,iN,A4,xQ⟩ Gr;dsimp only at hu Gr⊢;refine iu (λhb=>?_) (λhb=>?_)
    · have bq:u<ks.length:=of_decide_eq_true hb;obtain⟨w,hw⟩:∃w,ks[u]? =some w:=⟨_,List.getElem?_eq_getElem bq⟩
      have hwk:=List.mem_of_getElem? hw;obtain⟨i,Mn⟩:=(r4.kids w).1 ((JQ.2 w).1 hwk);have fz:ks.take (u+1)=ks.take u++[w]:=by rw[List.take_add_one,hw];rfl
      have sW:w∉ks.take u:=λhm=>by
        have h2:(ks.take (u+1)).Nodup:=List.Nodup.sublist (List.take_sublist _ _) JQ.1;rw[fz]at h2;exact(List.nodup_append.1 h2).2.2 _ hm _ ax rfl
      have Wr:eu w=some (r,ρ++[i]):=(xQ w _).2 ⟨Mn,λ⟨⟨w',iO,hj⟩,τ,e⟩=>by
        simp only[Prod.mk.injEq,true_and,List.append_assoc,List.append_cancel_left_eq,List.cons_append,List.nil_append,List.cons.injEq]at e;rw[<-e.1]at hj;exact sW (by rw[jb.inj _ _ _ Mn hj];exact iO)⟩
      refine jt ?_;refine Qi hw ?_;obtain⟨R',zw,p1,p2,p3,p4⟩:=iN.gPart Wr;refine Qi p2 ?_;have hid:=(p4.up ρ i rfl).1;refine iu (λTM=>?_) (λTM=>?_)
      · have Wl:i=id:=by rw[hid]at TM;simpa using TM
        subst Wl;have ZI:E9 a=some (.join x):=by rw[<-eZ,A4 k sc an hk,eZ];exact qk
        refine Qi (RZ ZI) ?_;refine QS ?_;rw[b3];have Mj:(ρ++[i]).length=k+1:=by simp[gZ]
        show Xg N (LL N) R.b w E9 _;refine Lo hW hr an Nx an (TO _ an) hZ iN (λm hm=>Nat.le_trans (hm.mono ⟨L1,l1,l2,rfl⟩ λy l hy=>((xQ y l).1 hy).1) (Wh _ ⟨L1,l1,l2,rfl⟩)) Wr λa1h s3 hi3 ht3 hf3=>?_;refine fQ an (Gr (u+1,s3) ⟨an,a1h,hi3,λk' df U e2=>(hf3 k' df an e2).trans (A4 k' df U e2),λy l=>?_⟩ an);rw[ht3,xQ,fz];constructor;· rintro⟨⟨U,e2⟩,e3⟩;exact⟨U,λ⟨_,e5⟩=>e3 e5⟩
        · rintro⟨U,e2⟩;exact⟨⟨U,λ⟨⟨w',iO,e4⟩,e5⟩=>e2 ⟨⟨w',List.mem_append_left _ iO,e4⟩,e5⟩⟩,λe5=>e2 ⟨⟨w,ax,Mn⟩,e5⟩⟩
      · have Wl:i≠id:=λe=>by rw[hid,e]at TM;simp at TM
        refine fQ an (Gr (u+1,E9) ⟨an,eu,iN,A4,λy l=>?_⟩ an);rw[xQ,fz];constructor
        · rintro⟨U,e2⟩;refine⟨U,λ⟨⟨w',iO,e4⟩,e5⟩=>?_⟩;rcases List.mem_append.1 iO with iO|iO;· exact e2 ⟨⟨w',iO,e4⟩,e5⟩
          · rw[List.mem_singleton.1 iO,Mn]at e4;simp only[Option.some.injEq,Prod.mk.injEq,true_and]at e4;exact Wl (W7 e4).2
        · rintro⟨U,e2⟩;exact⟨U,λ⟨⟨w',iO,e4⟩,e5⟩=>e2 ⟨⟨w',List.mem_append_left _ iO,e4⟩,e5⟩⟩
    · have pI:¬u<ks.length:=of_decide_eq_false hb;have Wo:ks.take u=ks:=List.take_of_length_le an;rw[Wo]at xQ;refine fa _ ⟨rfl,rfl,List.nodup_append.2 ⟨kp,ax,λy hy w hw U=>EU (by simp at hw;rw[<-hw,<-U];exact hy)⟩,(λw hw=>?_),eu,iN,A4,λy l=>?_⟩ (by show M+1-(d++[q]).length<_;simp only[List.length_append,List.length_cons,List.length_nil];omega)
      · rcases List.mem_append.1 hw with hw|hw;· exact mG w hw
        · rw[List.mem_singleton.1 hw];exact hq
      · rw[xQ,iX];constructor
        · rintro⟨⟨U,e2⟩,e3⟩;refine⟨U,λ⟨q',dW,ca,e4,e5,τ,e6⟩=>?_⟩;rcases List.mem_append.1 dW with dW|dW;· exact e2 ⟨q',dW,ca,e4,e5,τ,e6⟩
          · rw[List.mem_singleton.1 dW,gC]at e4;cases e4;have Uf:da y=some l:=(iX y l).2 ⟨U,e2⟩;rw[e6]at Uf;obtain⟨w,hw⟩:=jb.pre _ _ y rfl Uf;exact e3 ⟨⟨w,(JQ.2 w).2 ((r4.kids w).2 ⟨id,hw⟩),hw⟩,τ,e6⟩
        · rintro⟨U,e2⟩;exact⟨⟨U,λ⟨q',dW,hh⟩=>e2 ⟨q',List.mem_append_left _ dW,hh⟩⟩,λ⟨_,τ,e6⟩=>e2 ⟨q,ax,ρ,gC,gZ,τ,e6⟩⟩
end
end
section
open Go Go.RowKit Classical
section
variable {S:fh} {I:ew->Prop} {C:fC} {T:bx} {Ta:Nat->bx} {B:Nat->List Int->bx×bx} {Zo:Nat->Prop} {cj:Option Nat} {loc:Loc} {s:Q8} {D:List Int}
theorem Inv.congrB {B':Nat->List Int->bx×bx} (h:Inv S C T Ta B Zo cj loc s)(U:∀p r π,loc p=some (r,π)->B' r π=B r π):Inv S C T Ta B' Zo cj loc s:=by
 refine⟨h.net,h.row,h.step,h.al,λp r π hp=>?_,h.inj,h.root,h.le⟩;obtain⟨R,x,a1,a2,a3⟩:=h.part p r π hp;exact⟨R,x,a1,a2,⟨a3.env,a3.top,a3.up,a3.kids,by rw[U p r π hp];exact a3.blocks,by rw[U p r π hp];exact a3.free,a3.kn⟩⟩
noncomputable def nk (B:Nat->List Int->bx×bx)(r k:Nat)(T:bx):Nat->List Int->bx×bx:=λU π=>if U=r/\π.length=k then(T,T)else B U π
theorem DC {N M r k a:Nat} {R:eQ} {sc:eM} {id:Int} {T0:bx} {Q:Q8->Prop} (hW:oi C) (hT:iy T D) (hD:D.length<=3518437208882) (hr:C.rows[r]? =some R) (hk:R.steps[k]? =some sc) (bw:sc.st=.nt a) (hlen:R.steps.length<9223372036854775807) (cn:∀sc∈R.steps,wR S I C T sc) (hI:∀π e,fF S T R.steps (R.hs,R.vs) π=some e->I e)
  (hN:B0+D.length+R.steps.length+2<N) (YJ:M+2<N) (hZ:∀(k:Nat) (sc:eM),R.steps[k]? =some sc->¬Zo sc.st.adr) (hid:T id=none) (Nz:∀i,i≠id->T0 i=T i) (hB0:∀π:List Int,π.length=k->B r π=(T0,T0)) (hB1:∀π:List Int,k<π.length->B r π=(T,T))
  (h:Inv S C T (λ_=>T) B Zo none loc s) (hc:∀n,hY loc n->n<=M)
  (hQ:∀bg s',Inv S C T (λ_=>T) (nk B r k T) Zo none bg s'->kz loc bg->(∀y l,bg y=some l->loc y=none->∃q ρ τ,loc q=some (r,ρ)/\ρ.length=k/\τ≠[]/\l=(r,ρ++τ))->(qd bg->∀q ρ e,loc q=some (r,ρ)->ρ.length=k->fF S T R.steps (R.hs,R.vs) ρ=some e->jG S sc e T0 id->iL S T bg r ρ (R.steps.drop k) e)->Q s'):Q6O N a id s Q:=by
 have h0:=h.step r R k sc hr hk (hZ k sc hk);unfold im at h0;rw[bw]at h0;obtain⟨x,b1,b2,b3,b4,b5,b6⟩:=h0;have qk:s a=some (.nt x):=b1;have jL:k<R.steps.length:=(List.getElem?_eq_some_iff.1 hk).1;obtain⟨L,hL1,TI⟩:=h.parts_list hr hc
 have CK:∀(e:ew) (i:Int),jG S sc e T i↔i≠id/\jG S sc e T0 i:=λe i=>by
  constructor
  ·rintro⟨f,f1,f2⟩;have:i≠id:=λU=>by rw[U,hid]at f1;cases f1
   exact⟨this,f,by rw[Nz i this];exact f1,f2⟩
  · rintro⟨h1,f,f1,f2⟩;exact⟨f,by rw[<-Nz i h1];exact f1,f2⟩
 let Bd:List Nat->Nat->List Int->bx×bx:=λd r' fg=>if r'=r/\∃q∈d,loc q=some (r,fg)then(T,T)else B r' fg
 have BdT:∀d fg,k<fg.length->Bd d r fg=(T,T):=λd fg hp=>by
  show(if _ then _ else _)=_;split;· rfl
  · exact hB1 fg hp
 refine Qi (LZ qk) ?_;refine wX (λ(d,σ)=>d.Nodup/\(∀q∈d,q∈x.parts.keys)/\∃bg,Inv S C T (λ_=>T) (Bd d) Zo none bg σ/\kz loc bg/\(∀y l,bg y=some l->loc y=none->∃q ρ τ,q∈d/\loc q=some (r,ρ)/\ρ.length=k/\τ≠[]/\l=(r,ρ++τ))/\(qd bg->∀q∈d,∀ρ e,loc q=some (r,ρ)->fF S T R.steps (R.hs,R.vs) ρ=some e->jG S sc e T0 id->iL S T bg r ρ (R.steps.drop k) e)) (λ(d,_)=>M+1-d.length) ?_ N ([],s) ⟨List.nodup_nil,(λq hq=>by cases hq),loc,h.congrB (λp r' fg _=>if_neg λ⟨_,q,hq,_⟩=>by cases hq),kz.refl _,(λy l h1 h2=>by rw[h1]at h2;cases h2),λ_ q hq=>by cases hq⟩ (by show M+1-0<N;omega);rintro⟨d,σ⟩ ag ⟨kp,mG,da,jb,yW,Cd,yV⟩ fa;dsimp only at kp mG fa⊢;refine Ph (λef=>?_) λq hq EU=>?_
 ·refine hQ da σ (jb.congrB λp r' fg hp=>?_) yW (λy l h1 h2=>?_) λfS q ρ e hq R1=>yV fS q (ef q ((b6 q).2 ⟨⟨ρ,hq,R1⟩,ax⟩)) ρ e hq
  ·show nk B r k T r' fg=if _ then _ else _
   unfold nk;by_cases hh:r'=r/\fg.length=k
   ·rw [if_pos hh];obtain⟨rfl,hh⟩:=hh
    have qX:loc p=some (r',fg):=by
      cases hl:loc p with
      |some l=>have:=yW _ _ hl;rw[hp]at this;exact this.symm
      | none=>
        obtain⟨q,ρ,τ,_,_,e3,e4,e5⟩:=Cd p _ hp hl;simp only[Prod.mk.injEq,true_and]at e5;have:=List.length_pos_iff.2 e4;rw[e5,List.length_append]at hh;omega
    rw[if_pos ⟨rfl,p,ef p ((b6 p).2 ⟨⟨fg,qX,hh⟩,ax⟩),qX⟩]
   ·rw[if_neg hh];split
    · rename_i h2;obtain⟨rfl,q,hq,A9⟩:=h2;obtain⟨⟨ρ,U,e2⟩,_⟩:=(b6 q).1 (mG q hq);rw[U]at A9;cases A9;exact absurd ⟨rfl,e2⟩ hh
    · rfl
  ·obtain⟨q,ρ,τ,_,e2,e3,e4,e5⟩:=Cd y l h1 h2;exact⟨q,ρ,τ,e2,e3,e4,e5⟩
 ·obtain ⟨⟨ρ,gC,gZ⟩,_⟩:=(b6 q).1 hq;have GC:=yW _ _ gC;obtain⟨v,hv⟩:=Xt hq;refine Qi hv ?_;obtain⟨R',z,r1,r2,r3,r4⟩:=jb.gPart GC;rw[hr]at r1;cases r1;have oF:=r4.env;have hIe:=hI _ _ oF;obtain⟨bb,m,m1,m2,m3⟩:=r4.blocks ax sc a (by rw[gZ];exact hk) bw
  have TH:Bd d r ρ=(T0,T0):=by
   show(if _ then _ else _)=_;rw[if_neg];· exact hB0 ρ gZ
   ·rintro⟨_,q',dW,A9⟩;exact EU (by rw[h.inj _ _ _ gC A9];exact dW)
  rw[TH]at m2;dsimp only at m2
  have NG:d.length<M+1:=by
   have:=I5 (l:=L) (List.nodup_cons.2 ⟨EU,kp⟩) λw hw=>by
    have:w∈x.parts.keys:=by
      rcases List.mem_cons.1 hw with rfl|hw;· exact hq
      · exact mG w hw
    obtain⟨⟨π,U,_⟩,_⟩:=(b6 w).1 this;exact TI w π U
   simp only[List.length_cons]at this;omega
  have Di:(d++[q]).Nodup:=List.nodup_append.2 ⟨kp,ax,λy hy w hw U=>EU (by simp at hw;rw[<-hw,<-U];exact hy)⟩
  have Dh:∀w∈d++[q],w∈x.parts.keys:=λw hw=>by
   rcases List.mem_append.1 hw with hw|hw;· exact mG w hw
   · rw[List.mem_singleton.1 hw];exact hq
  have sO:Bd (d++[q]) r ρ=(T,T):=if_pos ⟨rfl,q,ax,gC⟩
  have zU:∀r' fg,(r',fg)≠(r,ρ)->Bd (d++[q]) r' fg=Bd d r' fg:=λr' fg db=>by
   show(if _ then _ else _)=(if _ then _ else _)
   by_cases hh:r'=r/\∃q'∈d,loc q'=some (r,fg);· rw[if_pos hh,if_pos ⟨hh.1,hh.2.choose,List.mem_append_left _ hh.2.choose_spec.1,hh.2.choose_spec.2⟩]
   ·rw[if_neg hh,if_neg];rintro⟨rfl,q',dW,A9⟩;rcases List.mem_append.1 dW with dW|dW;· exact hh ⟨rfl,q',dW,A9⟩
    · rw[List.mem_singleton.1 dW,gC]at A9;cases A9;exact db rfl
  have Zb:M+1-(d++[q]).length<M+1-d.length:=by simp only[List.length_append,List.length_cons,List.length_nil];omega
  refine jt ?_;refine Qi r2 ?_;refine Qi m1 ?_
  have skip:¬jG S sc (z.has,z.vals) T0 id->ag (d++[q],σ) Q:=λhnb=>by
   refine fa (d++[q],σ) ⟨Di,Dh,da,?_,yW,(λy l h1 h2=>by obtain⟨q',ca,τ,e0,U⟩:=Cd y l h1 h2;exact⟨q',ca,τ,List.mem_append_left _ e0,U⟩),λfS q' dW ca e U e2 e3=>?_⟩ Zb
   ·have:=jb.setBlocks (B':=Bd (d++[q])) (bl:=z.blocks) hr GC r3 zU (λ_ df a' q1 q2=>?_) (λdf a' q1 q2 dy=>?_);· rwa [tW r3]at this
    · rw[gZ,hk]at q1;cases q1;refine⟨bb,m,m1,λi=>?_,m3⟩;rw[m2,sO];refine Iff.trans ?_ (CK _ _).symm;exact⟨λhb=>⟨λe=>hnb (e▸hb),hb⟩,λhb=>hb.2⟩
    · have:=r4.free df a' q1 q2 dy;rw[gZ,hk]at q1;cases q1;rw[TH]at this;intro i hi;rw[sO]at hi;have hi:=(CK _ _).1 hi;exact this i hi.2
   ·rcases List.mem_append.1 dW with dW|dW;· exact yV fS q' dW ca e U e2 e3
    · rw[List.mem_singleton.1 dW,gC]at U;cases U;rw[oF]at e2;cases e2;exact absurd e3 hnb
  refine ye (λJT=>?_) (λw JT=>?_)
  ·refine zi rfl (skip λhb=>?_);obtain⟨w,hw⟩:=MS.look_iff.1 ((m2 id).2 hb);rw[JT]at hw;cases hw
  ·have hwt:=m3 _ _ JT;subst hwt;have a0J:jG S sc (z.has,z.vals) T0 id:=(m2 id).1 (MS.look_iff.2 ⟨_,JT⟩)
   have fG:∀y i,da y≠some (r,ρ++[i]):=λy i hy=>by
    have:=r4.free sc a (by rw[gZ];exact hk) bw ⟨y,i,hy⟩ id;rw[TH]at this;exact this a0J
   refine jr rfl ?_;refine Qi r2 ?_;refine Qi m1 ?_;refine lV ?_
   have xU:=jb.setBlocks (B':=Bd (d++[q])) (bl:=some (bb,m.del id)) hr GC r3 zU (λ_ df a' q1 q2=>by
    rw[gZ,hk]at q1;cases q1;refine⟨bb,m.del id,rfl,λi=>?_,λi v hv=>?_⟩
    · rw[MS.keys_del,m2,sO];exact(CK _ _).symm
    · rw[MS.look_del]at hv;split at hv;· cases hv
      · exact m3 i v hv) (λdf a' q1 q2 ⟨y,i,hy⟩=>absurd hy (fG y i))
   refine QS ?_;show RC N (Hl N) a q _ _;refine tl hW hlen hr hk bw (Oe (S:=S) (I:=I) (B:=Bd (d++[q])) hW hlen hT hD hr cn (R.steps.length-(k+1)) (k+1) an (λfg ZH=>BdT _ fg an) N an) xU GC gZ oF hIe sO fG (λk' df _ hs=>hZ k' df hs) λeu s2 iN mI uj=>?_;refine fa (d++[q],s2) ⟨Di,Dh,eu,iN,yW.trans mI.1,λy l h1 h2=>?_,λfS q' dW ca e U e2 e3=>?_⟩ Zb
   ·cases hy:da y with
    | some l'=>
      have:=mI.1 _ _ hy;rw[h1]at this;cases this;obtain⟨q',ca,τ,e0,U⟩:=Cd y l hy h2;exact⟨q',ca,τ,List.mem_append_left _ e0,U⟩
    | none=>
      obtain⟨τ,U,e2⟩:=mI.2 y l h1 hy;exact⟨q,ρ,τ,ax,gC,gZ,U,e2⟩
   ·rcases List.mem_append.1 dW with dW|dW;· exact(yV (Xw jb.cnt mI.1 fS iN.cnt) q' dW ca e U e2 e3).mono mI.1
    · rw[List.mem_singleton.1 dW,gC]at U;cases U;rw[oF]at e2;cases e2;exact uj fS
end
end
section
open Go Go.RowKit Classical
section
variable {S:fh} {I:ew->Prop} {C:fC} {T:bx} {Ta:Nat->bx} {B:Nat->List Int->bx×bx} {Zo:Nat->Prop} {cj:Option Nat} {loc:Loc} {s:Q8} {D:List Int}
def vh (A:HT)(f:Qq)(j:Nat):Bool:=match A.args[j]? with
 |some a=>if a.k=4 then decide (f.args[j]? =some a.v)else true
 |none=>true
theorem sR {A:HT} {f:Qq}:hasB A f=true↔f.ty=A.kind/\∀j,j<A.args.length->vh A f j=true:=by
 unfold hasB;simp only[Bool.and_eq_true,decide_eq_true_eq,List.all_eq_true,List.mem_range];exact Iff.rfl
theorem JD {N:Nat} {A:HT} {Ta:bx} {f:Qq} {Q:Bool->Prop} (hA:HU Ta A (s A.b)) (hN:A.args.length<N) (hlen:A.args.length<9223372036854775807) (hf:f.ty=A.kind->∀(j:Nat) (a:eN),A.args[j]? =some a->∃v,f.args[j]? =some v) (hQ:Q (hasB A f)):Mw N A.b f.id f.ty f.args s Q:=by
 obtain⟨x,h1,h2,h3,_⟩:=hA;refine Qi (W0 h1) ?_;refine iu (λhb=>?_) (λhb=>?_)
 ·have:hasB A f=false:=by
   cases hh:hasB A f with
   |false=>rfl
   |true=>have:=(sR.1 hh).1;rw[h2,this]at hb;simp at hb
  rw[this]at hQ;exact hQ
 ·have hk:f.ty=A.kind:=by rw[h2]at hb;simpa using hb
  refine jt ?_;refine wX (λu=>u<=A.args.length/\∀j,j<u->vh A f j=true) (λu=>A.args.length-u) ?_ N 0 ⟨Nat.zero_le _,λj hj=>absurd hj (Nat.not_lt_zero _)⟩ an;intro u ag ⟨hu,ef⟩ fa;rw[h3];refine iu (λsS=>?_) (λsS=>?_)
  ·have bq:u<A.args.length:=of_decide_eq_true sS;obtain⟨a,ha⟩:∃a,A.args[u]? =some a:=⟨_,List.getElem?_eq_getElem bq⟩
   refine Qi ha ?_;refine jt ?_
   have go:vh A f u=true->eU (u+1<=9223372036854775807) (ag (u+1)) Q:=λh=>fQ an (fa (u+1) ⟨an,λj hj=>by
    by_cases e:j=u;· rw[e];exact h
    · exact ef j an⟩ an)
   refine iu (λMc=>?_) (λMc=>?_)
   ·have h4:a.k=4:=by simpa using Mc
    obtain⟨v,hv⟩:=hf hk u a ha;refine Qi hv ?_;refine iu (λU=>?_) (λU=>?_)
    ·have db:¬a.v=v:=by simpa using U
     have:hasB A f=false:=by
      cases hh:hasB A f with
      |false=>rfl
      | true=>
        have:=(sR.1 hh).2 u bq;simp only[vh,ha,h4,if_true,hv,decide_eq_true_eq,Option.some.injEq]at this;exact absurd this.symm db
     rw[this]at hQ;exact hQ
    ·have heq:a.v=v:=by simpa using U
     exact go (by simp only[vh,ha,h4,if_true,hv,heq,decide_true])
   ·have h4:¬a.k=4:=by simpa using Mc
    exact zi rfl (go (by simp only[vh,ha,if_neg h4]))
  ·have pI:¬u<A.args.length:=of_decide_eq_false sS;have:hasB A f=true:=sR.2 ⟨hk,λj hj=>ef j an⟩;rw[this]at hQ;exact hQ
theorem Inv.congrB2 {B':Nat->List Int->bx×bx} (h:Inv S C T Ta B Zo cj loc s)(U:∀p r π,loc p=some (r,π)->B' r π=B r π\/((B' r π).1=(B r π).1/\∀y i,loc y≠some (r,π++[i]))):Inv S C T Ta B' Zo cj loc s:=by
 refine⟨h.net,h.row,h.step,h.al,λp r π hp=>?_,h.inj,h.root,h.le⟩;obtain⟨R,x,a1,a2,a3⟩:=h.part p r π hp;refine⟨R,x,a1,a2,⟨a3.env,a3.top,a3.up,a3.kids,?_,?_,a3.kn⟩⟩
 ·rcases U p r π hp with e|⟨e,_⟩
  · rw[e];exact a3.blocks
  · rw[e];exact a3.blocks
 ·rcases U p r π hp with e|⟨_,e⟩
  · rw[e];exact a3.free
  ·intro sc a q1 q2 ⟨y,i,hy⟩;exact absurd hy (e y i)
theorem Inv.congrK {B':Nat->List Int->bx×bx} (h:Inv S C T Ta B Zo cj loc s)(hB:∀p r π R x sc a,loc p=some (r,π)->C.rows[r]? =some R->s p=some (.part x)->fF S T R.steps (R.hs,R.vs) π=some (x.has,x.vals)->R.steps[π.length]? =some sc->sc.st=.nt a->∀i,(jG S sc (x.has,x.vals) (B' r π).1 i↔jG S sc (x.has,x.vals) (B r π).1 i)/\(jG S sc (x.has,x.vals) (B' r π).2 i->jG S sc (x.has,x.vals) (B r π).2 i)):Inv S C T Ta B' Zo cj loc s:=by
 refine⟨h.net,h.row,h.step,h.al,λp r π hp=>?_,h.inj,h.root,h.le⟩;obtain⟨R,x,a1,a2,a3⟩:=h.part p r π hp;refine⟨R,x,a1,a2,⟨a3.env,a3.top,a3.up,a3.kids,λCg sc a U q2=>?_,λsc a U q2 q3 i hi=>?_,a3.kn⟩⟩
 ·obtain⟨bb,m,m1,m2,m3⟩:=a3.blocks Cg sc a U q2;exact⟨bb,m,m1,λi=>(m2 i).trans (hB p r π R x sc a hp a1 a2 a3.env U q2 i).1.symm,m3⟩
 · exact a3.free sc a U q2 q3 i ((hB p r π R x sc a hp a1 a2 a3.env U q2 i).2 hi)
end
end
section
open Go Go.RowKit Classical
section
variable {S:fh} {I:ew->Prop} {C:fC} {T:bx} {Ta:Nat->bx} {B:Nat->List Int->bx×bx} {Zo:Nat->Prop} {cj:Option Nat} {loc:Loc} {s:Q8} {D:List Int}
theorem JC {N a b:Nat} {i t:Int} {l:List V} {s:Q8} {Q:Bool->Prop} (e:a=b)(h:Mw N b i t l s Q):Mw N a i t l s Q:=e▸h
theorem AJ {N M r k a:Nat} {R:eQ} {sc:eM} {f:Qq} {T0:bx} {Q:Q8->Prop} (hW:oi C) (hr:C.rows[r]? =some R) (hk:R.steps[k]? =some sc) (bw:sc.st=.nt a) (hlen:R.steps.length<9223372036854775807) (cn:wR S I C T sc) (hI:∀π e,fF S T R.steps (R.hs,R.vs) π=some e->I e)
    (hN0:B0<=N) (hM:M<4398046511103) (hN:M+R.steps.length+R.steps.length+2<N) (hA:∀A∈C.als,A.args.length<N/\A.args.length<9223372036854775807/\(f.ty=A.kind->∀(j:Nat) (a:eN),A.args[j]? =some a->∃v,f.args[j]? =some v)) (hZ:∀(k:Nat) (sc:eM),R.steps[k]? =some sc->¬Zo sc.st.adr) (hf:T f.id=some f) (Mh:T0 f.id=none) (Nz:∀i,i≠f.id->T0 i=T i) (hB0:∀π:List Int,π.length=k->B r π=(T0,T0))
    (h:Inv S C T Ta B Zo none loc s) (hc:∀n,hY loc n->n<=M)
    (hQ:∀bg s',Inv S C T Ta (nk B r k T) Zo none bg s'->(∀y l,bg y=some l↔loc y=some l/\¬∃q ρ e,loc q=some (r,ρ)/\ρ.length=k/\fF S T R.steps (R.hs,R.vs) ρ=some e/\(S.mt sc.c e.1 e.2 f).isSome=true/\∃τ,τ≠[]/\l=(r,ρ++τ))->Q s'):Q6f N a f.id f.ty f.args s Q:=by
  have h0:=h.step r R k sc hr hk (hZ k sc hk);unfold im at h0;rw[bw]at h0;obtain⟨x,b1,b2,b3,b4,b5,b6⟩:=h0;have qk:s a=some (.nt x):=b1;have eZ:sc.st.adr=a:=by rw[bw];rfl
  have jL:k<R.steps.length:=(List.getElem?_eq_some_iff.1 hk).1;obtain⟨L,hL1,TI⟩:=h.parts_list hr hc;obtain⟨n0,PT⟩:=h.cnt;obtain⟨A,pH,Ma,TF⟩:=cn.al (λa' e'=>by rw[bw]at e';cases e')
  have CK:∀(e:ew) (i:Int),jG S sc e T i↔jG S sc e T0 i\/(i=f.id/\(S.mt sc.c e.1 e.2 f).isSome=true):=λe i=>by
    by_cases hi:i=f.id
    · subst hi;constructor
      · rintro⟨g,g1,g2⟩;rw[hf]at g1;cases g1;exact .inr ⟨rfl,g2⟩
      · rintro(⟨g,g1,_⟩|⟨_,g2⟩);· rw[Mh]at g1;cases g1
        · exact⟨f,hf,g2⟩
    · constructor;· rintro⟨g,g1,g2⟩;exact .inl ⟨g,by rw[Nz i hi];exact g1,g2⟩
      · rintro(⟨g,g1,g2⟩|⟨g1,_⟩);· exact⟨g,by rw[<-Nz i hi];exact g1,g2⟩
        · exact absurd g1 hi
  obtain⟨hAn,hAl,hAf⟩:=hA A pH;refine Qi (LZ qk) ?_;refine QS ?_;refine JC (b2.trans Ma.symm) (JD (h.al A pH) hAn hAl hAf ?_)
  refine iu (λhb=>?_) (λhb=>?_)
  · have mJ:∀e:ew,(S.mt sc.c e.1 e.2 f).isSome=false:=λe=>by
      cases U:S.mt sc.c e.1 e.2 f with
      |none=>rfl
      |some p=>have:=TF f e p U;rw[this]at hb;simp at hb
    refine hQ loc s (h.congrK λp r' π R' z df a' hp cy hx he q1 q2 i=>?_) λy l=>⟨λhy=>⟨hy,λ⟨q,ρ,e,_,_,_,e4,_⟩=>by rw[mJ]at e4;cases e4⟩,λhy=>hy.1⟩
    unfold nk;by_cases U:r'=r/\π.length=k
    · rw[if_pos U];obtain⟨rfl,U⟩:=U;rw[hr]at cy;cases cy;rw[U,hk]at q1;cases q1;rw[hB0 π U];have:=CK (z.has,z.vals) i;rw[mJ]at this;have key:jG S sc (z.has,z.vals) T i↔jG S sc (z.has,z.vals) T0 i:=by rw[this];simp
      exact⟨key,key.1⟩
    · rw[if_neg U];exact⟨Iff.rfl,λh=>h⟩
  · let Bd:List Nat->Nat->List Int->bx×bx:=λd r' fg=>if r'=r/\∃q∈d,loc q=some (r,fg)then(T,T)else B r' fg
    refine wX (λ(b,m,d,σ)=>b=x.partsA/\m=x.parts/\d.Nodup/\(∀q∈d,q∈x.parts.keys)/\∃bg,Inv S C T Ta (Bd d) Zo none bg σ/\Frame s σ R (k+1)/\∀y l,bg y=some l↔loc y=some l/\¬∃q∈d,∃ρ e,loc q=some (r,ρ)/\ρ.length=k/\fF S T R.steps (R.hs,R.vs) ρ=some e/\(S.mt sc.c e.1 e.2 f).isSome=true/\∃τ,τ≠[]/\l=(r,ρ++τ)) (λ(_,_,d,_)=>M+1-d.length) ?_ N _ ⟨rfl,rfl,List.nodup_nil,(λq hq=>by cases hq),loc,h.congrB (λp r' fg _=>if_neg λ⟨_,q,hq,_⟩=>by cases hq),(λ_ _ _ _=>rfl),λy l=>⟨λhy=>⟨hy,λ⟨q,hq,_⟩=>by cases hq⟩,λhy=>hy.1⟩⟩ (by show M+1-0<N;omega);rintro⟨b,m,d,σ⟩ ag ⟨rfl,rfl,kp,mG,da,jb,Cc,iX⟩ fa;dsimp only at kp mG fa⊢;have ll:σ a=some (.nt x):=by rw[<-eZ,Cc k sc an hk,eZ];exact qk
    refine Qi (LZ ll) ?_;refine fQ ⟨rfl,rfl⟩ ?_;refine Ph (λef=>?_) λq hq EU=>?_
    · refine hQ da σ (jb.congrB λp r' fg hp=>?_) λy l=>?_
      · have qX:=((iX p _).1 hp).1;show nk B r k T r' fg=if _ then _ else _
        unfold nk;by_cases U:r'=r/\fg.length=k
        · rw[if_pos U];obtain⟨rfl,U⟩:=U;rw[if_pos ⟨rfl,p,ef p ((b6 p).2 ⟨⟨fg,qX,U⟩,ax⟩),qX⟩]
        · rw[if_neg U];split
          · rename_i h2;obtain⟨rfl,q,hq,A9⟩:=h2;obtain⟨⟨ρ,e1,e2⟩,_⟩:=(b6 q).1 (mG q hq);rw[e1]at A9;cases A9;exact absurd ⟨rfl,e2⟩ U
          · rfl
      · rw[iX];constructor
        · rintro⟨e1,e2⟩;refine⟨e1,λ⟨q,ρ,e,e3,e4,e5⟩=>e2 ⟨q,ef q ((b6 q).2 ⟨⟨ρ,e3,e4⟩,ax⟩),ρ,e,e3,e4,e5⟩⟩
        · rintro⟨e1,e2⟩;exact⟨e1,λ⟨q,_,ρ,e,e3⟩=>e2 ⟨q,ρ,e,e3⟩⟩
    · obtain ⟨⟨ρ,gC,gZ⟩,_⟩:=(b6 q).1 hq
      have GC:da q=some (r,ρ):=(iX q _).2 ⟨gC,λ⟨q',_,ca,_,_,e4,_,_,τ,e5,e6⟩=>by
        have:=congrArg (λz:Nat×List Int=>z.2.length) e6;have:=List.length_pos_iff.2 e5;simp only[List.length_append]at*;omega⟩
      obtain⟨v,hv⟩:=Xt hq;refine Qi hv ?_;obtain⟨R',z,r1,r2,r3,r4⟩:=jb.gPart GC;rw[hr]at r1;cases r1;have oF:=r4.env;have hIe:=hI _ _ oF;refine Qi r2 ?_;obtain⟨ha,hw,d1,d2⟩:=cn.mt (λa' e'=>by rw[bw]at e';cases e') N hN0 f hf _ hIe;refine Qi (a:=(ha,hw,(S.mt sc.c (z.has,z.vals).1 (z.has,z.vals).2 f).isSome)) (by rw[b5];exact d1) ?_;obtain⟨bb,m,m1,m2,m3⟩:=r4.blocks ax sc a (by rw[gZ];exact hk) bw
      have TH:Bd d r ρ=(T0,T0):=by
        show(if _ then _ else _)=_;rw[if_neg];· exact hB0 ρ gZ
        · rintro⟨_,q',dW,A9⟩;exact EU (by rw[h.inj _ _ _ gC A9];exact dW)
      rw[TH]at m2;dsimp only at m2
      have NG:d.length<M+1:=by
        have:=I5 (l:=L) (List.nodup_cons.2 ⟨EU,kp⟩) λw hw=>by
          have:w∈x.parts.keys:=by
            rcases List.mem_cons.1 hw with rfl|hw;· exact hq
            · exact mG w hw
          obtain⟨⟨π,e1,_⟩,_⟩:=(b6 w).1 this;exact TI w π e1
        simp only[List.length_cons]at this;omega
      have Di:(d++[q]).Nodup:=List.nodup_append.2 ⟨kp,ax,λy hy w hw e1=>EU (by simp at hw;rw[<-hw,<-e1];exact hy)⟩
      have Dh:∀w∈d++[q],w∈x.parts.keys:=λw hw=>by
        rcases List.mem_append.1 hw with hw|hw;· exact mG w hw
        · rw[List.mem_singleton.1 hw];exact hq
      have sO:Bd (d++[q]) r ρ=(T,T):=if_pos ⟨rfl,q,ax,gC⟩
      have zU:∀r' fg,(r',fg)≠(r,ρ)->Bd (d++[q]) r' fg=Bd d r' fg:=λr' fg db=>by
        show(if _ then _ else _)=(if _ then _ else _)
        by_cases U:r'=r/\∃q'∈d,loc q'=some (r,fg);· rw[if_pos U,if_pos ⟨U.1,U.2.choose,List.mem_append_left _ U.2.choose_spec.1,U.2.choose_spec.2⟩]
        · rw[if_neg U,if_neg];rintro⟨rfl,q',dW,A9⟩;rcases List.mem_append.1 dW with dW|dW;· exact U ⟨rfl,q',dW,A9⟩
          · rw[List.mem_singleton.1 dW,gC]at A9;cases A9;exact db rfl
      have Zb:M+1-(d++[q]).length<M+1-d.length:=by simp only[List.length_append,List.length_cons,List.length_nil];omega
      have sQ:a≠q:=λe1=>by rw[e1,r3]at ll;cases ll
      refine iu (λDc=>?_) (λDc=>?_)
      · refine Qi m1 ?_;refine lV ?_;refine Qi (a:=x) (by rw[D7 sQ];exact LZ ll) ?_;refine QS ?_;rw[b3];let B1:Nat->List Int->bx×bx:=λr' fg=>if(r',fg)=(r,ρ)then(T,T0)else Bd d r' fg
        have TG:B1 r ρ=(T,T0):=if_pos rfl
        have xU:Inv S C T Ta B1 Zo none da (cq σ q (.part {z with blocks:=some (bb,m.put f.id true)})):=jb.setBlocks hr GC r3 (λr' fg db=>if_neg db) (λ_ df a' q1 q2=>by
          rw[gZ,hk]at q1;cases q1;refine⟨bb,m.put f.id true,rfl,λi=>?_,λi v hv=>?_⟩
          · rw[MS.keys_put,m2,TG];refine Iff.trans ?_ (CK _ _).symm;constructor
            · rintro(e|e);· exact .inr ⟨e,Dc⟩
              · exact .inl e
            · rintro(e|e);· exact .inr e
              · exact .inl e.1
          · rw[MS.look_put]at hv;split at hv;· cases hv;rfl
            · exact m3 i v hv) (λdf a' q1 q2 q3 i hi=>by
          have:=r4.free df a' q1 q2 q3 i;rw[TH]at this;rw[TG]at hi;exact this hi)
        have Wh:∀n,hY da n->n<=M:=λn hn=>Nat.le_trans (hn.mono PT λy l hy=>((iX y l).1 hy).1) (hc _ PT);refine IG hW hr hlen an hZ (R.steps.length-k) k an N an da _ q ρ _ xU Wh GC gZ λeu s2 iN YT A4=>?_;refine fa _ ⟨rfl,rfl,Di,Dh,eu,iN.congrB2 λp r' fg hp=>?_,λk' df e1 e2=>?_,λy l=>?_⟩ Zb
        · by_cases U:(r',fg)=(r,ρ)
          · cases U;exact .inr ⟨by rw[sO,TG],λy i hy=>((YT y _).1 hy).2 ⟨[i],ax,rfl⟩⟩
          · left;rw[zU _ _ U];exact(if_neg U).symm
        · show s2 df.st.adr=s df.st.adr;rw[A4 k' df e1 e2,QC,Cc k' df e1 e2];intro e3;have h1:=jb.step r R k' df hr e2 (hZ _ _ e2);unfold im at h1;split at h1;· obtain⟨w,f1,_⟩:=h1;rw[e3,r3]at f1;cases f1
          · obtain⟨w,f1,_⟩:=h1;rw[e3,r3]at f1;cases f1
          · obtain⟨w,f1,_⟩:=h1;rw[e3,r3]at f1;cases f1
        · rw[YT,iX];constructor
          · rintro⟨⟨e1,e2⟩,e3⟩;refine⟨e1,λ⟨q',dW,ca,e,e4,e5,e6,e7,τ,e8,e9⟩=>?_⟩;rcases List.mem_append.1 dW with dW|dW;· exact e2 ⟨q',dW,ca,e,e4,e5,e6,e7,τ,e8,e9⟩
            · rw[List.mem_singleton.1 dW,gC]at e4;cases e4;exact e3 ⟨τ,e8,e9⟩
          · rintro⟨e1,e2⟩;exact⟨⟨e1,λ⟨q',dW,U⟩=>e2 ⟨q',List.mem_append_left _ dW,U⟩⟩,λ⟨τ,e8,e9⟩=>e2 ⟨q,ax,ρ,_,gC,gZ,oF,Dc,τ,e8,e9⟩⟩
      · refine fa _ ⟨rfl,rfl,Di,Dh,da,jb.congrK λp r' fg R' z' df a' hp cy hx he q1 q2 i=>?_,Cc,λy l=>?_⟩ Zb
        · by_cases U:(r',fg)=(r,ρ)
          · cases U;rw[hr]at cy;cases cy;rw[oF]at he;have EP:=Option.some.inj he;rw[gZ,hk]at q1;cases q1;rw[sO,TH,<-EP]
            have key:jG S sc (z.has,z.vals) T i↔jG S sc (z.has,z.vals) T0 i:=by
              rw[CK];constructor
              · rintro(e|e);· exact e
                · rw[e.2]at Dc;cases Dc
              · exact .inl
            exact⟨key,key.1⟩
          · rw[zU _ _ U];exact⟨Iff.rfl,λh=>h⟩
        · rw[iX];constructor
          · rintro⟨e1,e2⟩;refine⟨e1,λ⟨q',dW,ca,e,e4,e5,e6,e7,e8⟩=>?_⟩;rcases List.mem_append.1 dW with dW|dW;· exact e2 ⟨q',dW,ca,e,e4,e5,e6,e7,e8⟩
            · rw[List.mem_singleton.1 dW,gC]at e4;cases e4;rw[oF]at e6;cases e6;rw[e7]at Dc;cases Dc
          · rintro⟨e1,e2⟩;exact⟨e1,λ⟨q',dW,U⟩=>e2 ⟨q',List.mem_append_left _ dW,U⟩⟩
end
end
section
open Go Go.RowKit Classical
section
variable {S:fh} {I:ew->Prop} {C:fC} {T:bx} {Ta:Nat->bx} {B:Nat->List Int->bx×bx} {Zo:Nat->Prop} {cj:Option Nat} {loc:Loc} {s:Q8} {D:List Int}
theorem Aw {N M r k a:Nat} {R:eQ} {sc:eM} {f:Qq} {Q:Q8->Prop} (hW:oi C) (hT:iy T D) (hD:D.length<=3518437208882) (hr:C.rows[r]? =some R) (hk:R.steps[k]? =some sc) (bw:sc.st=.join a) (hlen:R.steps.length<9223372036854775807) (cn:∀sc∈R.steps,wR S I C T sc) (hI:∀π e,fF S T R.steps (R.hs,R.vs) π=some e->I e)
  (hN:B0+D.length+R.steps.length+2<N) (YJ:M+2<N) (hA:∀A∈C.als,A.args.length<N/\A.args.length<9223372036854775807/\(f.ty=A.kind->∀(j:Nat) (a:eN),A.args[j]? =some a->∃v,f.args[j]? =some v)) (hZ:∀(k:Nat) (sc:eM),R.steps[k]? =some sc->¬Zo sc.st.adr) (hf:T f.id=some f) (hB1:∀π:List Int,k<π.length->B r π=(T,T))
  (h:Inv S C T (λ_=>T) B Zo none loc s) (hc:∀n,hY loc n->n<=M) (mJ:∀y ρ,ρ.length=k->loc y≠some (r,ρ++[f.id]))
  (hQ:∀bg s',Inv S C T (λ_=>T) B Zo none bg s'->kz loc bg->(∀y l,bg y=some l->loc y=none->∃q ρ τ,loc q=some (r,ρ)/\ρ.length=k/\l=(r,ρ++[f.id]++τ))->(qd bg->∀q ρ e U,loc q=some (r,ρ)->ρ.length=k->fF S T R.steps (R.hs,R.vs) ρ=some e->S.mt sc.c e.1 e.2 f=some U->iL S T bg r (ρ++[f.id]) (R.steps.drop (k+1)) U)->Q s'):Q6d N a f.id f.ty f.args s Q:=by
 have Gz:=cn sc (List.mem_of_getElem? hk);have h0:=h.step r R k sc hr hk (hZ k sc hk);unfold im at h0;rw[bw]at h0;obtain⟨x,b1,b2,b3,b4,b5,b6⟩:=h0;have qk:s a=some (.join x):=b1;have jL:k<R.steps.length:=(List.getElem?_eq_some_iff.1 hk).1;obtain⟨L,hL1,TI⟩:=h.parts_list hr hc;obtain⟨A,pH,Ma,TF⟩:=Gz.al (λa' U=>by rw[bw]at U;cases U);obtain⟨hAn,hAl,hAf⟩:=hA A pH;refine Qi (RZ qk) ?_;refine QS ?_;refine JC (b2.trans Ma.symm) (JD (h.al A pH) hAn hAl hAf ?_)
 refine iu (λhb=>?_) (λhb=>?_)
 ·refine hQ loc s h (kz.refl _) (λy l h1 h2=>by rw[h1]at h2;cases h2) λ_ q ρ e U _ _ _ e4=>?_;have:=TF f e U e4;rw[this]at hb;cases hb
 ·refine wX (λ(d,σ)=>d.Nodup/\(∀q∈d,q∈x.parts.keys)/\∃bg,Inv S C T (λ_=>T) B Zo none bg σ/\kz loc bg/\(∀y l,bg y=some l->loc y=none->∃q ρ τ,q∈d/\loc q=some (r,ρ)/\ρ.length=k/\l=(r,ρ++[f.id]++τ))/\(qd bg->∀q∈d,∀ρ e U,loc q=some (r,ρ)->fF S T R.steps (R.hs,R.vs) ρ=some e->S.mt sc.c e.1 e.2 f=some U->iL S T bg r (ρ++[f.id]) (R.steps.drop (k+1)) U)) (λ(d,_)=>M+1-d.length) ?_ N ([],s) ⟨List.nodup_nil,(λq hq=>by cases hq),loc,h,kz.refl _,(λy l h1 h2=>by rw[h1]at h2;cases h2),λ_ q hq=>by cases hq⟩ (by show M+1-0<N;omega);rintro⟨d,σ⟩ ag ⟨kp,mG,da,jb,yW,Cd,yV⟩ fa;dsimp only at kp mG fa⊢;refine Ph (λef=>?_) λq hq EU=>?_
  ·refine hQ da σ jb yW (λy l h1 h2=>?_) λfS q ρ e U hq R1=>yV fS q (ef q ((b6 q).2 ⟨⟨ρ,hq,R1⟩,ax⟩)) ρ e U hq;obtain⟨q,ρ,τ,_,e2⟩:=Cd y l h1 h2;exact⟨q,ρ,τ,e2⟩
  ·obtain ⟨⟨ρ,gC,gZ⟩,_⟩:=(b6 q).1 hq;have GC:=yW _ _ gC;obtain⟨v,hv⟩:=Xt hq;refine Qi hv ?_;obtain⟨R',z,r1,r2,r3,r4⟩:=jb.gPart GC;rw[hr]at r1;cases r1;have oF:=r4.env
   have NG:d.length<M+1:=by
    have:=I5 (l:=L) (List.nodup_cons.2 ⟨EU,kp⟩) λw hw=>by
      have:w∈x.parts.keys:=by
        rcases List.mem_cons.1 hw with rfl|hw;· exact hq
        · exact mG w hw
      obtain⟨⟨π,e1,_⟩,_⟩:=(b6 w).1 this;exact TI w π e1
    simp only[List.length_cons]at this;omega
   have Di:(d++[q]).Nodup:=List.nodup_append.2 ⟨kp,ax,λy hy w hw e1=>EU (by simp at hw;rw[<-hw,<-e1];exact hy)⟩
   have Dh:∀w∈d++[q],w∈x.parts.keys:=λw hw=>by
    rcases List.mem_append.1 hw with hw|hw;· exact mG w hw
    · rw[List.mem_singleton.1 hw];exact hq
   refine QS ?_;show Xf N (Hl N) a q f.id f.ty f.args σ _;refine R9 hW hlen an hr hk bw Gz (Oe (S:=S) (I:=I) (B:=B) hW hlen hT hD hr cn (R.steps.length-(k+1)) (k+1) an (λfg ZH=>hB1 fg an) N an) jb GC gZ oF (hI _ _ oF) hf (λy hy=>?_) (λk' df _ hs=>hZ k' df hs) λeu s2 iN iq mI uj=>?_
   ·cases hl:loc y with
    |some l=>have:=yW _ _ hl;rw[hy]at this;cases this;exact mJ y ρ gZ hl
    | none=>
      obtain⟨q',ca,τ,e0,e1,e2,e3⟩:=Cd y _ hy hl;simp only[Prod.mk.injEq,true_and]at e3
      have h5:ρ=ca:=by
        have:=congrArg (List.take k) e3;rw[List.take_append_of_le_length an,List.append_assoc,List.take_append_of_le_length an,List.take_of_length_le an,List.take_of_length_le an]at this;exact this
      rw[<-h5]at e1;exact EU (by rw[h.inj _ _ _ gC e1];exact e0)
   ·refine fa (d++[q],s2) ⟨Di,Dh,eu,iN,yW.trans iq,λy l h1 h2=>?_,λfS q' dW ca e U e1 e2 e3=>?_⟩ (by show M+1-(d++[q]).length<M+1-d.length;simp only[List.length_append,List.length_cons,List.length_nil];omega)
    · cases hy:da y with
      | some l'=>
        have:=iq _ _ hy;rw[h1]at this;cases this;obtain⟨q',ca,τ,e0,e1⟩:=Cd y l hy h2;exact⟨q',ca,τ,List.mem_append_left _ e0,e1⟩
      | none=>
        obtain⟨τ,e1⟩:=mI y l h1 hy;exact⟨q,ρ,τ,ax,gC,gZ,e1⟩
    · rcases List.mem_append.1 dW with dW|dW;· exact(yV (Xw jb.cnt iq fS iN.cnt) q' dW ca e U e1 e2 e3).mono iq
      · rw[List.mem_singleton.1 dW,gC]at e1;cases e1;rw[oF]at e2;cases e2;exact uj fS U e3
end
end
section
open Go Go.RowKit Classical
section
variable {S:fh} {I:ew->Prop} {C:fC} {T:bx} {Ta:Nat->bx} {B:Nat->List Int->bx×bx} {Zo:Nat->Prop} {cj:Option Nat} {loc:Loc} {s:Q8} {D:List Int}
theorem Inv.congrTa {Tb:Nat->bx} (h:Inv S C T Ta B Zo cj loc s)(hg:Tb C.g=Ta C.g)(ha:∀A∈C.als,Tb A.b=Ta A.b):Inv S C T Tb B Zo cj loc s:=by
 refine⟨?_,h.row,h.step,λA U=>by rw[ha A U];exact h.al A U,h.part,h.inj,h.root,h.le⟩;obtain⟨x,a1,a2,a3,a4,a5,a6,a7,a8,n,a9,ig⟩:=h.net;exact⟨x,a1,a2,a3,a4,a5,a6,a7,by rw[hg];exact a8,n,a9,ig⟩
theorem Inv.setNet {Tb:bx} {x:fo} {fm:MS Int Qq} (h:Inv S C T Ta B Zo cj loc s)(hx:s C.g=some (.net x))(hn:fm.keys.Nodup)(hl:∀i,fm.look i=Tb i):Inv S C T (λb=>if b=C.g then Tb else Ta b) B Zo cj loc (cq s C.g (.net {x with facts:=fm})):=by
 have ne:∀b o',s b=some o'->(∀z,o'≠.net z)->cq s C.g (.net {x with facts:=fm}) b=some o':=λb o' hb c1=>by
  rw[QC (λe=>by rw[e,hx]at hb;cases hb;exact c1 _ rfl)];exact hb
 refine⟨?_,?_,?_,?_,?_,h.inj,h.root,h.le⟩
 ·obtain⟨y,U,a2,a3,a4,a5,a6,a7,a8,n,a9,ig⟩:=h.net;rw[hx]at U;cases U;exact⟨_,iQ _ _ _,a2,a3,a4,a5,a6,a7,⟨hn,λi=>by rw[hl];show Tb i=(if C.g=C.g then Tb else Ta C.g) i;rw[if_pos rfl]⟩,n,a9,ig⟩
 ·intro r' R' cy;obtain⟨y,U,a2⟩:=h.row r' R' cy;exact⟨y,ne _ _ U (λ_ e=>by cases e),a2⟩
 ·intro r' R' k' df cy dy xW;have h1:=h.step r' R' k' df cy dy xW;unfold im at h1⊢;split at h1;· obtain⟨y,c1,c2⟩:=h1;exact⟨y,ne _ _ c1 (λ_ e=>by cases e),c2⟩
  · obtain⟨y,c1,c2⟩:=h1;exact⟨y,ne _ _ c1 (λ_ e=>by cases e),c2⟩
  · obtain⟨y,c1,c2⟩:=h1;exact⟨y,ne _ _ c1 (λ_ e=>by cases e),c2⟩
 ·intro A hA;obtain⟨y,U,a2⟩:=h.al A hA;refine⟨y,ne _ _ U (λ_ e=>by cases e),?_⟩;show _/\_/\_/\∀i,y.facts.look i=((if A.b=C.g then Tb else Ta A.b) i).filter (hasB A);rw[if_neg (λe=>by rw[e,hx]at U;cases U)];exact a2
 ·intro q r' ρ hl;obtain⟨R',y,U,a2,a3⟩:=h.part q r' ρ hl;exact⟨R',y,U,ne _ _ a2 (λ_ e=>by cases e),a3⟩
theorem Inv.setAlpha {Tb:bx} {A:HT} {x:M3} {fm:MS Int Qq} (h:Inv S C T Ta B Zo cj loc s)(hA:A∈C.als)(hx:s A.b=some (.alpha x))(hn:fm.keys.Nodup)(hl:∀i,fm.look i=(Tb i).filter (hasB A)):Inv S C T (λb=>if b=A.b then Tb else Ta b) B Zo cj loc (cq s A.b (.alpha {x with facts:=fm})):=by
 have ne:∀b o',s b=some o'->(∀z,o'≠.alpha z)->cq s A.b (.alpha {x with facts:=fm}) b=some o':=λb o' hb c1=>by
  rw[QC (λe=>by rw[e,hx]at hb;cases hb;exact c1 _ rfl)];exact hb
 refine⟨?_,?_,?_,?_,?_,h.inj,h.root,h.le⟩
 ·obtain⟨y,U,a2,a3,a4,a5,a6,a7,a8,n,a9,ig⟩:=h.net;refine⟨y,ne _ _ U (λ_ e=>by cases e),a2,a3,a4,a5,a6,a7,?_,n,a9,ig⟩;show _/\∀i,y.facts.look i=(if C.g=A.b then Tb else Ta C.g) i;rw[if_neg (λe=>by rw[e,hx]at U;cases U)];exact a8
 ·intro r' R' cy;obtain⟨y,U,a2⟩:=h.row r' R' cy;exact⟨y,ne _ _ U (λ_ e=>by cases e),a2⟩
 ·intro r' R' k' df cy dy xW;have h1:=h.step r' R' k' df cy dy xW;unfold im at h1⊢;split at h1;· obtain⟨y,c1,c2⟩:=h1;exact⟨y,ne _ _ c1 (λ_ e=>by cases e),c2⟩
  · obtain⟨y,c1,c2⟩:=h1;exact⟨y,ne _ _ c1 (λ_ e=>by cases e),c2⟩
  · obtain⟨y,c1,c2⟩:=h1;exact⟨y,ne _ _ c1 (λ_ e=>by cases e),c2⟩
 ·intro A' uH;obtain⟨y,U,a2,a3,a4,a5⟩:=h.al A' uH;obtain⟨x',b1,b2,b3,_⟩:=h.al A hA;rw[hx]at b1;cases b1;by_cases e:A'.b=A.b
  ·rw [e,hx]at U;cases U;refine⟨{x with facts:=fm},(by rw[e,iQ]),a2,a3,hn,λi=>?_⟩;show fm.look i=((if A'.b=A.b then Tb else Ta A'.b) i).filter (hasB A');rw[if_pos e,hl]
   have:hasB A'=hasB A:=by
    funext f;unfold hasB;rw[<-a2,<-a3,<-b2,<-b3]
   rw[this]
  ·refine⟨y,(by rw[QC e];exact U),a2,a3,a4,?_⟩;show∀i,y.facts.look i=((if A'.b=A.b then Tb else Ta A'.b) i).filter (hasB A');rw[if_neg e];exact a5
 ·intro q r' ρ hl;obtain⟨R',y,U,a2,a3⟩:=h.part q r' ρ hl;exact⟨R',y,U,ne _ _ a2 (λ_ e=>by cases e),a3⟩
end
end
section
open Go Go.RowKit Classical
section
variable {S:fh} {I:ew->Prop} {C:fC} {T T':bx} {Ta:Nat->bx} {B:Nat->List Int->bx×bx} {Zo:Nat->Prop} {cj:Option Nat} {loc:Loc} {s:Q8} {D:List Int}
def xi (T T':bx):Prop:=∀i f,T i=some f->T' i=some f
theorem Kq {sc:eM} {e U:ew} {i:Int} (hs:xi T T')(h:fU S T sc e i=some U):fU S T' sc e i=some U:=by
 unfold fU at h⊢;split at h
 ·cases hT:T i with
  |none=>rw[hT]at h;cases h
  |some f=>rw[hT]at h;rw[hs i f hT];exact h
 · exact h
 · exact h
theorem sw (hs:xi T T'):∀{π:List Int} {l:List eM} {e U:ew},fF S T l e π=some U->fF S T' l e π=some U
 |[],l,e,U,h=>by cases l<;>exact h
 |i::π,[],e,U,h=>by cases h
 | i ::π,sc::l,e,U,h=>by
   simp only[fF]at h⊢;cases h1:fU S T sc e i with
   |none=>rw[h1]at h;cases h
   | some e1=>
     rw[h1]at h;rw[Kq hs h1];exact sw hs h
theorem zH {id:Int} (hd:∀i,i≠id->T' i=T i):∀{π:List Int} {l:List eM} {e:ew},id∉π->fF S T' l e π=fF S T l e π
 |[],l,e,_=>by cases l<;>rfl
 |i::π,[],e,_=>rfl
 | i::π,sc::l,e,h=>by
   have hi:i≠id:=λU=>h (by rw[U];simp);have je:id∉π:=λU=>h (List.mem_cons_of_mem _ U)
   have h1:fU S T' sc e i=fU S T sc e i:=by
    unfold fU;split;· rw[hd i hi]
    · rfl
    · rfl
   simp only[fF,h1];cases fU S T sc e i with
   |none=>rfl
   |some U=>exact zH hd je
theorem Inv.congrT (h:Inv S C T Ta B Zo cj loc s)(hT:∀p r π R e,loc p=some (r,π)->C.rows[r]? =some R->fF S T R.steps (R.hs,R.vs) π=some e->fF S T' R.steps (R.hs,R.vs) π=some e):Inv S C T' Ta B Zo cj loc s:=by
 refine⟨h.net,h.row,h.step,h.al,λp r π hp=>?_,h.inj,h.root,h.le⟩;obtain⟨R,x,U,a2,a3⟩:=h.part p r π hp;exact⟨R,x,U,a2,⟨hT p r π R _ hp U a3.env,a3.top,a3.up,a3.kids,a3.blocks,a3.free,a3.kn⟩⟩
theorem Uv {sc:eM} {e U:ew} {i:Int} (cn:wR S I C T sc)(hD:iy T D)(hI:I e)(h:fU S T sc e i=some U):I U:=by
 unfold fU at h;cases bw:sc.st with
 | join a=>
   rw[bw]at h;simp only at h;cases hT:T i with
   |none=>rw[hT]at h;cases h
   | some f=>
     rw[hT]at h;obtain⟨_,_,_,h2⟩:=cn.mt (λa' e1=>by rw[bw]at e1;cases e1) B0 (Nat.le_refl _) f (by rw[(hD.mem i f hT).2.1];exact hT) e hI;exact(h2 U h).2
 | nt a=>
   rw[bw]at h;simp only at h;split at h;· cases h;exact hI
   · cases h
 | test a=>
   rw[bw]at h;simp only at h;split at h;· cases h;exact hI
   · cases h
theorem IQ (hD:iy T D):∀{π:List Int} {l:List eM} {e U:ew},(∀sc∈l,wR S I C T sc)->I e->fF S T l e π=some U->I U
 | [],l,e,U,_,hI,h=>by
   have:e=U:=by cases l<;>exact Option.some.inj h
   rw[<-this];exact hI
 |i::π,[],e,U,_,_,h=>by cases h
 | i ::π,sc::l,e,U,cn,hI,h=>by
   simp only[fF]at h;cases h1:fU S T sc e i with
   |none=>rw[h1]at h;cases h
   | some e1=>
     rw[h1]at h;exact IQ hD (λdf h'=>cn df (List.mem_cons_of_mem _ h')) (Uv (cn sc ax) hD hI h1) h
def wH (S:fh)(C:fC)(T:bx)(loc:Loc):Prop:=∀(r:Nat)(R:eQ),C.rows[r]? =some R->iL S T loc r [] R.steps (R.hs,R.vs)
theorem M0:∀{π:List Int} {l:List eM} {e U:ew},fH S T l e π=some U->fF S T l e π=some U
 |[],l,e,U,h=>by cases l<;>exact h
 |i::π,[],e,U,h=>by cases h
 | i :: π,sc::l,e,U,h=>by
   simp only[fH]at h;simp only[fF];cases h1:iY S T sc e i with
   |none=>rw[h1]at h;cases h
   | some e1=>
     rw[h1]at h
     have:fU S T sc e i=some e1:=by
      unfold iY at h1;unfold fU;cases bw:sc.st with
      |join a=>rw[bw]at h1;exact h1
      | nt a=>
        rw[bw]at h1;simp only at h1⊢;split at h1;· rename_i hh;rw[if_pos hh.1];exact h1
        · cases h1
      |test a=>rw[bw]at h1;exact h1
     rw[this];exact M0 h
theorem Pf:∀{π U:List Int} {l:List eM} {e:ew},fH S T l e (π++U)=(fH S T l e π).bind λe'=>fH S T (l.drop π.length) e' U
 |[],U,l,e=>by cases l<;>simp[fH]
 |i::π,U,[],e=>by simp[fH]
 | i::π,U,sc::l,e=>by
   simp only[List.cons_append,fH,List.length_cons,List.drop_succ_cons];cases iY S T sc e i with
   |none=>rfl
   |some e1=>simp only[Option.bind_some];exact Pf
end
end
section
open Go Go.RowKit Classical
section
variable {S:fh} {I:ew->Prop} {C:fC} {T T':bx} {Ta:Nat->bx} {B:Nat->List Int->bx×bx} {cj:Option Nat} {loc:Loc} {s:Q8} {D:List Int}
theorem ov:∀{π:List Int} {l:List eM} {e U:ew} {k:Nat} {sc:eM} {j:Int},fF S T l e π=some U->l[k]? =some sc->(∀a,sc.st≠.join a)->π[k]? =some j->j=0
 |[],l,e,U,k,sc,j,_,_,_,h=>by simp at h
 |i::π,[],e,U,k,sc,j,h,_,_,_=>by cases h
 | i ::π,df::l,e,U,0,sc,j,h,hk,hn,hj=>by
   simp only[List.getElem?_cons_zero,Option.some.injEq]at hk hj;subst hk;subst hj;simp only[fF]at h;cases h1:fU S T df e i with
   |none=>rw[h1]at h;cases h
   | some e1=>
     unfold fU at h1;cases bw:df.st with
     |join a=>exact absurd bw (hn a)
     | nt a=>
       rw[bw]at h1;simp only at h1;split at h1;· assumption
       · cases h1
     | test a=>
       rw[bw]at h1;simp only at h1;split at h1;· rename_i hh;exact hh.1
       · cases h1
 | i::π,df::l,e,U,k+1,sc,j,h,hk,hn,hj=>by
   simp only[List.getElem?_cons_succ]at hk hj;simp only[fF]at h;cases h1:fU S T df e i with
   |none=>rw[h1]at h;cases h
   |some e1=>rw[h1]at h;exact ov h hk hn hj
theorem Nu {N M:Nat} {id:Int} {Q:Q8->Prop} (hW:oi C)(hlen:C.rows.length<=9223372036854775806)(hsl:∀R∈C.rows,R.steps.length<9223372036854775807/\M+R.steps.length+R.steps.length+2<N)(hM:M<4398046511103)(hid:id≠0)
  (h:Inv S C T Ta B (λ_=>False) none loc s) (hc:∀n,hY loc n->n<=M) (hQ:∀bg s',Inv S C T Ta B (λ_=>False) none bg s'->(∀y l,bg y=some l↔loc y=some l/\id∉l.2)->Q s'):Ep (λst σ=>VB N st id σ) C.g s Q:=by
 obtain⟨n0,PT⟩:=h.cnt
 have eX:∀y r π,loc y=some (r,π)->∃R,C.rows[r]? =some R/\π.length<=R.steps.length:=λy r π hy=>by
  obtain⟨R,x,a1,_,a3⟩:=h.part y r π hy;exact⟨R,a1,my a3.env⟩
 refine xC (E:=λr σ=>∃bg,Inv S C T Ta B (λ_=>False) none bg σ/\∀y l,bg y=some l↔loc y=some l/\¬(l.1<r/\id∈l.2)) (J:=λr m σ=>∃bg,Inv S C T Ta B (λ_=>False) none bg σ/\∀y l,bg y=some l↔loc y=some l/\¬((l.1<r/\id∈l.2)\/(l.1=r/\∃k,m<=k/\l.2[k]? =some id))) hlen (λR hR=>by have:=(hsl R hR).1;omega) (λr σ ⟨_,h1,_⟩=>h1.shape) (λr m σ ⟨_,h1,_⟩=>h1.shape) (λr R σ hr ⟨da,h1,h2⟩=>⟨da,h1,λy l=>?_⟩) (λr R m sc σ Q' hr ⟨da,h1,h2⟩ eE JB=>?_) (λr σ ⟨da,h1,h2⟩=>⟨da,h1,λy l=>?_⟩) ⟨loc,h,λy l=>⟨λhy=>⟨hy,λhh=>absurd hh.1 (Nat.not_lt_zero _)⟩,λhy=>hy.1⟩⟩ (λσ ⟨da,h1,h2⟩=>hQ da σ h1 λy l=>?_)
 ·rw[h2];constructor
  · rintro⟨e1,e2⟩;refine⟨e1,λU=>?_⟩;rcases U with U|⟨U,k,e4,e5⟩
    · exact e2 U
    ·obtain⟨R',q1,q2⟩:=eX y l.1 l.2 e1;rw[U,hr]at q1;cases q1;have:=(List.getElem?_eq_some_iff.1 e5).1;omega
  · rintro⟨e1,e2⟩;exact⟨e1,λU=>e2 (.inl U)⟩
 ·have oE:=List.mem_of_getElem? hr;obtain⟨GG,GH⟩:=hsl R oE
  have tk:(∀a,sc.st≠.join a)->Q' σ:=λhn=>JB σ ⟨da,h1,λy l=>by
    rw[h2];constructor
    ·rintro⟨e1,e2⟩;refine⟨e1,λU=>?_⟩;rcases U with U|⟨U,k,e4,e5⟩
     · exact e2 (.inl U)
     ·by_cases hk:k=m
      ·subst hk;obtain⟨R',x,a1,_,a3⟩:=h.part y l.1 l.2 e1;rw[U,hr]at a1;cases a1;exact hid (ov a3.env eE hn e5)
      · exact e2 (.inr ⟨U,k,an,e5⟩)
    ·rintro⟨e1,e2⟩;refine⟨e1,λU=>e2 ?_⟩;rcases U with U|⟨U,k,e4,e5⟩
     · exact .inl U
     · exact .inr ⟨U,k,an,e5⟩⟩
  cases bw:sc.st with
  | join a=>
    refine jQ (QS ?_);refine Ax hW hr eE bw GG hM GH (λ_ _ _ hz=>hz) h1 (λn hn=>Nat.le_trans (hn.mono PT λy l hy=>((h2 y l).1 hy).1) (hc _ PT)) λeu s2 iN xQ=>?_;refine JB s2 ⟨eu,iN,λy l=>?_⟩;rw[xQ,h2];constructor
    ·rintro⟨⟨e1,e2⟩,U⟩;refine⟨e1,λe4=>?_⟩;rcases e4 with e4|⟨e4,k,e5,e6⟩
     · exact e2 (.inl e4)
     ·by_cases hk:k=m;· subst hk;exact U ⟨e4,e6⟩
      · exact e2 (.inr ⟨e4,k,an,e6⟩)
    ·rintro⟨e1,e2⟩;refine⟨⟨e1,λU=>e2 ?_⟩,λU=>e2 (.inr ⟨U.1,m,Nat.le_refl _,U.2⟩)⟩;rcases U with U|⟨U,k,e4,e5⟩
     · exact .inl U
     · exact .inr ⟨U,k,an,e5⟩
  |nt a=>exact jR (tk λa' e=>by rw[bw]at e;cases e)
  |test a=>exact jS (tk λa' e=>by rw[bw]at e;cases e)
 ·rw [h2]
  have key:(l.1<r+1/\id∈l.2)↔((l.1<r/\id∈l.2)\/(l.1=r/\∃k,0<=k/\l.2[k]? =some id)):=by
    constructor
    ·rintro⟨e1,e2⟩;by_cases hh:l.1<r;· exact .inl ⟨hh,e2⟩
     ·obtain⟨k,hk⟩:=List.mem_iff_getElem?.1 e2;exact .inr ⟨an,k,Nat.zero_le _,hk⟩
    ·rintro(⟨e1,e2⟩|⟨e1,k,_,e2⟩);· exact⟨an,e2⟩
     · exact⟨an,List.mem_of_getElem? e2⟩
  rw[key]
 ·rw[h2];constructor
  · rintro⟨e1,e2⟩;refine⟨e1,λU=>e2 ⟨?_,U⟩⟩;obtain⟨R,q1,_⟩:=eX y l.1 l.2 e1;exact(List.getElem?_eq_some_iff.1 q1).1
  · rintro⟨e1,e2⟩;exact⟨e1,λU=>e2 U.2⟩
end
end
section
open Go Go.RowKit Classical
section
variable {S:fh} {I:ew->Prop} {C:fC} {T T0:bx} {Ta:Nat->bx} {B:Nat->List Int->bx×bx} {cj:Option Nat} {loc:Loc} {s:Q8} {D:List Int}
def HV (S:fh)(T T0:bx)(id:Int)(R:eQ)(π:List Int)(k:Nat):Prop:=k<π.length/\∃sc a e,R.steps[k]? =some sc/\sc.st=.nt a/\fF S T R.steps (R.hs,R.vs) (π.take k)=some e/\jG S sc e T0 id
noncomputable def bE (T T0:bx)(r:Nat):Nat->List Int->bx×bx:=λU _=>if U<r then(T,T)else(T0,T0)
noncomputable def bJ (T T0:bx)(r m:Nat):Nat->List Int->bx×bx:=λU π=>if U<r\/(U=r/\m<=π.length)then(T,T)else(T0,T0)
theorem Nv {N:Nat} {id:Int} {Q:Q8->Prop} (hW:oi C) (hT:iy T D) (hD:D.length<=3518437208882) (hlen:C.rows.length<=9223372036854775806) (hsl:∀R∈C.rows,R.steps.length<9223372036854775807/\B0+D.length+R.steps.length+2<N) (YJ:4099<N) (cn:∀R∈C.rows,∀sc∈R.steps,wR S I C T sc) (hI:∀R∈C.rows,∀π e,fF S T R.steps (R.hs,R.vs) π=some e->I e)
  (hid:T id=none) (Nz:∀i,i≠id->T0 i=T i)
  (h:Inv S C T (λ_=>T) (λ_ _=>(T0,T0)) (λ_=>False) none loc s) (hP:∀(r:Nat) (R:eQ) (π:List Int),C.rows[r]? =some R->fH S T R.steps (R.hs,R.vs) π≠none->(∀k,¬HV S T T0 id R π k)->∃y,loc y=some (r,π))
  (hQ:∀bg s',Inv S C T (λ_=>T) (λ_ _=>(T,T)) (λ_=>False) none bg s'->kz loc bg->(qd bg->wH S C T bg)->Q s'):Ep (λst σ=>VC N st id σ) C.g s Q:=by
 have bq:∀(B:Nat->List Int->bx×bx) (bg:Loc) (σ:Q8),Inv S C T (λ_=>T) B (λ_=>False) none bg σ->∀y r π,bg y=some (r,π)->r<C.rows.length:=λB bg σ h' y r π hy=>by
  obtain⟨R,x,a1,_⟩:=h'.part y r π hy;exact(List.getElem?_eq_some_iff.1 a1).1
 refine xC (E:=λr σ=>∃bg,Inv S C T (λ_=>T) (bE T T0 r) (λ_=>False) none bg σ/\kz loc bg/\(qd bg->∀(U:Nat) (R:eQ),U<r->C.rows[U]? =some R->iL S T bg U [] R.steps (R.hs,R.vs)))
  (J:=λr m σ=>∃bg,Inv S C T (λ_=>T) (bJ T T0 r m) (λ_=>False) none bg σ/\kz loc bg/\(qd bg->(∀(U:Nat) (R:eQ),U<r->C.rows[U]? =some R->iL S T bg U [] R.steps (R.hs,R.vs))/\∀(R:eQ) (π:List Int),C.rows[r]? =some R->fH S T R.steps (R.hs,R.vs) π≠none->(∀k,k<m->¬HV S T T0 id R π k)->∃y,bg y=some (r,π)))
  hlen (λR hR=>by have:=(hsl R hR).1;omega) (λr σ ⟨_,h1,_⟩=>h1.shape) (λr m σ ⟨_,h1,_⟩=>h1.shape) (λr R σ hr ⟨da,h1,h2,h3⟩=>⟨da,?_,h2,λfS=>⟨h3 fS,λR' π cy hi hb=>?_⟩⟩) (λr R m sc σ Q' hr ⟨da,h1,h2,h3⟩ eE JB=>?_) (λr σ ⟨da,h1,h2,h3⟩=>⟨da,h1.congrB (λp U π hp=>?_),h2,λfS U R cy hR=>?_⟩) ⟨loc,h.congrB (λp U π _=>if_neg (Nat.not_lt_zero _)),kz.refl _,λ_ U R cy=>absurd cy (Nat.not_lt_zero _)⟩ (λσ ⟨da,h1,h2,h3⟩=>hQ da σ (h1.congrB λp U π hp=>(if_pos (bq _ _ _ h1 p U π hp)).symm) h2 λfS U R hR=>h3 fS U R (List.getElem?_eq_some_iff.1 hR).1 hR)
 ·
  refine h1.congrK λp U π R' x sc a hp cy hx he q1 q2 i=>?_;unfold bJ bE;by_cases hh:U<r;· rw[if_pos (.inl hh),if_pos hh];exact⟨Iff.rfl,λh=>h⟩
  ·rw[if_neg hh,if_neg];· exact⟨Iff.rfl,λh=>h⟩
   · rintro(e|⟨e1,e2⟩);· exact hh e
     ·rw[e1,hr]at cy;cases cy;have:=(List.getElem?_eq_some_iff.1 q1).1;omega
 ·rw [hr]at cy;cases cy
  obtain ⟨y,hy⟩:=hP r R π hr hi λk hk=>by
   obtain⟨e1,sc,a,e,e2,_⟩:=hk;exact hb k (List.getElem?_eq_some_iff.1 e2).1 ⟨e1,sc,a,e,e2,by assumption⟩
  exact⟨y,h2 _ _ hy⟩
 ·
  have oE:=List.mem_of_getElem? hr;obtain⟨GG,GH⟩:=hsl R oE;have AG:(∀a,sc.st≠.nt a)->Q' σ:=λhn=>JB σ ⟨da,h1.congrK λp U π R' x df a hp cy hx he q1 q2 i=>?_,h2,λfS=>⟨(h3 fS).1,λR' π cy hi hb=>(h3 fS).2 R' π cy hi λk hk Md=>?_⟩⟩
  ·cases bw:sc.st with
   |join a=>exact jQ (QS (AG λa' e=>by rw[bw]at e;cases e))
   |test a=>exact jS (QS (AG λa' e=>by rw[bw]at e;cases e))
   | nt a =>
     refine jR (QS ?_);refine DC (I:=I) (M:=4097) hW hT hD hr eE bw GG (cn R oE) (hI R oE) GH an (λ_ _ _ hz=>hz) hid Nz (λπ je=>?_) (λπ je=>?_) h1 h1.le λeu s2 iN iq mI uj=>?_
     ·unfold bJ;rw[if_neg];rintro(e|⟨_,e⟩);· exact Nat.lt_irrefl _ e
      · omega
     ·unfold bJ;exact if_pos (.inr ⟨rfl,an⟩)
     ·refine JB s2 ⟨eu,iN.congrB (λp U π hp=>?_),h2.trans iq,λfS=>?_⟩
      ·unfold nk bJ;by_cases hh:U=r/\π.length=m;· rw[if_pos hh,if_pos (.inr ⟨hh.1,an⟩)]
       ·rw [if_neg hh];by_cases h5:U<r\/(U=r/\m+1<=π.length)
        · rw[if_pos h5,if_pos];rcases h5 with e|⟨e1,e2⟩
          · exact .inl e
          · exact .inr ⟨e1,an⟩
        · rw[if_neg h5,if_neg];rintro(e|⟨e1,e2⟩);· exact h5 (.inl e)
          ·by_cases h6:π.length=m;· exact hh ⟨e1,h6⟩
           · exact h5 (.inr ⟨e1,an⟩)
      ·have U2:=Xw h1.cnt iq fS iN.cnt;obtain⟨h4,h5⟩:=h3 U2;refine⟨λU R' cy Ny=>(h4 U R' cy Ny).mono iq,λR' π cy hi hb=>?_⟩;rw[hr]at cy;cases cy;by_cases Dc:HV S T T0 id R π m
       ·obtain⟨e1,df,a',e,e2,e3,e4,e5⟩:=Dc;rw[eE]at e2;cases e2;have sZ:π=π.take m++π.drop m:=(List.take_append_drop m π).symm;have JS:(π.take m).length=m:=by simp;omega
        have gI:fH S T R.steps (R.hs,R.vs) (π.take m++π.drop m)≠none:=by rw[<-sZ];exact hi
        rw[Pf]at gI;cases fy:fH S T R.steps (R.hs,R.vs) (π.take m)with
        |none=>rw[fy]at gI;exact absurd rfl gI
        | some e'=>
          rw[fy,Option.bind_some,JS]at gI;have YU:e'=e:=by have:=M0 fy;rw[e4]at this;exact(Option.some.inj this).symm
          subst YU
          obtain ⟨q,hq⟩:=h5 R (π.take m) hr (by rw[fy];simp) λk hk Md=>by
           obtain⟨f1,sc2,a2,ee,f2,f3,f4,f5⟩:=Md;have hkm:k<m:=by rw[JS]at f1;exact f1
           refine hb k hkm ⟨an,sc2,a2,ee,f2,f3,?_,f5⟩;rw[List.take_take,Nat.min_eq_left an]at f4;exact f4
          obtain⟨y,hy⟩:=uj fS q (π.take m) e' hq JS e4 e5 (π.drop m) gI;exact⟨y,by rw[hy,<-sZ]⟩
       ·obtain⟨y,hy⟩:=h5 R π hr hi λk hk=>by
          by_cases h6:k=m;· rw[h6];exact Dc
          · exact hb k an
        exact⟨y,iq _ _ hy⟩
  ·unfold bJ;by_cases h5:U<r\/(U=r/\m+1<=π.length)
   · rw[if_pos h5,if_pos];· exact⟨Iff.rfl,λh=>h⟩
     ·rcases h5 with e|⟨e1,e2⟩
      · exact .inl e
      · exact .inr ⟨e1,an⟩
   · by_cases h6:U=r/\π.length=m
     ·obtain⟨rfl,h6⟩:=h6;rw[hr]at cy;cases cy;rw[h6,eE]at q1;cases q1;exact absurd q2 (hn a)
     ·rw [if_neg h5,if_neg];· exact⟨Iff.rfl,λh=>h⟩
      ·rintro(e|⟨e1,e2⟩);· exact h5 (.inl e)
       ·by_cases h7:π.length=m;· exact h6 ⟨e1,h7⟩
        · exact h5 (.inr ⟨e1,an⟩)
  ·rw[hr]at cy;cases cy;by_cases h6:k=m
   · subst h6;obtain⟨_,sc2,a2,_,f2,f3,_⟩:=Md;rw[eE]at f2;cases f2;exact hn a2 f3
   · exact hb k an Md
 ·unfold bJ bE;by_cases hh:U<r+1
  ·rw[if_pos hh,if_pos];by_cases h5:U<r;· exact .inl h5
   · exact .inr ⟨an,Nat.zero_le _⟩
  ·rw[if_neg hh,if_neg];rintro(e|⟨e,_⟩)<;>omega
 ·obtain ⟨h4,h5⟩:=h3 fS;by_cases hh:U<r;· exact h4 U R hh hR
  ·have:U=r:=an
   subst this;intro τ fT;obtain⟨y,hy⟩:=h5 R τ hR fT λk hk=>absurd hk (Nat.not_lt_zero _)
   exact⟨y,by simpa using hy⟩
end
end
section
open Go Go.RowKit Classical
section
variable {S:fh} {I:ew->Prop} {C:fC} {T T0:bx} {Ta:Nat->bx} {B:Nat->List Int->bx×bx} {cj:Option Nat} {loc:Loc} {s:Q8} {D:List Int}
def FR (S:fh)(T:bx)(f:Qq)(R:eQ)(π:List Int)(k:Nat):Prop:=k<π.length/\∃sc a e,R.steps[k]? =some sc/\sc.st=.nt a/\fF S T R.steps (R.hs,R.vs) (π.take k)=some e/\(S.mt sc.c e.1 e.2 f).isSome=true
theorem N6 {N:Nat} {f:Qq} {Q:Q8->Prop} (hW:oi C) (hlen:C.rows.length<=9223372036854775806) (hsl:∀R∈C.rows,R.steps.length<9223372036854775807/\4097+R.steps.length+R.steps.length+2<N) (hN0:B0<=N) (cn:∀R∈C.rows,∀sc∈R.steps,wR S I C T sc) (hI:∀R∈C.rows,∀π e,fF S T R.steps (R.hs,R.vs) π=some e->I e)
  (hA:∀A∈C.als,A.args.length<N/\A.args.length<9223372036854775807/\(f.ty=A.kind->∀(j:Nat) (a:eN),A.args[j]? =some a->∃v,f.args[j]? =some v)) (hf:T f.id=some f) (Mh:T0 f.id=none) (Nz:∀i,i≠f.id->T0 i=T i)
  (h:Inv S C T Ta (λ_ _=>(T0,T0)) (λ_=>False) none loc s)
  (hQ:∀bg s',Inv S C T Ta (λ_ _=>(T,T)) (λ_=>False) none bg s'->(∀y r π,bg y=some (r,π)↔loc y=some (r,π)/\¬∃R k,C.rows[r]? =some R/\FR S T f R π k)->Q s'):Ep (λst σ=>Vz N st f.id f.ty f.args σ) C.g s Q:=by
 have bq:∀(B:Nat->List Int->bx×bx) (bg:Loc) (σ:Q8),Inv S C T Ta B (λ_=>False) none bg σ->∀y r π,bg y=some (r,π)->r<C.rows.length:=λB bg σ h' y r π hy=>by
  obtain⟨R,x,a1,_⟩:=h'.part y r π hy;exact(List.getElem?_eq_some_iff.1 a1).1
 refine xC (E:=λr σ=>∃bg,Inv S C T Ta (bE T T0 r) (λ_=>False) none bg σ/\∀y U π,bg y=some (U,π)↔loc y=some (U,π)/\¬(U<r/\∃R k,C.rows[U]? =some R/\FR S T f R π k))
  (J:=λr m σ=>∃bg,Inv S C T Ta (bJ T T0 r m) (λ_=>False) none bg σ/\∀y U π,bg y=some (U,π)↔loc y=some (U,π)/\¬∃R k,C.rows[U]? =some R/\FR S T f R π k/\(U<r\/(U=r/\m<=k)))
  hlen (λR hR=>by have:=(hsl R hR).1;omega) (λr σ ⟨_,h1,_⟩=>h1.shape) (λr m σ ⟨_,h1,_⟩=>h1.shape) (λr R σ hr ⟨da,h1,h2⟩=>⟨da,?_,λy U π=>?_⟩) (λr R m sc σ Q' hr ⟨da,h1,h2⟩ eE JB=>?_) (λr σ ⟨da,h1,h2⟩=>⟨da,h1.congrB (λp U π hp=>?_),λy U π=>?_⟩) ⟨loc,h.congrB (λp U π _=>if_neg (Nat.not_lt_zero _)),λy U π=>⟨λhy=>⟨hy,λhh=>absurd hh.1 (Nat.not_lt_zero _)⟩,λhy=>hy.1⟩⟩ (λσ ⟨da,h1,h2⟩=>hQ da σ (h1.congrB λp U π hp=>(if_pos (bq _ _ _ h1 p U π hp)).symm) λy U π=>?_)
 ·refine h1.congrK λp U π R' x sc a hp cy hx he q1 q2 i=>?_;unfold bJ bE;by_cases hh:U<r;· rw[if_pos (.inl hh),if_pos hh];exact⟨Iff.rfl,λh=>h⟩
  ·rw[if_neg hh,if_neg];· exact⟨Iff.rfl,λh=>h⟩
   · rintro(e|⟨e1,e2⟩);· exact hh e
     ·rw[e1,hr]at cy;cases cy;have:=(List.getElem?_eq_some_iff.1 q1).1;omega
 ·rw [h2];constructor
  ·rintro⟨e1,e2⟩;refine⟨e1,λ⟨R',k,e3,e4,e5⟩=>?_⟩;rcases e5 with e5|⟨e5,e6⟩
   · exact e2 ⟨e5,R',k,e3,e4⟩
   · rw[e5,hr]at e3;cases e3;obtain⟨_,sc,a,e,e7,_⟩:=e4;have:=(List.getElem?_eq_some_iff.1 e7).1;omega
  ·rintro⟨e1,e2⟩;exact⟨e1,λ⟨e3,R',k,e4,e5⟩=>e2 ⟨R',k,e4,e5,.inl e3⟩⟩
 ·have oE:=List.mem_of_getElem? hr;obtain⟨GG,GH⟩:=hsl R oE;have AG:(∀a,sc.st≠.nt a)->Q' σ:=λhn=>JB σ ⟨da,h1.congrK λp U π R' x df a hp cy hx he q1 q2 i=>?_,λy U π=>?_⟩
  ·cases bw:sc.st with
   |join a=>exact jQ (QS (AG λa' e=>by rw[bw]at e;cases e))
   |test a=>exact jS (QS (AG λa' e=>by rw[bw]at e;cases e))
   | nt a =>
     refine jR (QS ?_);refine AJ (I:=I) (M:=4097) hW hr eE bw GG (cn R oE sc (List.mem_of_getElem? eE)) (hI R oE) hN0 an GH hA (λ_ _ _ hz=>hz) hf Mh Nz (λπ je=>?_) h1 h1.le λeu s2 iN xQ=>?_
     ·unfold bJ;rw[if_neg];rintro(e|⟨_,e⟩);· exact Nat.lt_irrefl _ e
      · omega
     ·refine JB s2 ⟨eu,iN.congrB (λp U π hp=>?_),λy U π=>?_⟩
      ·unfold nk bJ;by_cases hh:U=r/\π.length=m;· rw[if_pos hh,if_pos (.inr ⟨hh.1,an⟩)]
       ·rw [if_neg hh];by_cases h5:U<r\/(U=r/\m+1<=π.length)
        ·rw[if_pos h5,if_pos];rcases h5 with e|⟨e1,e2⟩
         · exact .inl e
         · exact .inr ⟨e1,an⟩
        ·rw [if_neg h5,if_neg];rintro(e|⟨e1,e2⟩);· exact h5 (.inl e)
         ·by_cases h6:π.length=m;· exact hh ⟨e1,h6⟩
          · exact h5 (.inr ⟨e1,an⟩)
      ·rw [xQ,h2];constructor
       ·rintro⟨⟨e1,e2⟩,e3⟩;refine⟨e1,λ⟨R',k,e4,e5,e6⟩=>?_⟩;by_cases hk:U=r/\k=m
        ·obtain⟨rfl,rfl⟩:=hk;rw[hr]at e4;cases e4;obtain⟨f1,sc2,a2,e,f2,f3,f4,f5⟩:=e5;rw[eE]at f2;cases f2;have Uf:da y=some (U,π.take k++π.drop k):=by rw[List.take_append_drop];exact(h2 y U π).2 ⟨e1,e2⟩
         obtain⟨q,hq⟩:=h1.pre _ _ y rfl Uf;refine e3 ⟨q,π.take k,e,hq,by simp;omega,f4,f5,π.drop k,λe0=>?_,by rw[List.take_append_drop]⟩;have:=congrArg List.length e0;simp at this;omega
        ·refine e2 ⟨R',k,e4,e5,?_⟩;rcases e6 with e6|⟨e6,e7⟩
         · exact .inl e6
         ·refine .inr ⟨e6,?_⟩;have:k≠m:=λe=>hk ⟨e6,e⟩;omega
       ·rintro⟨e1,e2⟩;refine⟨⟨e1,λ⟨R',k,e4,e5,e6⟩=>e2 ⟨R',k,e4,e5,?_⟩⟩,λ⟨q,ρ,e,f1,f2,f3,f4,τ,f5,f6⟩=>?_⟩
        ·rcases e6 with e6|⟨e6,e7⟩
         · exact .inl e6
         · exact .inr ⟨e6,an⟩
        ·simp only[Prod.mk.injEq]at f6;obtain⟨rfl,rfl⟩:=f6;have:=List.length_pos_iff.2 f5;refine e2 ⟨R,m,hr,⟨by rw[List.length_append];omega,sc,a,e,eE,bw,?_,f4⟩,.inr ⟨rfl,Nat.le_refl _⟩⟩;rw[List.take_append_of_le_length an,List.take_of_length_le an];exact f3
  ·unfold bJ;by_cases h5:U<r\/(U=r/\m+1<=π.length)
   · rw[if_pos h5,if_pos];· exact⟨Iff.rfl,λh=>h⟩
     ·rcases h5 with e|⟨e1,e2⟩
      · exact .inl e
      · exact .inr ⟨e1,an⟩
   · by_cases h6:U=r/\π.length=m
     ·obtain⟨rfl,h6⟩:=h6;rw[hr]at cy;cases cy;rw[h6,eE]at q1;cases q1;exact absurd q2 (hn a)
     ·rw [if_neg h5,if_neg];· exact⟨Iff.rfl,λh=>h⟩
      ·rintro(e|⟨e1,e2⟩);· exact h5 (.inl e)
       ·by_cases h7:π.length=m;· exact h6 ⟨e1,h7⟩
        · exact h5 (.inr ⟨e1,an⟩)
  ·rw [h2];constructor
   · rintro⟨e1,e2⟩;refine⟨e1,λ⟨R',k,e4,e5,e6⟩=>e2 ⟨R',k,e4,e5,?_⟩⟩;rcases e6 with e6|⟨e6,e7⟩
     · exact .inl e6
     ·refine .inr ⟨e6,?_⟩;by_cases h6:k=m
      ·subst h6;rw[e6,hr]at e4;cases e4;obtain⟨_,sc2,a2,_,f2,f3,_⟩:=e5;rw[eE]at f2;cases f2;exact absurd f3 (hn a2)
      · omega
   · rintro⟨e1,e2⟩;refine⟨e1,λ⟨R',k,e4,e5,e6⟩=>e2 ⟨R',k,e4,e5,?_⟩⟩;rcases e6 with e6|⟨e6,e7⟩
     · exact .inl e6
     · exact .inr ⟨e6,an⟩
 ·unfold bJ bE;by_cases hh:U<r+1
  ·rw[if_pos hh,if_pos];by_cases h5:U<r;· exact .inl h5
   · exact .inr ⟨an,Nat.zero_le _⟩
  ·rw[if_neg hh,if_neg];rintro(e|⟨e,_⟩)<;>omega
 ·rw [h2];constructor
  ·rintro⟨e1,e2⟩;refine⟨e1,λ⟨e3,R',k,e4,e5⟩=>e2 ⟨R',k,e4,e5,?_⟩⟩;by_cases hh:U<r;· exact .inl hh
   · exact .inr ⟨an,Nat.zero_le _⟩
  ·rintro⟨e1,e2⟩;refine⟨e1,λ⟨R',k,e4,e5,e6⟩=>e2 ⟨?_,R',k,e4,e5⟩⟩;rcases e6 with e6|⟨e6,_⟩<;>omega
 ·rw[h2];constructor
  ·rintro⟨e1,e2⟩;exact⟨e1,λ⟨R',k,e4,e5⟩=>e2 ⟨(List.getElem?_eq_some_iff.1 e4).1,R',k,e4,e5⟩⟩
  ·rintro⟨e1,e2⟩;exact⟨e1,λ⟨_,R',k,e4,e5⟩=>e2 ⟨R',k,e4,e5⟩⟩
end
end
end Go.Proofs.YtocfkfhdcnjklaaGreatDoor
