import Derived.Test.YtocfkfhdcnjklaaGreatDoorNaivT
import Derived.Test.YtocfkfhdcnjklaaGreatDoorYW1
import Derived.LoopN
namespace Go.Proofs.YtocfkfhdcnjklaaGreatDoor
section
open Go Go.RowKit Classical
inductive hU where
 |nil
 |zero
 |net (ts:List Q9) (rules:List Qb) (facts:List Qq)
def Ow:List Value:=[.slice none 0 0,.slice none 0 0,.map none,.map none,.int .i64 0]
def HI (o:Option Nat)(x:hU)(N F:dW)(w:World):Prop:=match o,x with
 |none,.nil=>True
 |some a,.zero=>(Fact.blk a Ow 85).op N F w
 |some a,.net U rules facts=>∃s,wY U rules facts a s/\lX gg s N F w
 |_,_=>False
theorem HI.good {o:Option Nat} {x:hU} {N N' F G:dW} {w U:World} (hN:∀k,N k->N' k)(ha:fy N w U)(hF:∀k,F k->G k)(hb:fy F w U)(h:HI o x N F w):HI o x N' G U:=by
 cases o with
 |none=>cases x<;>exact h
 | some a=>cases x with
   |nil=>exact h
   |zero=>exact⟨hN _ h.1,(ha a h.1).trans h.2⟩
   | net ts rules facts=>
     obtain⟨s,h1,h2⟩:=h;exact⟨s,h1,h2.good hN ha hF hb⟩
def fP (o:Option Nat)(x:hU):Fact:=.duo (λN F w=>HI o x N F w) HI.good
theorem mX {C:Ctx} {R R':Value->List Fact->List Fact->Prop} {e:Ending} {w:World} (h:rD C R e w)(hR:∀v bo Hr,R v bo Hr->Qj C bo Hr w->∃uN U,R' v uN U/\Qj C uN U w):rD C R' e w:=by
 obtain⟨v,bo,Hr,h1,h2,h3⟩:=h;obtain⟨uN,U,h4,h5⟩:=hR v bo Hr h2 h3;exact⟨v,uN,U,h1,h4,h5⟩
theorem qU {P:Program} {f:FuncId} {args:List Value} {Φ:List Fact} {K:Fact} {R R':Value->List Fact->List Fact->Prop} {p:Q7->Prop} (hK:∀N F w,K.op N F w->∃s,p s/\(Q3 gg s).op N F w)(h:∀s,p s->QA P f args Φ [Q3 gg s] R)
  (hR:∀C v U Hr w,R v U Hr->Qj C U Hr w->∃uN Ls,R' v uN Ls/\Qj C uN Ls w):QA P f args Φ [K] R':=λF N w hF dV hH eM CV=>by
 obtain⟨s,h1,h2⟩:=hK _ _ _ (hH 0 K rfl)
 have hc:=h s h1 F N w hF dV (λi q hi=>by
  cases i with
  |zero=>cases hi;exact h2
  |succ i=>simp at hi) eM CV
 exact hc.mono λe w' hr=>mX hr λv U Hr=>hR _ v U Hr w'
theorem AW {P:Program} {f:FuncId} {args:List Value} {Φ:List Fact} {R R':Value->List Fact->List Fact->Prop} (h:QA P f args Φ [Q3 gg (λ_=>none)] R)
  (hR:∀C v U Hr w,R v U Hr->Qj C U Hr w->∃uN Ls,R' v uN Ls/\Qj C uN Ls w):QA P f args Φ [] R':=λF N w hF dV _ _ _=>by
 have hc:=h F (λ_ _=>False) w hF dV (λi q hi=>by
  cases i with
  | zero=>
    cases hi;exact⟨λ_ _=>False,λ_ _ h=>h.elim,λ_ _ _ _ h=>h.elim,λa o h=>by cases h⟩
  |succ i=>simp at hi) (λ_ _ _ h=>h.elim) (λ_ _ _ _ _ _ h=>h.elim)
 have e:(λk=>∃i,i<[Q3 gg (λ_=>none)].length/\(λ(_:Nat) (_:Nat)=>False) i k)=(λk=>∃i,i<([]:List Fact).length/\N i k):=by
  funext k;refine propext ⟨λ⟨_,_,h⟩=>h.elim,λ⟨_,h,_⟩=>absurd h (Nat.not_lt_zero _)⟩
 rw[e]at hc;exact hc.mono λe w' hr=>mX hr λv U Hr=>hR _ v U Hr w'
theorem sU {C:Ctx} {a:Nat} {U:List Q9} {rules:List Qb} {facts:List Qq} {s:Q7} {w:World} {H:List Fact} {Φ:List Fact} {k:Nat} (h:Qj C Φ H w)(hk:H[k]? =some (Q3 gg s))(hn:wY U rules facts a s):Qj C Φ (H.set k (fP (some a) (.net U rules facts))) w:=
 h.as_ k hk λ_ _ hp=>⟨s,hn,hp⟩
abbrev NB:Nat:=9223372036860000000
def HJ (l:List V):Prop:=l.length<=4398046511104/\∀v∈l,pH v
noncomputable def newN (N:Nat)(U:List Q9)(rules:List Qb):Option hU:=
 if NB<=N/\qF U rules then some (.net U rules [])
 else if OH N U rules=some false then some .nil
 else none
noncomputable def mj (N:Nat)(x:hU)(id ty:Int)(l:List V):Option (Nat×hU):=match x with
 | .net U rules facts=>if NB<=N/\facts.length<=1000000/\HJ l then some ((oa U rules facts ⟨id,ty,l⟩).2,.net U rules (oa U rules facts ⟨id,ty,l⟩).1)else none
 |_=>none
noncomputable def Mz (N:Nat)(x:hU)(id:Int):Option (Nat×hU):=match x with
 | .net ts rules facts=>if NB<=N/\facts.length<=1000000 then some ((im rules facts id).2,.net ts rules (im rules facts id).1)else none
 |_=>none
noncomputable def iZ (N:Nat)(x:hU):Option (List QB):=match x with
 | .net _ rules facts=>if NB<=N then some (kr facts rules 0)else none
 |_=>none
def An (_:Nat)(x:hU):Option Nat:=match x with
 | .net _ _ facts=>some facts.length
 |_=>none
theorem EK {N:Nat} (h:NB<=N):B0+4000000<=N:=Nat.le_trans bj h
section
variable {N:Nat} {o:Option Nat} {x y:hU}
theorem U4 {a:Option Nat} {U:List Q9} {rules:List Qb} {facts:List Qq} {M F:dW} {w:World} (h:(fP a (.net U rules facts)).op M F w):∃b,a=some b/\∃s,wY U rules facts b s/\(Q3 gg s).op M F w:=by
 cases a with
 |none=>exact h.elim
 |some b=>exact⟨b,rfl,h⟩
theorem Qc4 {P:Program} {f:FuncId} {args:Option Nat->List Value} {Φ:List Fact} {R:Option Nat->Value->List Fact->List Fact->Prop} {U:List Q9} {rules:List Qb} {facts:List Qq} (h:∀b,o=some b->QA P f (args o) Φ [fP o (.net U rules facts)] (R o)):QA P f (args o) Φ [fP o (.net U rules facts)] (R o):=λF M w hF dV hH eM CV=>by
 obtain⟨b,e,_⟩:=U4 (hH 0 _ rfl);exact h b e F M w hF dV hH eM CV
theorem ZJ {bx eU:Option Addr} {cg eT:Nat} {U:List Q9} {l1:List Qb} (h:newN N U l1=some x):QA Tryz.prog 13 [.agg #[.slice bx U.length cg,.slice eU l1.length eT]] [.sli 2 Qd bx cg U,.sli 5 Qf eU eT l1,tF] [] (λv bo Hr=>∃o:Option Nat,v=.pointer (Option.map pA o)/\bo=[]/\Hr=[fP o x]):=by
 unfold newN at h;split at h
 ·rename_i hc;cases h;refine AW (nD N bx cg U eU eT l1 (λ_=>none) (λq=>∃a,q.1=some a/\wY U l1 [] a q.2) (U5 (EK hc.1) hc.2 λa s' hn=>⟨a,rfl,hn⟩)) ?_;rintro C v bo Hr w ⟨o0,o1,⟨a,h1,h2⟩,rfl,rfl,rfl⟩ hh;subst h1;exact⟨[],[fP (some a) (.net U l1 [])],⟨some a,rfl,rfl,rfl⟩,sU hh (k:=0) rfl h2⟩
 ·split at h
  ·rename_i hc;cases h;refine AW (nD N bx cg U eU eT l1 (λ_=>none) (λq=>q.1=none) ?_) ?_
   ·unfold Vy;exact Qh hc (jj rfl rfl)
   ·rintro C v bo Hr w ⟨o0,o1,h1,rfl,rfl,rfl⟩ hh;have h1:o0=none:=h1;subst h1;exact⟨[],[fP none .nil],⟨none,rfl,rfl,rfl⟩,hh.as_ 0 rfl λ_ _ _=>trivial⟩
  · cases h
theorem XQ {id ty:Int} {p:Option Addr} {c:Nat} {l:List V} {k:Nat} (h:mj N x id ty l=some (k,y)):QA Tryz.prog 20 [.pointer (Option.map pA o),.agg #[.int .i64 id,.int .i64 ty,.slice p l.length c]] [.sli 3 dq p c l] [fP o x] (λv U Hr=>v=.int .i64 ((k:Nat):Int)/\U=[]/\Hr=[fP o y]):=by
 unfold mj at h;split at h
 ·rename_i ts rules facts;split at h
  ·rename_i hc;cases h;refine Qc4 (args:=λo=>[.pointer (Option.map pA o),.agg #[.int .i64 id,.int .i64 ty,.slice p l.length c]]) (R:=λo v U Hr=>v=.int .i64 _/\U=[]/\Hr=[fP o _]) λa e=>?_
   subst e;refine qU (p:=wY ts rules facts a) (λ_ _ _ h=>h) (λs hs=>oR N a id ty p c l s (λq=>q.1=(oa ts rules facts ⟨id,ty,l⟩).2/\wY ts rules (oa ts rules facts ⟨id,ty,l⟩).1 a q.2) (RY (f:=⟨id,ty,l⟩) (EK hc.1) hs hc.2.1 hc.2.2.1 hc.2.2.2 λs' hn=>⟨rfl,hn⟩)) ?_;rintro C v U Hr w ⟨o0,o1,⟨h1,h2⟩,rfl,rfl,rfl⟩ hh;have h1:o0=_:=h1;subst h1;exact⟨[],_,⟨rfl,rfl,rfl⟩,sU hh (k:=0) rfl h2⟩
  · cases h
 · cases h
theorem Sj {id:Int} {k:Nat} (h:Mz N x id=some (k,y)):QA Tryz.prog 18 [.pointer (Option.map pA o),.int .i64 id] [] [fP o x] (λv U Hr=>v=.int .i64 ((k:Nat):Int)/\U=[]/\Hr=[fP o y]):=by
 unfold Mz at h;split at h
 ·rename_i ts rules facts;split at h
  ·rename_i hc;cases h;refine Qc4 (args:=λo=>[.pointer (Option.map pA o),.int .i64 id]) (R:=λo v U Hr=>v=.int .i64 _/\U=[]/\Hr=[fP o _]) λa e=>?_
   subst e;refine qU (p:=wY ts rules facts a) (λ_ _ _ h=>h) (λs hs=>nC N a id s (λq=>q.1=(im rules facts id).2/\wY ts rules (im rules facts id).1 a q.2) (MU (EK hc.1) hs hc.2 λs' hn=>⟨rfl,hn⟩)) ?_;rintro C v U Hr w ⟨o0,o1,⟨h1,h2⟩,rfl,rfl,rfl⟩ hh;have h1:o0=_:=h1;subst h1;exact⟨[],_,⟨rfl,rfl,rfl⟩,sU hh (k:=0) rfl h2⟩
  · cases h
 · cases h
theorem a0a {l:List QB} (h:iZ N x=some l):QA Tryz.prog 27 [.pointer (Option.map pA o)] [] [fP o x] (λv U Hr=>∃(p:Option Addr)(c:Nat)(n:Nat),v=.slice p n c/\U=[]/\Hr=[.own 101 2 qB (.slice p n c) l,fP o x]):=by
 unfold iZ at h;split at h
 ·rename_i ts rules facts;split at h
  ·rename_i hc;cases h;refine Qc4 (args:=λo=>[.pointer (Option.map pA o)]) (R:=λo v U Hr=>∃(p:Option Addr) (c:Nat) (n:Nat),v=.slice p n c/\U=[]/\Hr=[.own 101 2 qB (.slice p n c) _,fP o _]) λa e=>?_
   subst e;refine qU (p:=wY ts rules facts a) (R:=λv U Hr=>∃s,wY ts rules facts a s/\∃(p:Option Addr) (c:Nat) (n:Nat),v=.slice p n c/\U=[]/\Hr=[.own 101 2 qB (.slice p n c) (kr facts rules 0),Q3 gg s]) (λ_ _ _ h=>h) (λs hs=>?_) ?_
   ·intro F M w hF dV hH eM CV;refine(Qcf N a s (λl=>l=kr facts rules 0) (UO (EK hc) hs rfl) F M w hF dV hH eM CV).mono λe w' hr=>mX hr ?_
    rintro v U Hr ⟨o2,o0,o1,o3,rfl,rfl,rfl,rfl⟩ hh;exact⟨_,_,⟨s,hs,o0,o1,o3,rfl,rfl,rfl⟩,hh⟩
   ·rintro C v U Hr w ⟨s,hs,p,c,n,rfl,rfl,rfl⟩ hh;exact⟨[],_,⟨p,c,n,rfl,rfl,rfl⟩,sU hh (k:=1) rfl hs⟩
  · cases h
 · cases h
theorem ZA {k:Nat} (h:An N x=some k):QA Tryz.prog 25 [.pointer (Option.map pA o)] [] [fP o x] (λv U Hr=>v=.int .i64 ((k:Nat):Int)/\U=[]/\Hr=[fP o x]):=by
 unfold An at h;split at h
 ·rename_i ts rules facts;cases h;refine Qc4 (args:=λo=>[.pointer (Option.map pA o)]) (R:=λo v U Hr=>v=.int .i64 _/\U=[]/\Hr=[fP o _]) λa e=>?_
  subst e;refine qU (p:=wY ts rules facts a) (R:=λv U Hr=>∃s,wY ts rules facts a s/\v=.int .i64 ((facts.length:Nat):Int)/\U=[]/\Hr=[Q3 gg s]) (λ_ _ _ h=>h) (λs hs=>?_) ?_
  ·intro F M w hF dV hH eM CV;refine(oS NB a s (λl=>l=facts.length) (U1 hs rfl) F M w hF dV hH eM CV).mono λe w' hr=>mX hr ?_
   rintro v U Hr ⟨o0,rfl,rfl,rfl,rfl⟩ hh;exact⟨_,_,⟨s,hs,rfl,rfl,rfl⟩,hh⟩
  ·rintro C v U Hr w ⟨s,hs,rfl,rfl,rfl⟩ hh;exact⟨[],_,⟨rfl,rfl,rfl⟩,sU hh (k:=0) rfl hs⟩
 · cases h
theorem ZI (bx:Option Addr)(cg:Nat)(U:List Q9)(eU:Option Addr)(eT:Nat)(l1:List Qb)(x:hU)(h:newN N U l1=some x):QA Tryz.prog 13 [.agg #[.slice bx U.length cg,.slice eU l1.length eT]] [.sli 2 Qd bx cg U,.sli 5 Qf eU eT l1,tF] [] (λv bo Hr=>∃o:Option Nat,v=.pointer (Option.map pA o)/\bo=[]/\Hr=[fP o x]):=ZJ h
theorem P8 (o:Option Nat)(x:hU)(id ty:Int)(p:Option Addr)(c:Nat)(l:List V)(k:Nat)(y:hU)(h:mj N x id ty l=some (k,y)):QA Tryz.prog 20 [.pointer (Option.map pA o),.agg #[.int .i64 id,.int .i64 ty,.slice p l.length c]] [.sli 3 dq p c l] [fP o x] (λv U Hr=>v=.int .i64 ((k:Nat):Int)/\U=[]/\Hr=[fP o y]):=XQ h
theorem Iw (o:Option Nat)(x:hU)(id:Int)(k:Nat)(y:hU)(h:Mz N x id=some (k,y)):QA Tryz.prog 18 [.pointer (Option.map pA o),.int .i64 id] [] [fP o x] (λv U Hr=>v=.int .i64 ((k:Nat):Int)/\U=[]/\Hr=[fP o y]):=Sj h
theorem L9 (o:Option Nat)(x:hU)(l:List QB)(h:iZ N x=some l):QA Tryz.prog 27 [.pointer (Option.map pA o)] [] [fP o x] (λv U Hr=>∃(p:Option Addr)(c:Nat)(n:Nat),v=.slice p n c/\U=[]/\Hr=[.own 101 2 qB (.slice p n c) l,fP o x]):=a0a h
theorem Zz (o:Option Nat)(x:hU)(k:Nat)(h:An N x=some k):QA Tryz.prog 25 [.pointer (Option.map pA o)] [] [fP o x] (λv U Hr=>v=.int .i64 ((k:Nat):Int)/\U=[]/\Hr=[fP o x]):=ZA h
end
section
variable {P:Program} {C:Ctx} {n:FD} {Q:Exit->Act->World->Prop} {Φ H:List Fact} {S:List (Nat×Value)} {o:Option Nat} {x:hU}
def WR (P:Program)(C:Ctx)(n:FD)(Q:Exit->Act->World->Prop)(Φ H:List Fact)(S:List (Nat×Value))(c:Code)(m:Nat):Prop:=∀a w,fj n S a->Qj C Φ H w->Code.rounds P c Q m a w
theorem GL {c:Code} (m:Nat)(h:WR P C n Q Φ H S c m):WC P C n Q Φ H S (.loop c):=λa w U hw=>wp_loop_rounds m (h a w U hw)
theorem yz {c:Code} {m:Nat} (h:WC P C n (Exit.then (Code.rounds P c Q m) Q) Φ H S c):WR P C n Q Φ H S c (m+1):=h
theorem Br {c:Code} {m:Nat} (h:WR P C n Q Φ H S c m):WE C n (Exit.then (Code.rounds P c Q m) Q) Φ H S .normal:=h
end
end
section
open Go Go.RowKit
def zV:V:=⟨0,0,⟨#[]⟩⟩
def zE:Q4:=⟨0,zV,0,0,[]⟩
def lQ:List Q9:=[⟨⟨#[112]⟩,2⟩]
def iE:List Qb:=[⟨⟨#[114]⟩,0,2,[⟨1,0,[⟨2,0,zV⟩,⟨4,0,⟨1,1,⟨#[]⟩⟩⟩],zE⟩,⟨1,0,[⟨3,0,zV⟩,⟨2,1,zV⟩],zE⟩],[⟨1,0,0,[⟨2,zV,1,0,[]⟩,⟨3,zV,0,1,[⟨2,zV,0,0,[]⟩,⟨1,⟨1,1,⟨#[]⟩⟩,0,0,[]⟩]⟩]⟩,⟨2,0,1,[]⟩]⟩]
noncomputable section
def rdS (hp:di)(sz n:Nat):SV->Option (List SV)
 | .v (.slice none 0 0)=>match n with
   |0=>some []
   |_=>none
 | .sl g 0 len 0 true=>match ki hp g with
   | some (.row cs m M4 _)=>match Nat.beq m len&&(Nat.beq len n&&Nat.beq M4 sz)with
     |true=>some cs
     |false=>none
   |_=>none
 |_=>none
def Ik {α:Type} (f:List SV->α->Bool)(sz:Nat):List SV->List α->Bool
 |cs,[]=>cs.isEmpty
 |cs,y::l=>Nat.beq (cs.take sz).length sz&&(f (cs.take sz) y&&Ik f sz (cs.drop sz) l)
def uw {α:Type} (hp:di)(f:List SV->α->Bool)(sz:Nat)(x:SV)(l:List α):Bool:=match rdS hp sz l.length x with
 |some cs=>Ik f sz cs l
 |none=>false
def px (k:IntKind)(z:Int):SV->Bool
 | .v (.int U z')=>decide (U=k)&&decide (z'=z)
 |_=>false
def Sk (s:ByteArray):SV->Bool
 | .v (.string s')=>s'.data.toList==s.data.toList
 |_=>false
def fType:List SV->Q9->Bool
 |[a,b],y=>Sk y.name a&&px .i64 y.fields b
 |_,_=>false
def Sn:List SV->fl->Bool
 |[a,b,c,d,e],y=>px .u8 y.k a&&(px .i64 y.var b&&(px .u8 y.v.k c&&(px .i64 y.v.n d&&Sk y.v.s e)))
 |_,_=>false
def zr (hp:di):Nat->List SV->Q4->Bool
 |m+1,[a,b,c,d,e,f,g],y=>px .u8 y.kind a&&(px .u8 y.value.k b&&(px .i64 y.value.n c&&(Sk y.value.s d&&(px .i64 y.var e&&(px .u8 y.op f&&uw hp (zr hp m) 7 g y.kids)))))
 |_,_,_=>false
def IG (hp:di):List SV->Qv->Bool
 |[k,t,a,b,c,d,e,f,g,h],y=>px .u8 y.kind k&&(px .i64 y.type t&&(uw hp Sn 5 a y.args&&(px .u8 y.test.kind b&&(px .u8 y.test.value.k c&&(px .i64 y.test.value.n d&&(Sk y.test.value.s e&&(px .i64 y.test.var f&&(px .u8 y.test.op g&&uw hp (zr hp 5) 7 h y.test.kids))))))))
 |_,_=>false
def Sm (hp:di):List SV->wJ->Bool
 |[k,t,w,e],y=>px .u8 y.kind k&&(px .i64 y.type t&&(px .i64 y.which w&&uw hp (zr hp 5) 7 e y.exprs))
 |_,_=>false
def IH (hp:di):List SV->Qb->Bool
 |[n,s,v,c,a],y=>Sk y.name n&&(px .i64 y.salience s&&(px .i64 y.vars v&&(uw hp (IG hp) 10 c y.conds&&uw hp (Sm hp) 4 a y.acts)))
 |_,_=>false
def Il:Option (SV×di×Nat)->Bool
 |some (.tup [.agg [ts,rs],.agg [e,a]],hp,_)=>uw hp fType 2 ts lQ&&(uw hp (IH hp) 5 rs iE&&(px .i64 0 e&&px .i64 0 a))
 |_=>false
end
section
variable {ρ:Env} {E:List Value} {hp:di} {Hr:List Fact} {F:dW} {w:World}
theorem qD {k:IntKind} {z:Int} {x:SV} {v:Value} (h:px k z x=true)(U:x.den ρ E=some v):v=.int k z:=by
 unfold px at h;split at h
 ·simp only[Bool.and_eq_true,decide_eq_true_eq]at h;obtain⟨rfl,rfl⟩:=h;cases U;rfl
 · cases h
theorem mx {s:ByteArray} {x:SV} {v:Value} (h:Sk s x=true)(U:x.den ρ E=some v):v=.string s:=by
 unfold Sk at h;split at h
 ·rename_i s'
  have h1:s'=s:=by
   obtain⟨⟨a⟩⟩:=s;obtain⟨⟨b⟩⟩:=s';simp at h;rw[h]
  cases U;rw[h1]
 · cases h
theorem zl:∀{a b:List SV} {vs:List Value},SV.dens ρ E (a++b)=some vs->∃u x,vs=u++x/\SV.dens ρ E a=some u/\SV.dens ρ E b=some x/\u.length=a.length
 |[],b,vs,h=>⟨[],vs,rfl,rfl,h,rfl⟩
 | y::a,b,vs,h=>by
   obtain⟨v,ws,rfl,h1,U⟩:=QF h;obtain⟨u,x,rfl,h3,h4,h5⟩:=zl U;exact⟨v::u,x,rfl,Ce h1 h3,h4,by rw[List.length_cons,h5,List.length_cons]⟩
theorem zj {α:Type} {f:List SV->α->Bool} {sz:Nat} {R:List Value->α->Prop} (hf:∀cs vs y,f cs y=true->SV.dens ρ E cs=some vs->R vs y):∀{l:List α} {cs:List SV} {vs:List Value},Ik f sz cs l=true->SV.dens ρ E cs=some vs->fC sz R vs l
 | [],cs,vs,h,U=>by
   unfold Ik at h;cases cs with
   |nil=>cases U;exact rfl
   |cons=>cases h
 | y::l,cs,vs,h,U=>by
   unfold Ik at h;simp only[Bool.and_eq_true]at h;rw[<-List.take_append_drop sz cs]at U;obtain⟨u,x,rfl,h1,h2,h3⟩:=zl U;exact⟨u,x,rfl,by rw[h3];exact Nat.eq_of_beq_eq_true h.1,hf _ _ _ h.2.1 h1,zj hf h.2.2 h2⟩
theorem Oc {e sz b n cap:Nat} {xs:List Value} {α:Type} {R:eI α} {l:List α} (h:(y9 e sz b n cap xs).p F w)(hn:n=l.length)(hx:fC sz (R.p F w) xs l):(Fact.sli sz R (some ⟨b,0,none⟩) cap l).p F w:=by
 obtain⟨hF,ho⟩:=h;have U:=ho;rcases ho.2 with⟨h0,_⟩|⟨g,XU,cur,hv,hb,hg,yO,Js,qM,fu⟩
 · cases h0
 ·cases hv;subst hn;refine⟨_,_,cap,xs,rfl,rfl,yO,Js,hx,λ_=>⟨b,0,rfl,hF,λj u hj=>?_⟩⟩;have:=U.cells (g:=b) rfl j u hj;rwa [show(⟨b,0,none⟩:Addr).add j=⟨b,0+j,none⟩from by unfold Addr.add;split<;>simp_all]at this
theorem OT {α:Type} {f:List SV->α->Bool} {sz:Nat} {R:eI α} {x:SV} {l:List α} {v:Value} (hd:iD ρ E hp Hr)(dV:∀φ∈Hr,φ.p F w)(hf:∀cs vs y,f cs y=true->SV.dens ρ E cs=some vs->R.p F w vs y)(h:uw hp f sz x l=true)(hx:x.den ρ E=some v):
  ∃p c,v=.slice p l.length c/\(Fact.sli sz R p c l).p F w:=by
 unfold uw at h;split at h
 ·rename_i cs U;unfold rdS at U;split at U
  ·split at U
   ·rename_i hl;cases U;cases l with
    | nil=>
      cases hx;exact⟨none,0,rfl,tn⟩
    |cons y l=>cases hl
   · cases U
  ·rename_i g len;split at U
   ·rename_i vf m M4 ty hg;split at U
    · rename_i hb;cases U;simp only[Bool.and_eq_true]at hb;obtain⟨e1,e2,e3⟩:=hb;have e1:=Nat.eq_of_beq_eq_true e1;have e2:=Nat.eq_of_beq_eq_true e2;have e3:=Nat.eq_of_beq_eq_true e3;obtain⟨k,φ,h1,h2,_⟩:=Mj hd hg;obtain⟨b,cap,vs,h3,h4,rfl⟩:=h2;have hp:=dV _ (List.mem_of_getElem? h1);simp only[SV.den,h3,Option.map_some,Option.some.injEq]at hx;subst hx;subst e3;refine⟨some ⟨b,0,none⟩,cap,?_,Oc hp an (zj hf h h4)⟩;rw[<-e2];simp
    · cases U
   · cases U
  · cases U
 · cases h
theorem FU {cs:List SV} {vs:List Value} {y:Q9} (h:fType cs y=true)(U:SV.dens ρ E cs=some vs):Qd.p F w vs y:=by
 unfold fType at h;split at h
 ·simp only[Bool.and_eq_true]at h;obtain⟨_,_,rfl,h1,U⟩:=QF U;obtain⟨_,_,rfl,h2,U⟩:=QF U;cases U;rw[mx h.1 h1,qD h.2 h2];exact⟨(),rfl,QP⟩
 · cases h
theorem IF {cs:List SV} {vs:List Value} {y:fl} (h:Sn cs y=true)(U:SV.dens ρ E cs=some vs):iC.p F w vs y:=by
 unfold Sn at h;split at h
 ·simp only[Bool.and_eq_true]at h;obtain⟨_,_,rfl,h1,U⟩:=QF U;obtain⟨_,_,rfl,h2,U⟩:=QF U;obtain⟨_,_,rfl,h3,U⟩:=QF U;obtain⟨_,_,rfl,h4,U⟩:=QF U;obtain⟨_,_,rfl,h5,U⟩:=QF U;cases U;rw[qD h.1 h1,qD h.2.1 h2,qD h.2.2.1 h3,qD h.2.2.2.1 h4,mx h.2.2.2.2 h5];exact⟨(),rfl,QP⟩
 · cases h
theorem oi (hd:iD ρ E hp Hr)(dV:∀φ∈Hr,φ.p F w):∀(m:Nat) {cs:List SV} {vs:List Value} {y:Q4},zr hp m cs y=true->SV.dens ρ E cs=some vs->Qm.p F w vs y
 |0,cs,vs,y,h,_=>by cases h
 | m+1,cs,vs,y,h,U=>by
   unfold zr at h;split at h
   ·rename_i m' a b c d e f g y' hm;cases hm;simp only[Bool.and_eq_true]at h;obtain⟨_,_,rfl,h1,U⟩:=QF U;obtain⟨_,_,rfl,h2,U⟩:=QF U;obtain⟨_,_,rfl,h3,U⟩:=QF U;obtain⟨_,_,rfl,h4,U⟩:=QF U;obtain⟨_,_,rfl,h5,U⟩:=QF U;obtain⟨_,_,rfl,h6,U⟩:=QF U;obtain⟨_,_,rfl,h7,U⟩:=QF U;cases U;obtain⟨p,cc,rfl,hs⟩:=OT (R:=Qm) hd dV (λcs vs y=>oi hd dV m (cs:=cs) (vs:=vs) (y:=y)) h.2.2.2.2.2.2 h7;rw[qD h.1 h1,qD h.2.1 h2,qD h.2.2.1 h3,mx h.2.2.2.1 h4,qD h.2.2.2.2.1 h5,qD h.2.2.2.2.2.1 h6];exact AJ (p,cc) rfl (pW hs QP)
   · cases h
theorem FR (hd:iD ρ E hp Hr)(dV:∀φ∈Hr,φ.p F w) {cs:List SV} {vs:List Value} {y:Qv} (h:IG hp cs y=true)(U:SV.dens ρ E cs=some vs):GU.p F w vs y:=by
 unfold IG at h;split at h
 ·simp only[Bool.and_eq_true]at h;obtain⟨_,_,rfl,h1,U⟩:=QF U;obtain⟨_,_,rfl,h2,U⟩:=QF U;obtain⟨_,_,rfl,h3,U⟩:=QF U;obtain⟨_,_,rfl,h4,U⟩:=QF U;obtain⟨_,_,rfl,h5,U⟩:=QF U;obtain⟨_,_,rfl,h6,U⟩:=QF U;obtain⟨_,_,rfl,h7,U⟩:=QF U;obtain⟨_,_,rfl,h8,U⟩:=QF U;obtain⟨_,_,rfl,h9,U⟩:=QF U;obtain⟨_,_,rfl,h10,U⟩:=QF U;cases U;obtain⟨a1,a2,a3,a4,a5,a6,a7,a8,a9,hY⟩:=h;obtain⟨p,cc,rfl,hs⟩:=OT (R:=iC) hd dV (λ_ _ _=>IF) a3 h3;obtain⟨q,cd,rfl,ht⟩:=OT (R:=Qm) hd dV (λcs vs y=>oi hd dV 5 (cs:=cs) (vs:=vs) (y:=y)) hY h10;rw[qD a1 h1,qD a2 h2,qD a4 h4,qD a5 h5,qD a6 h6,mx a7 h7,qD a8 h8,qD a9 h9];exact⟨((p,cc),(q,cd)),rfl,pW hs (pW ht QP)⟩
 · cases h
theorem IE (hd:iD ρ E hp Hr)(dV:∀φ∈Hr,φ.p F w) {cs:List SV} {vs:List Value} {y:wJ} (h:Sm hp cs y=true)(U:SV.dens ρ E cs=some vs):Cf.p F w vs y:=by
 unfold Sm at h;split at h
 ·simp only[Bool.and_eq_true]at h;obtain⟨_,_,rfl,h1,U⟩:=QF U;obtain⟨_,_,rfl,h2,U⟩:=QF U;obtain⟨_,_,rfl,h3,U⟩:=QF U;obtain⟨_,_,rfl,h4,U⟩:=QF U;cases U;obtain⟨p,cc,rfl,hs⟩:=OT (R:=Qm) hd dV (λcs vs y=>oi hd dV 5 (cs:=cs) (vs:=vs) (y:=y)) h.2.2.2 h4;rw[qD h.1 h1,qD h.2.1 h2,qD h.2.2.1 h3];exact⟨(p,cc),rfl,pW hs QP⟩
 · cases h
theorem FT (hd:iD ρ E hp Hr)(dV:∀φ∈Hr,φ.p F w) {cs:List SV} {vs:List Value} {y:Qb} (h:IH hp cs y=true)(U:SV.dens ρ E cs=some vs):Qf.p F w vs y:=by
 unfold IH at h;split at h
 ·simp only[Bool.and_eq_true]at h;obtain⟨_,_,rfl,h1,U⟩:=QF U;obtain⟨_,_,rfl,h2,U⟩:=QF U;obtain⟨_,_,rfl,h3,U⟩:=QF U;obtain⟨_,_,rfl,h4,U⟩:=QF U;obtain⟨_,_,rfl,h5,U⟩:=QF U;cases U;obtain⟨p,cc,rfl,hs⟩:=OT (R:=GU) hd dV (λ_ _ _=>FR hd dV) h.2.2.2.1 h4;obtain⟨q,cd,rfl,ht⟩:=OT (R:=Cf) hd dV (λ_ _ _=>IE hd dV) h.2.2.2.2 h5;rw[mx h.1 h1,qD h.2.1 h2,qD h.2.2.1 h3];exact⟨((p,cc),(q,cd)),rfl,pW hs (pW ht QP)⟩
 · cases h
end
theorem FX {C:Ctx} {w:World}:∀{H Φ:List Fact},Qj C Φ H w->∃Φ',Qj C Φ' [] w/\∀φ∈H,φ∈Φ'
 |[],Φ,h=>⟨Φ,h,λφ bh=>by cases bh⟩
 | φ::H,Φ,h=>by
   have h1:=h.freeze 0 rfl (H':=H) rfl;obtain⟨F,N,hi⟩:=h1;obtain⟨Φ',h2,h3⟩:=sr (H:=H) (Φ:=φ::Φ) ⟨F,N,hi⟩
   exact ⟨Φ',h2.1,λψ U=>by
    rcases List.mem_cons.1 U with rfl|U;· exact h2.2 _ List.mem_cons_self
    · exact h3 ψ U⟩
where
 sr {C:Ctx} {w:World}:∀{H Φ:List Fact},Qj C Φ H w->∃Φ',(Qj C Φ' [] w/\∀φ∈Φ,φ∈Φ')/\∀φ∈H,φ∈Φ'
  |[],Φ,h=>⟨Φ,⟨h,λ_ h=>h⟩,λφ bh=>by cases bh⟩
  | φ::H,Φ,h=>by
    have h1:=h.freeze 0 rfl (H':=H) rfl;obtain⟨Φ',⟨h2,h3⟩,h4⟩:=sr h1
    exact ⟨Φ',⟨h2,λψ U=>h3 ψ (List.mem_cons_of_mem _ U)⟩,λψ U=>by
     rcases List.mem_cons.1 U with rfl|U;· exact h3 _ List.mem_cons_self
     · exact h4 ψ U⟩
theorem KA:Il (Ij Tryz.prog 1000 50 32 [.v (.string ⟨#[102,97,99,116,32,112,40,97,44,32,98,41,59,32,114,117,108,101,32,114,32,123,32,112,40,63,120,44,32,49,41,59,32,112,40,63,120,44,32,63,121,41,59,32,61,62,32,97,115,115,101,114,116,32,112,40,63,121,44,32,63,120,32,43,32,49,41,59,32,114,101,116,114,97,99,116,32,50,59,32,125]⟩)] [] 0 (2^200))=true:=au
theorem Kz:QA Tryz.prog 32 [.string ⟨#[102,97,99,116,32,112,40,97,44,32,98,41,59,32,114,117,108,101,32,114,32,123,32,112,40,63,120,44,32,49,41,59,32,112,40,63,120,44,32,63,121,41,59,32,61,62,32,97,115,115,101,114,116,32,112,40,63,121,44,32,63,120,32,43,32,49,41,59,32,114,101,116,114,97,99,116,32,50,59,32,125]⟩] [] [] (λv bo Hr=>∃(p0:Option Addr)(c0:Nat)(p1:Option Addr)(c1:Nat),v=.tuple #[.agg #[.slice p0 lQ.length c0,.slice p1 iE.length c1],.agg #[.int .i64 0,.int .i64 0]]/\bo=[.sli 2 Qd p0 c0 lQ,.sli 5 Qf p1 c1 iE]/\Hr=[]):=by
 have ht:=KA;unfold Il at ht;split at ht
 ·rename_i ts rs e a hp lo he;simp only[Bool.and_eq_true]at ht;have hc:=zg (P:=Tryz.prog) [] 1000 50 32 _ [] 0 _ _ _ _ he (λ_=>none) _ [] Ic trivial (λ_ _ _=>rfl);intro F N w hF dV hH bp sy;refine(hc F N w hF dV hH bp sy).mono ?_;rintro en w' ⟨x,bo,Hr,rfl,⟨rfl,cj,_,U,e3,_⟩,hw⟩;obtain⟨Φ',W6,gI⟩:=FX hw;obtain⟨F',N',hi⟩:=W6;have JO:∀φ∈Hr,φ.p F' w':=λφ bh=>hi.facts φ (gI φ bh)
  simp only[SV.den,Option.map_eq_some_iff]at U;obtain⟨vs,U,rfl⟩:=U;obtain⟨v1,_,rfl,g1,U⟩:=QF U;obtain⟨v2,_,rfl,g2,U⟩:=QF U;cases U;simp only[SV.den,Option.map_eq_some_iff]at g1 g2;obtain⟨us,g1,rfl⟩:=g1;obtain⟨u1,_,rfl,k1,g1⟩:=QF g1;obtain⟨u2,_,rfl,k2,g1⟩:=QF g1;cases g1;obtain⟨us,g2,rfl⟩:=g2;obtain⟨u3,_,rfl,k3,g2⟩:=QF g2;obtain⟨u4,_,rfl,k4,g2⟩:=QF g2;cases g2;obtain⟨p0,c0,rfl,s0⟩:=OT (R:=Qd) e3 JO (λ_ _ _=>FU) ht.1 k1;obtain⟨p1,c1,rfl,s1⟩:=OT (R:=Qf) e3 JO (λ_ _ _=>FT e3 JO) ht.2.1 k2;rw[qD ht.2.2.1 k3,qD ht.2.2.2 k4];exact⟨_,_,_,rfl,⟨p0,c0,p1,c1,rfl,rfl,rfl⟩,F',N',{hi with facts:=λφ bh=>pW s0 (pW s1 QP) φ bh}⟩
 · cases ht
end
section
open Go.RowKit
noncomputable def WA (_:Nat)(_:Int)(_:Int)(_:Int):Option (Unit):=
 some ()
noncomputable def Q4U (N:Nat)(s:Nat)(z:Nat)(a0:Nat)(a3:List QB)(U:List QB)(h:hU):Option (Bool):=
 if (s==0)=true then(
  if (z==0)=true then(
   if (a0==0)=true then(
    if (a3.length==1)=true then(
     if (U.length==2)=true then(
      Qg (U[1]?) λa4=>
      if (a4.ids.length==2)=true then(
       Qg (U[1]?) λa5=>
       Qg (a5.ids[1]?) λa6=>
       if (a6==2)=true then(
        Qg (iZ N h) λa7=>
        if (a7.length==0)=true then(
         Qg (An N h) λa8=>
         if (a8==1)=true then(
          Qg (Mz N h 1) λ(a2,_)=>
          some (a2==6)
         )else(
          some false
         )
        )else(
         some false
        )
       )else(
        some false
       )
      )else(
       some false
      )
     )else(
      some false
     )
    )else(
     some false
    )
   )else(
    some false
   )
  )else(
   some false
  )
 )else(
  some false
 )
noncomputable def WG (N:Nat):Option (Bool):=
 Qg (newN N lQ iE) λa4=>
 Qg (WA N 1 1 1) λ_=>
 Qg (mj N a4 1 0 [(⟨1,1,(⟨#[]⟩:ByteArray)⟩:V),(⟨1,1,(⟨#[]⟩:ByteArray)⟩:V)]) λ(z,h)=>
 Qg (iZ N h) λa5=>
 Qg (WA N 2 1 2) λ_=>
 Qg (mj N h 2 0 [(⟨1,1,(⟨#[]⟩:ByteArray)⟩:V),(⟨1,2,(⟨#[]⟩:ByteArray)⟩:V)]) λ(a0,s)=>
 Qg (iZ N s) λa6=>
 Qg (Mz N s 1) λ(U,a2)=>
 Qg (Q4U N z a0 U a5 a6 a2
 ) λa3=>
 some a3
noncomputable def Q3x (N:Nat)(h:Int)(s:Int)(l2:List V):Option (Bool):=
 Qg (WG N) λv5=>
 if (!v5)=true then(
  some false
 ) else(
  Qg (WH N [(⟨false,(⟨h,s,l2⟩:Qq)⟩:HK)]) λz=>
  if (!z)=true then(
   some true
  )else(
   Qg (Q7v N h s l2) λ_=>
   Qg (Q71 N h) λ_=>
   Qg (Q7x N) λ_=>
   Qg (Q5X N) λ_=>
   Qg (Q7w N 0 h s l2) λ_=>
   Qg (Q72 N 0 h) λ_=>
   Qg (Q7y N 0) λ_=>
   Qg (Q5Y N 0) λ_=>
   some true
  )
 )
end
section
open Tryz
open Go.RowKit
set_option maxRecDepth 100000
set_option maxHeartbeats 4000000
theorem Q7U {N:Nat} {a0 U a2:Int} (e:WA N a0 U a2=some ()):QA prog 29 [ao a0,ao U,ao a2] [tF] [] (λv p q=>∃o0,R0 (.agg #[ao a0,ao 0,.slice (some ⟨o0,0,none⟩) 2 2]) [] [.blk o0 [bc 1,ao U,.string EB,bc 1,ao a2,.string EB] 63] v p q):=by
 unfold WA at e;refine Qi func29 Z ntmps29 Z (S:=V3 ..) Z λC=>sq<|QL Z Z Z Zq Z BO Z λg6=>nt<|sq<|ay Z<|kK Z Z Z Zq Z jA Co Z (out:=V3 ..) Z<|wP Z<|kK Z Z Z Zq Z jA Co Z (out:=V3 ..) Z<|u7 Z Z Z Zq Z nQ QS jA Z (zs:=[bc 0,ao 0,.string EB,bc 0,ao 0,.string EB]) au Z (out:=V6 ..) Z λg12=>kK Z Z Z Zq Z BO ZY Z (out:=V3 ..) Z<|wS 1 0 Z ma (all':=V3 ..) Z (H':=[_,_]) Z<|dw 6 Z<|Ql ?_
 have g:=(Zi e).symm;refine ry (Hr:=[_]) [0] results29 (lP 1 Z Z ma wU Z Z) ⟨g12,Z,Z,Z⟩ (bg [] Z) Z Z (.inl Z)
theorem Qas {N:Nat} {o0:Bool} (e:WG N=some o0):QA prog 9 [] [tF] [] (R0 (.bool o0) [] []):=by
 unfold WG at e;refine Qi func9 Z ntmps9 Z (S:=[]) Z λC=>sq<|wP Z<|nk0 Z<|sq<|wC [] [] Z Y8 Z Kz (bg [] Z) Z (H':=[]) Z ?_
 rintro _ _ _ ⟨aX,aY,a7,a8,rfl,rfl,rfl⟩;refine ay Z<|wP Z<|QL Z Z Z Zq Z a05 Z λg1=>QL Z Z Z Zq Z a09 Z λg2=>wS 1 0 Z F8 (all':=[_,_]) Z (H':=[_,_]) Z<|wS 0 0 Z a04 (all':=[_,_]) Z (H':=[_,_]) Z<|dw 1 Z<|sq<|wM 1 0 [_,_] Z F8 KG Z<|kn e λaZ aE e=>wC [] [0,1] Z Y7 Z (ZI aX aY lQ a7 a8 iE _ aE) (bg [0,1,2] Z) Z (H':=[_,_]) Z ?_
 rintro _ _ _ ⟨h,rfl,rfl,rfl⟩;refine wP Z<|dw 3 Z<|sq<|wP Z<|kn e λ_ aF e=>?_
 try dsimp only at e
 refine c1 [] [0,1,2] Z Pg aF Q7U [2] (V3 ..) Z λa0=>MG (sz:=3) (m:=2) dq ([(⟨1,1,EB⟩:V),(⟨1,1,EB⟩:V)]) 0 Z (λF w U=>⟨[bc 1,ao 1,.string EB],[bc 1,ao 1,.string EB],Z,Z,⟨(),Z,QP⟩,⟨[bc 1,ao 1,.string EB],[],Z,Z,⟨(),Z,QP⟩,Z⟩⟩) Z bj (H':=V4 ..) Z<|Mm 0 Z (H':=V3 ..) Z<|My (.sli 3 dq (some ⟨a0,0,none⟩) 2 ([(⟨1,1,EB⟩:V),(⟨1,1,EB⟩:V)])) (λF w U=>yF (U _ (iL (k:=0) Z))) ?_;obtain⟨⟨a9,a1⟩,aG,e⟩:=Qw e;try dsimp only at e
 refine wC [0] [1,2] Z El Z (P8 h aZ 1 0 (some ⟨a0,0,none⟩) 2 [(⟨1,1,EB⟩:V),(⟨1,1,EB⟩:V)] _ _ aG) (bg [0] Z) Z (H':=[_,_]) Z ?_;rintro _ _ _ ⟨rfl,rfl,rfl⟩;refine wP Z<|de 4 3 Z<|sq<|wP Z<|kn e λb0 aH e=>wC [0] [1,2] Z zv Z (L9 h a1 _ aH) (bg [] Z) Z (H':=[_,_]) Z ?_;rintro _ _ _ ⟨b1,b2,b3,rfl,rfl,rfl⟩;refine uQ 0 Z λaI _=>wN Z kH<|Qs (sQ aI)<|wP Z<|fh 5 4 3 Z<|sq<|wP Z<|kn e λ_ aJ e=>?_;try dsimp only at e
 refine c1 [] [0,1,2,3] Z Pg aJ Q7U [4] (V4 ..) Z λa2=>MG (sz:=3) (m:=2) dq ([(⟨1,1,EB⟩:V),(⟨1,2,EB⟩:V)]) 0 Z (λF w U=>⟨[bc 1,ao 1,.string EB],[bc 1,ao 2,.string EB],Z,Z,⟨(),Z,QP⟩,⟨[bc 1,ao 2,.string EB],[],Z,Z,⟨(),Z,QP⟩,Z⟩⟩) Z bj (H':=V5 ..) Z<|Mm 0 Z (H':=V4 ..) Z<|My (.sli 3 dq (some ⟨a2,0,none⟩) 2 ([(⟨1,1,EB⟩:V),(⟨1,2,EB⟩:V)])) (λF w U=>yF (U _ (iL (k:=0) Z))) ?_;obtain⟨⟨aA,a3⟩,aK,e⟩:=Qw e;try dsimp only at e
 refine wC [1] [0,2,3] Z El Z (P8 h a1 2 0 (some ⟨a2,0,none⟩) 2 [(⟨1,1,EB⟩:V),(⟨1,2,EB⟩:V)] _ _ aK) (bg [0] Z) Z (H':=V3 ..) Z ?_;rintro _ _ _ ⟨rfl,rfl,rfl⟩;refine wP Z<|fH 6 5 4 3 Z<|sq<|wP Z<|kn e λb4 aL e=>wC [0] [1,2,3] Z zv Z (L9 h a3 _ aL) (bg [] Z) Z (H':=V3 ..) Z ?_;rintro _ _ _ ⟨b5,b6,b7,rfl,rfl,rfl⟩;refine wP Z<|lr 7 6 5 4 3 Z<|sq<|wP Z ?_;obtain⟨⟨aB,s⟩,aM,e⟩:=Qw e;try dsimp only at e
 refine wC [1] [0,2,3,4] Z Ek Z (Iw h a3 1 _ _ aM) (bg [] Z) Z (H':=V4 ..) Z ?_;rintro _ _ _ ⟨rfl,rfl,rfl⟩;refine wP Z<|kC 8 7 6 5 4 3 Z<|Q6<|kn e λaN e ca=>?_;unfold Q4U at e;refine cut (σ:=Bool) aN (λz=>(z,[(0,.bool z)],[tF],[])) ?_ ?_;refine Qc<|ay Z<|Qs (u6 a9 0)<|wP Z ?_;refine eV e (λe=>?_) λe=>?_;refine ay Z<|Qs (u6 aA 0)<|ay Z ?_;refine eV e (λe=>?_) λe=>?_;refine ay Z<|Qs (u6 aB 0)<|ay Z ?_;refine eV e (λe=>?_) λe=>?_;refine ay Z<|Qs (u6 b0.length 1)<|ay Z ?_;refine eV e (λe=>?_) λe=>?_;refine wP Z<|uQ 1 Z λaO _=>wN Z kH<|Qs (sQ aO)<|wP Z<|Qs (u6 b4.length 2)<|ay Z ?_;refine eV e (λe=>?_) λe=>?_;refine wP Z<|kn e λaP a5 e=>Fv 1 1 Z Z Z Zq Z Z Z Z Z (kc a5) kH DE λbI aQ=>?_;subst aQ;refine wF Z nh<|Lx Q6X 1 1 1 Z Z Z Zq Z Z Z a5 Fb F1 (v:=λaC=>aw aC.1 aP.ids aC.2) (λ_=>Z) (λ_=>Z) λaC _=>wN Z E6<|wP Z<|Qs (u6 aP.ids.length 2)<|ay Z ?_;refine eV e (λe=>?_) λe=>?_;refine wP Z<|kn e λb8 a6 e=>GN 1 1 Z Z Z Zq Z Z Z Z Z (kc a6) kH DE<|wF Z nh<|Lx Q6X 1 1 1 Z Z Z Zq Z Z Z a6 Fb F1 (v:=λaD=>aw aD.1 b8.ids aD.2) (λ_=>Z) (λ_=>Z) λaD _=>kn e λbK aR e=>wI 0 1 Z aR E6 dp λbL bM bH b9=>nT Q9G 1 Z λbN aS _=>?_;subst aS;refine oQ 0 0 [_] Z dp dy Z<|ay Z<|wP Z ?_;refine eV e (λe=>?_) λe=>?_;refine wP Z<|kn e λbA aT e=>wC [0] [1,2,3,4] Z zv Z (L9 h s _ aT) (bg [] Z) Z (H':=V4 ..) Z ?_;rintro _ _ _ ⟨bB,bC,bD,rfl,rfl,rfl⟩;refine uQ 0 Z λaU _=>wN Z kH<|Qs (sQ aU)<|wP Z<|Qs (u6 bA.length 0)<|ay Z ?_;refine eV e (λe=>?_) λe=>?_;refine wP Z<|kn e λbF aV e=>wC [1] [0,2,3,4,5] Z IM Z (Zz h s _ aV) (bg [] Z) Z (H':=V5 ..) Z ?_;rintro _ _ _ ⟨rfl,rfl,rfl⟩;refine wP Z<|Qs (u6 bF 1)<|ay Z ?_;refine eV e (λe=>?_) λe=>?_;refine wP Z ?_;obtain⟨⟨a4,bG⟩,aW,e⟩:=Qw e;try dsimp only at e
 refine wC [0] [1,2,3,4,5] Z Ek Z (Iw h s 1 _ _ aW) (bg [] Z) Z (H':=V5 ..) Z ?_;rintro _ _ _ ⟨rfl,rfl,rfl⟩;refine wP Z<|Qs (u6 a4 6)<|ay Z<|Q2<|Qk [] Z (H':=[]) Z ?_;refine jM (a4==6) e [0] [10] Z;refine eD Z<|wO Z<|ay Z<|Q2<|Qk [] Z (H':=[]) Z ?_;refine jM false e [0] [10] Z;refine eD Z<|wO Z<|ay Z<|eD Z<|wO Z<|ay Z<|Q2<|Qk [] Z (H':=[]) Z ?_;refine jM false e [0] [10] Z;refine ef Z<|ay Z<|eD Z<|wO Z<|ay Z<|eD Z<|wO Z<|ay Z<|Q2<|Qk [] Z (H':=[]) Z ?_;refine jM false e [0] [10] Z;refine ef Z<|eD Z<|wO Z<|ay Z<|ef Z<|ay Z<|eD Z<|wO Z<|ay Z<|eD Z<|wO Z<|ay Z<|Q2<|Qk [] Z (H':=[]) Z ?_;refine jM false e [0] [7] Z;refine ef Z<|eD Z<|ay Z<|ef Z<|eD Z<|wO Z<|ay Z<|ef Z<|ay Z<|eD Z<|wO Z<|ay Z<|eD Z<|wO Z ?_;refine ay Z<|Q2<|Qk [] Z (H':=[]) Z ?_;refine jM false e [0] [6] Z;refine eD Z<|wO Z<|ay Z<|ef Z<|eD Z<|ay Z<|ef Z<|eD Z<|wO Z<|ay Z<|ef Z<|ay Z<|eD Z<|wO Z ?_;refine ay Z<|eD Z<|wO Z<|ay Z<|Q2<|Qk [] Z (H':=[]) Z ?_;refine jM false e [0] [6] Z;refine eD Z<|ay Z<|eD Z<|wO Z<|ay Z<|ef Z<|eD Z<|ay Z<|ef Z<|eD Z<|wO Z<|ay Z<|ef Z<|ay Z ?_;refine eD Z<|wO Z<|ay Z<|eD Z<|wO Z<|ay Z<|Q2<|Qk [] Z (H':=[]) Z ?_;refine jM false e [0] [6] Z;refine eD Z<|ay Z<|eD Z<|ay Z<|eD Z<|wO Z<|ay Z<|ef Z<|eD Z<|ay Z<|ef Z<|eD Z<|wO Z<|ay Z ?_;refine ef Z<|ay Z<|eD Z<|wO Z<|ay Z<|eD Z<|wO Z<|ay Z<|Q2<|Qk [] Z (H':=[]) Z ?_;refine jM false e [0] [6] Z;refine eD Z<|ay Z<|eD Z<|ay Z<|eD Z<|ay Z<|eD Z<|wO Z<|ay Z<|ef Z<|eD Z<|ay Z<|ef Z<|eD Z ?_;refine wO Z<|ay Z<|ef Z<|ay Z<|eD Z<|wO Z<|ay Z<|eD Z<|wO Z<|ay Z<|Q2<|Qk [] Z (H':=[]) Z ?_;refine jM false e [0] [6] Z;rintro z g;try dsimp only at g⊢
 have e:=ca;try rw[g]at e
 refine Ql ?_;obtain rfl:=Zi e;refine cr [] [] results9 Z ⟨Z,Z,Z⟩ Z
theorem Q9v (N:Nat)(a0:Int)(U:Int)(s:OA)(a2:Nat)(l2:List V)(o0:Bool)(e:Q3x N a0 U l2=some o0):QA prog 5 [.agg #[ao a0,ao U,aw s l2 a2]] [.sli 3 dq s a2 l2,tF] [] (R0 (.bool o0) [] []):=by
 unfold Q3x at e;refine Qi func5 Z ntmps5 Z (S:=[_]) Z λC=>sq<|wB Z λg1=>wP Z<|dw 1 Z<|Q6<|sq<|kn e λv5 aB e=>c0 [] [0] Z a0r aB Qas [1] [_] Z<|wP Z<|de 6 1 Z ?_
 refine QZ e Z (λe=>?_) λe=>?_;refine k0 Z<|sq<|wP Z<|nr<|Q5 ?_;obtain rfl:=Zi e;refine cr [] [] results5 Z ⟨Z,Z,Z⟩ Z;refine k1 1 Z<|kt<|Q6<|sq<|wM 0 0 (V3 ..) Z ma wU Z<|kK Z Z Z Zq Z PV ZZ Z (out:=V4 ..) Z<|u7 Z Z Z Zq Z w6 F9 PV Z (zs:=[.bool false,ao 0,ao 0,V1]) au Z (out:=V4 ..) Z λg9=>MG (sz:=4) (m:=1) Ri ([(⟨false,(⟨a0,U,l2⟩:Qq)⟩:HK)]) 0 Z (λF w bh=>⟨[.bool false,ao a0,ao U,aw s l2 a2],[],Z,Z,⟨(s,a2),Z,(pW (bh _ (iL (k:=0) Z)) QP)⟩,Z⟩) Z bj (H':=[_,_]) Z<|kn e λaE aA e=>Fl [] [0,1] [0] Z Z Z Zq Z Z Y6 Z (@Qat N (some ⟨g9,0,none⟩) 1 [(⟨false,(⟨a0,U,l2⟩:Qq)⟩:HK)] _ aA) (λF w bh hh=>(pW (yF (hh _ (iL (k:=0) Z))) (pW (bh _ (iL (k:=1) Z)) QP))) (λ_ _ _ hR=>by obtain⟨rfl,rfl,rfl⟩:=hR;exact⟨Z,(λ_ h=>zC h)⟩) Z Z (H':=[_,_]) Z ?_;rintro _ _ _ ⟨rfl,rfl,rfl⟩;refine wP Z<|de 11 1 Z ?_;refine QZ e Z (λe=>?_) λe=>?_;refine k0 Z<|sq<|wP Z<|nr<|Q5 ?_;obtain rfl:=Zi e;refine cr [] [] results5 Z ⟨Z,Z,Z⟩ Z;refine k1 1 Z<|kt<|sq<|kK Z Z Z Zq Z PY PR Z (out:=V5 ..) Z<|wB Z λa8=>u7 Z Z Z Zq Z ng uW a07 Z (zs:=[.pointer none,.pointer none]) au Z (out:=[_,_]) Z λaF=>wP Z<|de 3 1 Z<|Q6<|sq<|wP Z<|nt<|Qo<|GL 3 ?_;refine yz<|Q6<|sq<|ay Z<|Qs Z<|fH 16 4 3 1 Z<|uR Z<|k3 4 3 1 Z<|kt<|Q6<|Qo<|Q6<|kn e λ_ a3 e=>?_;try dsimp only at e
 refine kn e λ_ a4 e=>?_;try dsimp only at e
 refine kn e λ_ a5 e=>?_;try dsimp only at e
 refine kn e λ_ a6 e=>?_;try dsimp only at e
 refine QI [0,1,2,3,4,6,7,8,9,10,11,12,13,15,16,17,18,19,20,21,23,24,25,26,27,28,29,31,32,33] Z Z λz=>ct z 0 Z<|OR z 2 0 Z Z Z Zq Z Z Z Z Z bj ng uW<|xD z 3 0 0 Z uW js Z<|xM z 4 3 0 (V3 ..) Z ma wU Z<|xS z 5 Z<|wC [] [0,1,2,3] Z El Z (@Qcb N a0 U s a2 l2 a3) (bg [0] Z) Z (H':=V4 ..) Z ?_;rintro _ _ _ ⟨rfl,rfl,rfl⟩;refine Q2<|cu 0 [] Z<|xP z 6 Z<|fA Z<|ct z 7 Z<|xP z 9 Z<|OR z 10 0 Z Z Z Zq Z Z Z Z Z bj ng uW<|xD z 11 0 0 Z uW js Z<|xF z 12 Z HQ<|xD z 13 3 0 Z dp dy Z<|xS z 14 Z<|wC [] [0,1,2,3] Z Ek Z (@QbS N a0 a4) (bg [] Z) Z (H':=V4 ..) Z ?_;rintro _ _ _ ⟨rfl,rfl,rfl⟩;refine Q2<|cu 0 [3,0] Z<|xP z 15 Z<|fA Z<|ct z 16 Z<|ct z 18 Z<|OR z 20 0 Z Z Z Zq Z Z Z Z Z bj ng uW<|xD z 21 0 0 Z uW js Z<|xS z 22 Z<|wC [] [0,1,2,3] Z IM Z (@Qcd N a5) (bg [] Z) Z (H':=V4 ..) Z ?_;rintro _ _ _ ⟨rfl,rfl,rfl⟩;refine Q2<|cu 0 [3,0,3,0] Z<|xP z 23 Z<|fA Z<|ct z 24 Z<|ct z 26 Z<|OR z 28 0 Z Z Z Zq Z Z Z Z Z bj ng uW<|xD z 29 0 0 Z uW js Z<|xS z 30 Z<|wC [] [0,1,2,3] Z zv Z (@QaY N a6) (bg [] Z) Z (H':=V4 ..) Z ?_;rintro _ _ _ ⟨rfl,rfl,rfl⟩;refine Q2<|cu 0 [0,3,0,3,0] Z<|xN z 31 Z kH<|xP z 32 Z<|fA Z<|xP z 33 Z<|QC z Z<|Qu<|k4 52 4 3 1 Z<|yE Z<|k3 4 3 1 Z<|QT<|Q8<|Qu ?_;refine Qc<|ay Z<|Qs Z<|Qt (S':=V4 ..) Z Z Z Z Z<|Q2<|Br<|yz<|k3 4 3 1 Z<|Q6<|sq<|ay Z<|Qs Z<|fH 16 4 3 1 Z<|uR Z ?_;refine k3 4 3 1 Z<|kt<|Q6<|Qo<|Q6<|kn e λ_ a3 e=>?_;try dsimp only at e
 refine kn e λ_ a4 e=>?_;try dsimp only at e
 refine kn e λ_ a5 e=>?_;try dsimp only at e
 refine kn e λ_ a6 e=>?_;try dsimp only at e
 refine QI [0,1,2,3,4,6,7,8,9,10,11,12,13,15,16,17,18,19,20,21,23,24,25,26,27,28,29,31,32,33] Z Z λz=>ct z 0 Z<|OR z 2 1 Z Z Z Zq Z Z Z Z Z bj ng uW<|xD z 3 0 1 Z uW js Z<|xM z 4 3 0 (V3 ..) Z ma wU Z<|xS z 5 Z<|wC [1] [0,2,3] Z El Z (@Qcc N a8 0 a0 U s a2 l2 a3) (bg [0] Z) Z (H':=V3 ..) Z ?_;rintro _ _ _ ⟨rfl,rfl,rfl⟩;refine Q2<|cu 0 [] Z<|xP z 6 Z<|fA Z<|ct z 7 Z<|xP z 9 Z<|OR z 10 1 Z Z Z Zq Z Z Z Z Z bj ng uW<|xD z 11 1 1 Z uW js Z<|xF z 12 Z HQ<|xD z 13 3 0 Z dp dy Z<|xS z 14 Z<|wC [0] [1,2,3] Z Ek Z (@QbT N a8 0 a0 a4) (bg [] Z) Z (H':=V3 ..) Z ?_;rintro _ _ _ ⟨rfl,rfl,rfl⟩;refine Q2<|cu 0 [3,1] Z<|xP z 15 Z<|fA Z<|ct z 16 Z<|ct z 18 Z<|OR z 20 1 Z Z Z Zq Z Z Z Z Z bj ng uW<|xD z 21 1 1 Z uW js Z<|xS z 22 Z<|wC [0] [1,2,3] Z IM Z (@Qce N a8 0 a5) (bg [] Z) Z (H':=V3 ..) Z ?_;rintro _ _ _ ⟨rfl,rfl,rfl⟩;refine Q2<|cu 0 [3,1,3,1] Z<|xP z 23 Z<|fA Z<|ct z 24 Z<|ct z 26 Z<|OR z 28 1 Z Z Z Zq Z Z Z Z Z bj ng uW<|xD z 29 1 1 Z uW js Z<|xS z 30 Z<|wC [0] [1,2,3] Z zv Z (@QaZ N a8 0 a6) (bg [] Z) Z (H':=V3 ..) Z ?_;rintro _ _ _ ⟨rfl,rfl,rfl⟩;refine Q2<|cu 0 [1,3,1,3,1] Z<|xN z 31 Z kH<|xP z 32 Z<|fA Z<|xP z 33 Z<|QC z Z<|Qu<|k4 52 4 3 1 Z<|yE Z<|k3 4 3 1 Z<|QT<|Q8<|Qu ?_;refine Qc<|ay Z<|Qs Z<|Qt (S':=V4 ..) Z Z Z Z Z<|Q2<|Br<|yz<|k3 4 3 1 Z<|Q6<|sq<|ay Z<|Qs Z<|fH 16 4 3 1 Z<|yE Z ?_;refine k0 Z<|ib<|Qa<|Qa<|Qx<|Qu<|sq<|wP Z<|nr ?_;obtain rfl:=Zi e;refine cr [] [] results5 Z ⟨Z,Z,Z⟩ Z
end
section
open Go Go.RowKit
theorem GD:Mf lQ iE=true:=by
 have h:OH 9223372036855854808 lQ iE=some true:=au
 have h2:=Qco (N:=9223372036855854808) (types:=lQ) (rules:=iE) bj (λr hr=>by
  rw[List.mem_singleton.1 hr]
  exact ⟨λc hc=>by
   rcases List.mem_cons.1 hc with rfl|hc;· exact⟨bj,bj⟩
   · rw[List.mem_singleton.1 hc];exact⟨bj,bj⟩,λa U=>by
   rcases List.mem_cons.1 U with rfl|U;· decide
   · rw[List.mem_singleton.1 U];decide⟩)
 rw[h]at h2;exact(Option.some.inj h2).symm
theorem Hv {x:Int} (h:0<=x/\x<=255):nR .u8 x:=by
 have U:IntKind.min .u8=0:=bj
 have e2:IntKind.max .u8=255:=bj
 unfold nR;rw[U,e2];exact h
theorem lj {x:Int} (h:-9223372036854775808<=x/\x<=9223372036854775807):nR .i64 x:=by
 have U:IntKind.min .i64=-9223372036854775808:=bj
 have e2:IntKind.max .i64=9223372036854775807:=bj
 unfold nR;rw[U,e2];exact h
theorem tT:xU zV:=⟨Hv bj,lj bj,bj⟩
theorem EO {n:Int} (h:-9223372036854775808<=n/\n<=9223372036854775807):xU ⟨1,n,⟨#[]⟩⟩:=⟨Hv (show(0:Int)<=1/\(1:Int)<=255 by decide),lj h,by show(0:Nat)<=_;omega⟩
theorem mL {k x o:Int} {v:V} (hk:0<=k/\k<=255)(hv:xU v)(hx:-9223372036854775808<=x/\x<=9223372036854775807)(U:0<=o/\o<=255) {l:List Q4} (hl:l.length<=100)(h:∀y∈l,cx y):cx ⟨k,v,x,o,l⟩:=
 .mk _ (Hv hk) hv (lj hx) (Hv U) (by show l.length<=_;omega) h
theorem R4:cx zE:=mL bj tT bj bj bj (λy hy=>by cases hy)
theorem Uj:qF lQ iE where
 right:=GD
 ok:=λr hr=>by
  rw[List.mem_singleton.1 hr];refine⟨bj,lj bj,lj bj,⟨bj,λc hc=>?_⟩,⟨bj,λa U=>?_⟩⟩
  ·rcases List.mem_cons.1 hc with rfl|hc
   ·refine⟨Hv bj,lj bj,⟨bj,λa U=>?_⟩,R4⟩;rcases List.mem_cons.1 U with rfl|U;· exact⟨Hv bj,lj bj,tT⟩
    · rw[List.mem_singleton.1 U];exact⟨Hv bj,lj bj,EO bj⟩
   ·rw[List.mem_singleton.1 hc];refine⟨Hv bj,lj bj,⟨bj,λa U=>?_⟩,R4⟩;rcases List.mem_cons.1 U with rfl|U;· exact⟨Hv bj,lj bj,tT⟩
    · rw[List.mem_singleton.1 U];exact⟨Hv bj,lj bj,tT⟩
  ·rcases List.mem_cons.1 U with rfl|U
   ·refine ⟨Hv bj,lj bj,lj bj,bj,λe he=>?_⟩;rcases List.mem_cons.1 he with rfl|he;· exact mL bj tT bj bj bj (λy hy=>by cases hy)
    ·rw[List.mem_singleton.1 he];refine mL bj tT bj bj bj λy hy=>?_
     rcases List.mem_cons.1 hy with rfl|hy;· exact mL bj tT bj bj bj (λy hy=>by cases hy)
     ·rw[List.mem_singleton.1 hy];exact mL bj (EO bj) bj bj bj (λy hy=>by cases hy)
   ·rw[List.mem_singleton.1 U];exact⟨Hv bj,lj bj,lj bj,bj,λe he=>by cases he⟩
 light:=λr hr=>by
  rw[List.mem_singleton.1 hr];refine⟨λc hc=>?_,λa U=>?_⟩
  ·rcases List.mem_cons.1 hc with rfl|hc;· exact⟨bj,bj⟩
   · rw[List.mem_singleton.1 hc];exact⟨bj,bj⟩
  ·rcases List.mem_cons.1 U with rfl|U;· decide
   · rw[List.mem_singleton.1 U];decide
def af (id a b:Int):Qq:=⟨id,0,[⟨1,a,⟨#[]⟩⟩,⟨1,b,⟨#[]⟩⟩]⟩
theorem vI {n:Int}:pZ ⟨1,n,⟨#[]⟩⟩=true:=by
 unfold pZ;exact @decide_eq_true _ (Classical.propDecidable _) (.inl ⟨rfl,rfl⟩)
theorem I8 {id a b:Int} (h:0<id/\id<=1099511627776):iR lQ 0 (af id a b)=true:=by
 unfold iR;have U:decide (0<(af id a b).id/\(af id a b).id<=1099511627776)=true:=decide_eq_true h;rw[U,Bool.true_and];have e:ug lQ (af id a b).ty (((af id a b).args.length:Nat):Int)=true:=rfl;rw[e,Bool.true_and];show(List.all [_,_] pZ)=true;rw[List.all_cons,List.all_cons,List.all_nil,vI,vI];rfl
theorem MH {a b:Int} (ha:du a)(hb:du b):HJ [⟨1,a,⟨#[]⟩⟩,⟨1,b,⟨#[]⟩⟩]:=⟨by show 2<=_;omega,λv U=>by
 rcases List.mem_cons.1 U with rfl|U;· exact⟨ha,by show 0<=_;omega⟩
 · rw[List.mem_singleton.1 U];exact⟨hb,by show 0<=_;omega⟩⟩
theorem I7 {facts:List Qq} {id a b:Int} (h:0<id/\id<=1099511627776)(ha:du a)(hb:du b)(hl:facts.length<=1000000)(hn:(facts.any λg=>decide (g.id=id))=false)(hs:oL (gB (af id a b) facts) iE<=4096):
  mj NB (.net lQ iE facts) id 0 [⟨1,a,⟨#[]⟩⟩,⟨1,b,⟨#[]⟩⟩]=some (0,.net lQ iE (gB (af id a b) facts)):=by
 unfold mj;simp only;rw[if_pos ⟨Nat.le_refl _,hl,MH ha hb⟩]
 have e:oa lQ iE facts (af id a b)=(gB (af id a b) facts,0):=by
  unfold oa;have U:(facts.any λg=>decide (g.id=(af id a b).id))=false:=hn;rw[if_pos (I8 h),U,if_neg ax,if_pos hs]
 show some ((oa lQ iE facts (af id a b)).2,hU.net lQ iE (oa lQ iE facts (af id a b)).1)=_;rw[e]
theorem a1d:oL [af 1 1 1] iE=2:=au
theorem a1e:oL [af 1 1 1,af 2 1 2] iE=3:=au
theorem a1f:oL [af 2 1 2] iE=0:=au
theorem Y3:kr [af 1 1 1] iE 0=[⟨0,[1,1]⟩]:=au
theorem Y4:kr [af 1 1 1,af 2 1 2] iE 0=[⟨0,[1,1]⟩,⟨0,[1,2]⟩]:=au
theorem Y5:kr [af 2 1 2] iE 0=[]:=au
theorem Ie:WG NB=some true:=by
 have h1:newN NB lQ iE=some (.net lQ iE []):=if_pos ⟨Nat.le_refl _,Uj⟩;have U:mj NB (.net lQ iE []) 1 0 [⟨1,1,⟨#[]⟩⟩,⟨1,1,⟨#[]⟩⟩]=some (0,.net lQ iE [af 1 1 1]):=I7 bj (by unfold du;decide) (by unfold du;decide) bj rfl (by show oL [af 1 1 1] iE<=4096;rw[a1d];decide)
 have h3:iZ NB (.net lQ iE [af 1 1 1])=some [⟨0,[1,1]⟩]:=by
  unfold iZ;simp only;rw[if_pos (Nat.le_refl _),Y3]
 have h4:mj NB (.net lQ iE [af 1 1 1]) 2 0 [⟨1,1,⟨#[]⟩⟩,⟨1,2,⟨#[]⟩⟩]=some (0,.net lQ iE [af 1 1 1,af 2 1 2]):=I7 bj (by unfold du;decide) (by unfold du;decide) bj rfl (by show oL [af 1 1 1,af 2 1 2] iE<=4096;rw[a1e];decide)
 have h5:iZ NB (.net lQ iE [af 1 1 1,af 2 1 2])=some [⟨0,[1,1]⟩,⟨0,[1,2]⟩]:=by
  unfold iZ;simp only;rw[if_pos (Nat.le_refl _),Y4]
 have h6:Mz NB (.net lQ iE [af 1 1 1,af 2 1 2]) 1=some (0,.net lQ iE [af 2 1 2]):=by
  unfold Mz;simp only;rw[if_pos ⟨Nat.le_refl _,bj⟩]
  have e:im iE [af 1 1 1,af 2 1 2] 1=([af 2 1 2],0):=by
   unfold im;rw[if_pos Ic];exact if_pos (by show oL [af 2 1 2] iE<=4096;rw[a1f];decide)
  rw[e]
 have h7:iZ NB (.net lQ iE [af 2 1 2])=some []:=by
  unfold iZ;simp only;rw[if_pos (Nat.le_refl _),Y5]
 have h8:Mz NB (.net lQ iE [af 2 1 2]) 1=some (6,.net lQ iE [af 2 1 2]):=by
  unfold Mz;simp only;rw[if_pos ⟨Nat.le_refl _,bj⟩]
  have e:im iE [af 2 1 2] 1=([af 2 1 2],6):=by
   unfold im;exact if_neg bj
  rw[e]
 unfold WG WA;rw[h1,Q1,Q1,U,Q1];simp only;rw[h3,Q1,Q1,h4,Q1];simp only;rw[h5,Q1,h6,Q1];simp only;unfold Q4U;simp only[h7,h8,An,Q1];rfl
theorem Gs {N:Nat} (hN:9223372036854775808<=N) {l:List HK} (hl:l.length<=140737488351232)(ha:∀d∈l,d.fact.args.length<=4398046511104):∃b,WH N l=some b/\(b=true->l.length<=40/\∀d∈l,d.fact.args.length<=20/\∀v∈d.fact.args,v.s.size<=100):=by
 have inner:∀i,i<l.length->∀d,l[i]? =some d->∃o,fF (V2 N l i) N 0=some o/\(o=.inl ()/\(∀v∈d.fact.args,v.s.size<=100)\/o=.inr (.inr (.inr false))):=by
  intro i hi d hd;refine VI (f:=V2 N l i) (λj=>j<=d.fact.args.length/\∀v∈d.fact.args.take j,v.s.size<=100) (λj=>d.fact.args.length-j) _ (λj hj=>?_) N 0 ⟨Nat.zero_le _,ax⟩ (by have:=ha d (List.mem_of_getElem? hd);omega);obtain⟨h1,h2⟩:=hj;unfold V2;rw[hd,Q1];by_cases bp:j<d.fact.args.length
  ·rw [br bp,Q1,List.getElem?_eq_getElem bp,Q1];by_cases hs:100<d.fact.args[j].s.size
   ·rw[br hs];exact .inr ⟨_,rfl,.inr rfl⟩
   ·rw [bs hs,QY (by have:=ha d (List.mem_of_getElem? hd);omega)];refine .inl ⟨_,rfl,⟨an,λv U=>?_⟩,an⟩;rw[List.take_add_one,List.getElem?_eq_getElem bp]at U;rcases List.mem_append.1 U with U|U;· exact h2 v U
    ·have:v=d.fact.args[j]:=by simpa using U
     rw[this];omega
  ·rw[bs bp];refine .inr ⟨_,rfl,.inl ⟨rfl,?_⟩⟩;rw[List.take_of_length_le an]at h2;exact h2
 have outer:∃o,fF (V0 N l) N 0=some o/\(o=.inl ()/\(∀d∈l,d.fact.args.length<=20/\∀v∈d.fact.args,v.s.size<=100)\/o=.inr false):=by
  refine VI (f:=V0 N l) (λi=>i<=l.length/\∀d∈l.take i,d.fact.args.length<=20/\∀v∈d.fact.args,v.s.size<=100) (λi=>l.length-i) _ (λi hi=>?_) N 0 ⟨Nat.zero_le _,ax⟩ an;obtain⟨h1,h2⟩:=hi;unfold V0;by_cases bp:i<l.length
  ·have hd:=List.getElem?_eq_getElem bp;rw[br bp,hd,Q1];by_cases h20:20<l[i].fact.args.length
   ·rw[br h20,H3];exact .inr ⟨_,rfl,.inr rfl⟩
   ·rw [bs h20];obtain⟨o,ho,hr⟩:=inner i bp _ hd;rw[ho];rcases hr with⟨rfl,U⟩|rfl
    ·rw [rv,QY an];refine .inl ⟨_,rfl,⟨an,λd zI=>?_⟩,an⟩;rw[List.take_add_one,hd]at zI;rcases List.mem_append.1 zI with zI|zI;· exact h2 d zI
     ·have:d=l[i]:=by simpa using zI
      rw[this];exact⟨an,U⟩
    ·rw[H3];exact .inr ⟨_,rfl,.inr rfl⟩
  ·rw[bs bp];refine .inr ⟨_,rfl,.inl ⟨rfl,?_⟩⟩;rw[List.take_of_length_le an]at h2;exact h2
 obtain⟨o,ho,hr⟩:=outer;unfold WH;rw[ho];rcases hr with⟨rfl,U⟩|rfl
 ·rw[rv];exact⟨_,rfl,λh=>⟨by simpa using h,U⟩⟩
 ·rw[H3];exact⟨_,rfl,λh=>by cases h⟩
end
section
open Go Go.RowKit
theorem xZ (x:Qq)(ok:AB x):Q3x NB x.id x.ty x.args=some true:=by
 obtain ⟨b,U,_⟩:=Gs (N:=NB) bj (l:=[⟨false,⟨x.id,x.ty,x.args⟩⟩]) (by show 1<=_;omega) (λd hd=>by
  rw[List.mem_singleton.1 hd];have:=ok.2.2.1;show x.args.length<=_;omega)
 unfold Q3x;rw[Ie,Q1,if_neg ax,U,Q1];cases b with
 |false=>rfl
 |true=>rfl
end
end Go.Proofs.YtocfkfhdcnjklaaGreatDoor
