import Derived.Test.YtocfkfhdcnjklaaGreatDoorNaivT
import Derived.Test.YtocfkfhdcnjklaaGreatDoorYW1
import Derived.LoopN
namespace Go.Proofs.YtocfkfhdcnjklaaGreatDoor
section
open Go Go.RowKit Classical
inductive fI where
 |nil
 |zero
 |net (ts:List Q7) (rules:List Qa) (facts:List Qq)
def OQ:List Value:=[.slice none 0 0,.slice none 0 0,.map none,.map none,.int .i64 0]
def I2 (o:Option Nat)(x:fI)(N F:eh)(w:World):Prop:=match o,x with
 |none,.nil=>True
 |some a,.zero=>(Fact.blk a OQ 85).op N F w
 |some a,.net ts rules facts=>∃s,xb ts rules facts a s/\mc gg s N F w
 |_,_=>False
theorem I2.good {o:Option Nat} {x:fI} {N N' F G:eh} {w U:World} (hN:∀k,N k->N' k)(ha:fB N w U)(hF:∀k,F k->G k)(hb:fB F w U)(h:I2 o x N F w):I2 o x N' G U:=by
 cases o with
 |none=>cases x<;>exact h
 | some a=>cases x with
   |nil=>exact h
   |zero=>exact⟨hN _ h.1,(ha a h.1).trans h.2⟩
   | net ts rules facts=>
     obtain⟨s,h1,h2⟩:=h;exact⟨s,h1,h2.good hN ha hF hb⟩
def jj (o:Option Nat)(x:fI):Fact:=.duo (λN F w=>I2 o x N F w) I2.good
theorem ng {C:Ctx} {R R':Value->List Fact->List Fact->Prop} {e:Ending} {w:World} (h:rR C R e w)(hR:∀v bo Hr,R v bo Hr->Qj C bo Hr w->∃uW U,R' v uW U/\Qj C uW U w):rR C R' e w:=by
 obtain⟨v,bo,Hr,h1,h2,h3⟩:=h;obtain⟨uW,U,h4,h5⟩:=hR v bo Hr h2 h3;exact⟨v,uW,U,h1,h4,h5⟩
theorem ri {P:Program} {f:FuncId} {args:List Value} {Φ:List Fact} {K:Fact} {R R':Value->List Fact->List Fact->Prop} {p:Q8->Prop} (hK:∀N F w,K.op N F w->∃s,p s/\(Q3 gg s).op N F w)(h:∀s,p s->QB P f args Φ [Q3 gg s] R)
  (hR:∀C v U Hr w,R v U Hr->Qj C U Hr w->∃uW LJ,R' v uW LJ/\Qj C uW LJ w):QB P f args Φ [K] R':=λF N w hF ec hH eP Dg=>by
 obtain⟨s,h1,h2⟩:=hK _ _ _ (hH 0 K rfl)
 have hc:=h s h1 F N w hF ec (λi q hi=>by
  cases i with
  |zero=>cases hi;exact h2
  |succ i=>simp at hi) eP Dg
 exact hc.mono λe w' hr=>ng hr λv U Hr=>hR _ v U Hr w'
theorem B9 {P:Program} {f:FuncId} {args:List Value} {Φ:List Fact} {R R':Value->List Fact->List Fact->Prop} (h:QB P f args Φ [Q3 gg (λ_=>none)] R)
  (hR:∀C v U Hr w,R v U Hr->Qj C U Hr w->∃uW LJ,R' v uW LJ/\Qj C uW LJ w):QB P f args Φ [] R':=λF N w hF ec _ _ _=>by
 have hc:=h F (λ_ _=>False) w hF ec (λi q hi=>by
  cases i with
  | zero=>
    cases hi;exact⟨λ_ _=>False,λ_ _ h=>h.elim,λ_ _ _ _ h=>h.elim,λa o h=>by cases h⟩
  |succ i=>simp at hi) (λ_ _ _ h=>h.elim) (λ_ _ _ _ _ _ h=>h.elim)
 have e:(λk=>∃i,i<[Q3 gg (λ_=>none)].length/\(λ(_:Nat) (_:Nat)=>False) i k)=(λk=>∃i,i<([]:List Fact).length/\N i k):=by
  funext k;refine propext ⟨λ⟨_,_,h⟩=>h.elim,λ⟨_,h,_⟩=>absurd h (Nat.not_lt_zero _)⟩
 rw[e]at hc;exact hc.mono λe w' hr=>ng hr λv U Hr=>hR _ v U Hr w'
theorem tj {C:Ctx} {a:Nat} {ts:List Q7} {rules:List Qa} {facts:List Qq} {s:Q8} {w:World} {H:List Fact} {Φ:List Fact} {k:Nat} (h:Qj C Φ H w)(hk:H[k]? =some (Q3 gg s))(U:xb ts rules facts a s):Qj C Φ (H.set k (jj (some a) (.net ts rules facts))) w:=
 h.as_ k hk λ_ _ hp=>⟨s,U,hp⟩
abbrev NB:Nat:=9223372036860000000
def Ct (l:List V):Prop:=l.length<=4398046511104/\∀v∈l,pO v
noncomputable def newN (N:Nat)(ts:List Q7)(rules:List Qa):Option fI:=
 if NB<=N/\mj ts rules then some (.net ts rules [])
 else if Mz N ts rules=some false then some .nil
 else none
noncomputable def xc (N:Nat)(x:fI)(id ty:Int)(l:List V):Option (Nat×fI):=match x with
 | .net ts rules facts=>if NB<=N/\facts.length<=1000000/\Ct l then some ((kl ts rules facts ⟨id,ty,l⟩).2,.net ts rules (kl ts rules facts ⟨id,ty,l⟩).1)else none
 |_=>none
noncomputable def Ej (N:Nat)(x:fI)(id:Int):Option (Nat×fI):=match x with
 | .net ts rules facts=>if NB<=N/\facts.length<=1000000 then some ((C5 rules facts id).2,.net ts rules (C5 rules facts id).1)else none
 |_=>none
noncomputable def yT (N:Nat)(x:fI):Option (List QA):=match x with
 | .net _ rules facts=>if NB<=N then some (iV facts rules 0)else none
 |_=>none
def js (_:Nat)(x:fI):Option Nat:=match x with
 | .net _ _ facts=>some facts.length
 |_=>none
theorem F8 {N:Nat} (h:NB<=N):B0+4000000<=N:=Nat.le_trans bf h
section
variable {N:Nat} {o:Option Nat} {x y:fI}
theorem Up {a:Option Nat} {ts:List Q7} {rules:List Qa} {facts:List Qq} {M F:eh} {w:World} (h:(jj a (.net ts rules facts)).op M F w):∃b,a=some b/\∃s,xb ts rules facts b s/\(Q3 gg s).op M F w:=by
 cases a with
 |none=>exact h.elim
 |some b=>exact⟨b,rfl,h⟩
theorem QbT {P:Program} {f:FuncId} {args:Option Nat->List Value} {Φ:List Fact} {R:Option Nat->Value->List Fact->List Fact->Prop} {ts:List Q7} {rules:List Qa} {facts:List Qq} (h:∀b,o=some b->QB P f (args o) Φ [jj o (.net ts rules facts)] (R o)):QB P f (args o) Φ [jj o (.net ts rules facts)] (R o):=λF M w hF ec hH eP U=>by
 obtain⟨b,e,_⟩:=Up (hH 0 _ rfl);exact h b e F M w hF ec hH eP U
theorem a00 {cg eW:Option Addr} {ck eV:Nat} {U:List Q7} {l1:List Qa} (h:newN N U l1=some x):QB Tryz.prog 13 [.agg #[.slice cg U.length ck,.slice eW l1.length eV]] [.sli 2 Qd cg ck U,.sli 5 Qe eW eV l1,tF] [] (λv bo Hr=>∃o:Option Nat,v=.pointer (Option.map pA o)/\bo=[]/\Hr=[jj o x]):=by
 unfold newN at h;split at h
 ·rename_i hc;cases h;refine B9 (nK N cg ck U eW eV l1 (λ_=>none) (λq=>∃a,q.1=some a/\xb U l1 [] a q.2) (Uq (F8 hc.1) hc.2 λa s' hn=>⟨a,rfl,hn⟩)) ?_;rintro C v bo Hr w ⟨o0,o1,⟨a,h1,h2⟩,rfl,rfl,rfl⟩ hh;subst h1;exact⟨[],[jj (some a) (.net U l1 [])],⟨some a,rfl,rfl,rfl⟩,tj hh (k:=0) rfl h2⟩
 ·split at h
  ·rename_i hc;cases h;refine B9 (nK N cg ck U eW eV l1 (λ_=>none) (λq=>q.1=none) ?_) ?_
   ·unfold VV;exact Qi hc (jr rfl rfl)
   ·rintro C v bo Hr w ⟨o0,o1,h1,rfl,rfl,rfl⟩ hh;have h1:o0=none:=h1;subst h1;exact⟨[],[jj none .nil],⟨none,rfl,rfl,rfl⟩,hh.as_ 0 rfl λ_ _ _=>trivial⟩
  · cases h
theorem Y8 {id ty:Int} {p:Option Addr} {c:Nat} {l:List V} {k:Nat} (h:xc N x id ty l=some (k,y)):QB Tryz.prog 20 [.pointer (Option.map pA o),.agg #[.int .i64 id,.int .i64 ty,.slice p l.length c]] [.sli 3 dq p c l] [jj o x] (λv U Hr=>v=.int .i64 ((k:Nat):Int)/\U=[]/\Hr=[jj o y]):=by
 unfold xc at h;split at h
 ·rename_i ts rules facts;split at h
  ·rename_i hc;cases h;refine QbT (args:=λo=>[.pointer (Option.map pA o),.agg #[.int .i64 id,.int .i64 ty,.slice p l.length c]]) (R:=λo v U Hr=>v=.int .i64 _/\U=[]/\Hr=[jj o _]) λa e=>?_
   subst e;refine ri (p:=xb ts rules facts a) (λ_ _ _ h=>h) (λs hs=>oW N a id ty p c l s (λq=>q.1=(kl ts rules facts ⟨id,ty,l⟩).2/\xb ts rules (kl ts rules facts ⟨id,ty,l⟩).1 a q.2) (Sj (f:=⟨id,ty,l⟩) (F8 hc.1) hs hc.2.1 hc.2.2.1 hc.2.2.2 λs' hn=>⟨rfl,hn⟩)) ?_;rintro C v U Hr w ⟨o0,o1,⟨h1,h2⟩,rfl,rfl,rfl⟩ hh;have h1:o0=_:=h1;subst h1;exact⟨[],_,⟨rfl,rfl,rfl⟩,tj hh (k:=0) rfl h2⟩
  · cases h
 · cases h
theorem SD {id:Int} {k:Nat} (h:Ej N x id=some (k,y)):QB Tryz.prog 18 [.pointer (Option.map pA o),.int .i64 id] [] [jj o x] (λv U Hr=>v=.int .i64 ((k:Nat):Int)/\U=[]/\Hr=[jj o y]):=by
 unfold Ej at h;split at h
 ·rename_i ts rules facts;split at h
  ·rename_i hc;cases h;refine QbT (args:=λo=>[.pointer (Option.map pA o),.int .i64 id]) (R:=λo v U Hr=>v=.int .i64 _/\U=[]/\Hr=[jj o _]) λa e=>?_
   subst e;refine ri (p:=xb ts rules facts a) (λ_ _ _ h=>h) (λs hs=>nJ N a id s (λq=>q.1=(C5 rules facts id).2/\xb ts rules (C5 rules facts id).1 a q.2) (Ng (F8 hc.1) hs hc.2 λs' hn=>⟨rfl,hn⟩)) ?_;rintro C v U Hr w ⟨o0,o1,⟨h1,h2⟩,rfl,rfl,rfl⟩ hh;have h1:o0=_:=h1;subst h1;exact⟨[],_,⟨rfl,rfl,rfl⟩,tj hh (k:=0) rfl h2⟩
  · cases h
 · cases h
theorem a0q {l:List QA} (h:yT N x=some l):QB Tryz.prog 27 [.pointer (Option.map pA o)] [] [jj o x] (λv U Hr=>∃(p:Option Addr)(c:Nat)(n:Nat),v=.slice p n c/\U=[]/\Hr=[.own 101 2 qK (.slice p n c) l,jj o x]):=by
 unfold yT at h;split at h
 ·rename_i ts rules facts;split at h
  ·rename_i hc;cases h;refine QbT (args:=λo=>[.pointer (Option.map pA o)]) (R:=λo v U Hr=>∃(p:Option Addr) (c:Nat) (n:Nat),v=.slice p n c/\U=[]/\Hr=[.own 101 2 qK (.slice p n c) _,jj o _]) λa e=>?_
   subst e;refine ri (p:=xb ts rules facts a) (R:=λv U Hr=>∃s,xb ts rules facts a s/\∃(p:Option Addr) (c:Nat) (n:Nat),v=.slice p n c/\U=[]/\Hr=[.own 101 2 qK (.slice p n c) (iV facts rules 0),Q3 gg s]) (λ_ _ _ h=>h) (λs hs=>?_) ?_
   ·intro F M w hF ec hH eP Dg;refine(Qc0 N a s (λl=>l=iV facts rules 0) (Vi (F8 hc) hs rfl) F M w hF ec hH eP Dg).mono λe w' hr=>ng hr ?_
    rintro v U Hr ⟨o2,o0,o1,o3,rfl,rfl,rfl,rfl⟩ hh;exact⟨_,_,⟨s,hs,o0,o1,o3,rfl,rfl,rfl⟩,hh⟩
   ·rintro C v U Hr w ⟨s,hs,p,c,n,rfl,rfl,rfl⟩ hh;exact⟨[],_,⟨p,c,n,rfl,rfl,rfl⟩,tj hh (k:=1) rfl hs⟩
  · cases h
 · cases h
theorem ZN {k:Nat} (h:js N x=some k):QB Tryz.prog 25 [.pointer (Option.map pA o)] [] [jj o x] (λv U Hr=>v=.int .i64 ((k:Nat):Int)/\U=[]/\Hr=[jj o x]):=by
 unfold js at h;split at h
 ·rename_i ts rules facts;cases h;refine QbT (args:=λo=>[.pointer (Option.map pA o)]) (R:=λo v U Hr=>v=.int .i64 _/\U=[]/\Hr=[jj o _]) λa e=>?_
  subst e;refine ri (p:=xb ts rules facts a) (R:=λv U Hr=>∃s,xb ts rules facts a s/\v=.int .i64 ((facts.length:Nat):Int)/\U=[]/\Hr=[Q3 gg s]) (λ_ _ _ h=>h) (λs hs=>?_) ?_
  ·intro F M w hF ec hH eP Dg;refine(oX NB a s (λl=>l=facts.length) (Um hs rfl) F M w hF ec hH eP Dg).mono λe w' hr=>ng hr ?_
   rintro v U Hr ⟨o0,rfl,rfl,rfl,rfl⟩ hh;exact⟨_,_,⟨s,hs,rfl,rfl,rfl⟩,hh⟩
  ·rintro C v U Hr w ⟨s,hs,rfl,rfl,rfl⟩ hh;exact⟨[],_,⟨rfl,rfl,rfl⟩,tj hh (k:=0) rfl hs⟩
 · cases h
theorem R5 (cg:Option Addr)(ck:Nat)(U:List Q7)(eW:Option Addr)(eV:Nat)(l1:List Qa)(x:fI)(h:newN N U l1=some x):QB Tryz.prog 13 [.agg #[.slice cg U.length ck,.slice eW l1.length eV]] [.sli 2 Qd cg ck U,.sli 5 Qe eW eV l1,tF] [] (λv bo Hr=>∃o:Option Nat,v=.pointer (Option.map pA o)/\bo=[]/\Hr=[jj o x]):=a00 h
theorem vf (o:Option Nat)(x:fI)(id ty:Int)(p:Option Addr)(c:Nat)(l:List V)(k:Nat)(y:fI)(h:xc N x id ty l=some (k,y)):QB Tryz.prog 20 [.pointer (Option.map pA o),.agg #[.int .i64 id,.int .i64 ty,.slice p l.length c]] [.sli 3 dq p c l] [jj o x] (λv U Hr=>v=.int .i64 ((k:Nat):Int)/\U=[]/\Hr=[jj o y]):=Y8 h
theorem su (o:Option Nat)(x:fI)(id:Int)(k:Nat)(y:fI)(h:Ej N x id=some (k,y)):QB Tryz.prog 18 [.pointer (Option.map pA o),.int .i64 id] [] [jj o x] (λv U Hr=>v=.int .i64 ((k:Nat):Int)/\U=[]/\Hr=[jj o y]):=SD h
theorem tT (o:Option Nat)(x:fI)(l:List QA)(h:yT N x=some l):QB Tryz.prog 27 [.pointer (Option.map pA o)] [] [jj o x] (λv U Hr=>∃(p:Option Addr)(c:Nat)(n:Nat),v=.slice p n c/\U=[]/\Hr=[.own 101 2 qK (.slice p n c) l,jj o x]):=a0q h
theorem F1 (o:Option Nat)(x:fI)(k:Nat)(h:js N x=some k):QB Tryz.prog 25 [.pointer (Option.map pA o)] [] [jj o x] (λv U Hr=>v=.int .i64 ((k:Nat):Int)/\U=[]/\Hr=[jj o x]):=ZN h
end
end
section
open Go Go.RowKit
def zV:V:=⟨0,0,⟨#[]⟩⟩
def zE:Q4:=⟨0,zV,0,0,[]⟩
def lU:List Q7:=[⟨⟨#[112]⟩,2⟩]
def iI:List Qa:=[⟨⟨#[114]⟩,0,2,[⟨1,0,[⟨2,0,zV⟩,⟨4,0,⟨1,1,⟨#[]⟩⟩⟩],zE⟩,⟨1,0,[⟨3,0,zV⟩,⟨2,1,zV⟩],zE⟩],[⟨1,0,0,[⟨2,zV,1,0,[]⟩,⟨3,zV,0,1,[⟨2,zV,0,0,[]⟩,⟨1,⟨1,1,⟨#[]⟩⟩,0,0,[]⟩]⟩]⟩,⟨2,0,1,[]⟩]⟩]
noncomputable section
def rdS (hp:di)(sz n:Nat):SV->Option (List SV)
 | .v (.slice none 0 0)=>match n with
   |0=>some []
   |_=>none
 | .sl g 0 len 0 true=>match kB hp g with
   | some (.row cs m Mo _)=>match Nat.beq m len&&(Nat.beq len n&&Nat.beq Mo sz)with
     |true=>some cs
     |false=>none
   |_=>none
 |_=>none
def IA {α:Type} (f:List SV->α->Bool)(sz:Nat):List SV->List α->Bool
 |cs,[]=>cs.isEmpty
 |cs,y::l=>Nat.beq (cs.take sz).length sz&&(f (cs.take sz) y&&IA f sz (cs.drop sz) l)
def uG {α:Type} (hp:di)(f:List SV->α->Bool)(sz:Nat)(x:SV)(l:List α):Bool:=match rdS hp sz l.length x with
 |some cs=>IA f sz cs l
 |none=>false
def pF (k:IntKind)(z:Int):SV->Bool
 | .v (.int U z')=>decide (U=k)&&decide (z'=z)
 |_=>false
def SE (s:ByteArray):SV->Bool
 | .v (.string s')=>s'.data.toList==s.data.toList
 |_=>false
def fType:List SV->Q7->Bool
 |[a,b],y=>SE y.name a&&pF .i64 y.fields b
 |_,_=>false
def SH:List SV->eN->Bool
 |[a,b,c,d,e],y=>pF .u8 y.k a&&(pF .i64 y.var b&&(pF .u8 y.v.k c&&(pF .i64 y.v.n d&&SE y.v.s e)))
 |_,_=>false
def zJ (hp:di):Nat->List SV->Q4->Bool
 |m+1,[a,b,c,d,e,f,g],y=>pF .u8 y.kind a&&(pF .u8 y.value.k b&&(pF .i64 y.value.n c&&(SE y.value.s d&&(pF .i64 y.var e&&(pF .u8 y.op f&&uG hp (zJ hp m) 7 g y.kids)))))
 |_,_,_=>false
def J0 (hp:di):List SV->Qp->Bool
 |[k,t,a,b,c,d,e,f,g,h],y=>pF .u8 y.kind k&&(pF .i64 y.type t&&(uG hp SH 5 a y.args&&(pF .u8 y.test.kind b&&(pF .u8 y.test.value.k c&&(pF .i64 y.test.value.n d&&(SE y.test.value.s e&&(pF .i64 y.test.var f&&(pF .u8 y.test.op g&&uG hp (zJ hp 5) 7 h y.test.kids))))))))
 |_,_=>false
def SG (hp:di):List SV->wV->Bool
 |[k,t,w,e],y=>pF .u8 y.kind k&&(pF .i64 y.type t&&(pF .i64 y.which w&&uG hp (zJ hp 5) 7 e y.exprs))
 |_,_=>false
def J1 (hp:di):List SV->Qa->Bool
 |[n,s,v,c,a],y=>SE y.name n&&(pF .i64 y.salience s&&(pF .i64 y.vars v&&(uG hp (J0 hp) 10 c y.conds&&uG hp (SG hp) 4 a y.acts)))
 |_,_=>false
def IB:Option (SV×di×Nat)->Bool
 |some (.tup [.agg [ts,rs],.agg [e,a]],hp,_)=>uG hp fType 2 ts lU&&(uG hp (J1 hp) 5 rs iI&&(pF .i64 0 e&&pF .i64 0 a))
 |_=>false
end
section
variable {ρ:Env} {E:List Value} {hp:di} {Hr:List Fact} {F:eh} {w:World}
theorem qL {k:IntKind} {z:Int} {x:SV} {v:Value} (h:pF k z x=true)(U:x.den ρ E=some v):v=.int k z:=by
 unfold pF at h;split at h
 ·simp only[Bool.and_eq_true,decide_eq_true_eq]at h;obtain⟨rfl,rfl⟩:=h;cases U;rfl
 · cases h
theorem mz {s:ByteArray} {x:SV} {v:Value} (h:SE s x=true)(U:x.den ρ E=some v):v=.string s:=by
 unfold SE at h;split at h
 ·rename_i s'
  have h1:s'=s:=by
   obtain⟨⟨a⟩⟩:=s;obtain⟨⟨b⟩⟩:=s';simp at h;rw[h]
  cases U;rw[h1]
 · cases h
theorem zC:∀{a b:List SV} {vs:List Value},SV.dens ρ E (a++b)=some vs->∃u x,vs=u++x/\SV.dens ρ E a=some u/\SV.dens ρ E b=some x/\u.length=a.length
 |[],b,vs,h=>⟨[],vs,rfl,rfl,h,rfl⟩
 | y::a,b,vs,h=>by
   obtain⟨v,ws,rfl,h1,U⟩:=QF h;obtain⟨u,x,rfl,h3,h4,h5⟩:=zC U;exact⟨v::u,x,rfl,Cv h1 h3,h4,by rw[List.length_cons,h5,List.length_cons]⟩
theorem zy {α:Type} {f:List SV->α->Bool} {sz:Nat} {R:List Value->α->Prop} (hf:∀cs vs y,f cs y=true->SV.dens ρ E cs=some vs->R vs y):∀{l:List α} {cs:List SV} {vs:List Value},IA f sz cs l=true->SV.dens ρ E cs=some vs->fZ sz R vs l
 | [],cs,vs,h,U=>by
   unfold IA at h;cases cs with
   |nil=>cases U;exact rfl
   |cons=>cases h
 | y::l,cs,vs,h,U=>by
   unfold IA at h;simp only[Bool.and_eq_true]at h;rw[<-List.take_append_drop sz cs]at U;obtain⟨u,x,rfl,h1,h2,h3⟩:=zC U;exact⟨u,x,rfl,by rw[h3];exact Nat.eq_of_beq_eq_true h.1,hf _ _ _ h.2.1 h1,zy hf h.2.2 h2⟩
theorem Ox {e sz b n cap:Nat} {xs:List Value} {α:Type} {R:eO α} {l:List α} (h:(yk e sz b n cap xs).p F w)(hn:n=l.length)(hx:fZ sz (R.p F w) xs l):(Fact.sli sz R (some ⟨b,0,none⟩) cap l).p F w:=by
 obtain⟨hF,ho⟩:=h;have U:=ho;rcases ho.2 with⟨h0,_⟩|⟨g,Yc,cur,hv,hb,hg,yZ,JH,qW,fz⟩
 · cases h0
 ·cases hv;subst hn;refine⟨_,_,cap,xs,rfl,rfl,yZ,JH,hx,λ_=>⟨b,0,rfl,hF,λj u hj=>?_⟩⟩;have:=U.cells (g:=b) rfl j u hj;rwa [show(⟨b,0,none⟩:Addr).add j=⟨b,0+j,none⟩from by unfold Addr.add;split<;>simp_all]at this
theorem Pb {α:Type} {f:List SV->α->Bool} {sz:Nat} {R:eO α} {x:SV} {l:List α} {v:Value} (hd:iH ρ E hp Hr)(ec:∀φ∈Hr,φ.p F w)(hf:∀cs vs y,f cs y=true->SV.dens ρ E cs=some vs->R.p F w vs y)(h:uG hp f sz x l=true)(hx:x.den ρ E=some v):
  ∃p c,v=.slice p l.length c/\(Fact.sli sz R p c l).p F w:=by
 unfold uG at h;split at h
 ·rename_i cs U;unfold rdS at U;split at U
  ·split at U
   ·rename_i hl;cases U;cases l with
    | nil=>
      cases hx;exact⟨none,0,rfl,Pd⟩
    |cons y l=>cases hl
   · cases U
  ·rename_i g len;split at U
   ·rename_i yU m Mo ty hg;split at U
    · rename_i hb;cases U;simp only[Bool.and_eq_true]at hb;obtain⟨e1,e2,e3⟩:=hb;have e1:=Nat.eq_of_beq_eq_true e1;have e2:=Nat.eq_of_beq_eq_true e2;have e3:=Nat.eq_of_beq_eq_true e3;obtain⟨k,φ,h1,h2,_⟩:=MF hd hg;obtain⟨b,cap,vs,h3,h4,rfl⟩:=h2;have hp:=ec _ (List.mem_of_getElem? h1);simp only[SV.den,h3,Option.map_some,Option.some.injEq]at hx;subst hx;subst e3;refine⟨some ⟨b,0,none⟩,cap,?_,Ox hp an (zy hf h h4)⟩;rw[<-e2];simp
    · cases U
   · cases U
  · cases U
 · cases h
theorem Gj {cs:List SV} {vs:List Value} {y:Q7} (h:fType cs y=true)(U:SV.dens ρ E cs=some vs):Qd.p F w vs y:=by
 unfold fType at h;split at h
 ·simp only[Bool.and_eq_true]at h;obtain⟨_,_,rfl,h1,U⟩:=QF U;obtain⟨_,_,rfl,h2,U⟩:=QF U;cases U;rw[mz h.1 h1,qL h.2 h2];exact⟨(),rfl,QL⟩
 · cases h
theorem IZ {cs:List SV} {vs:List Value} {y:eN} (h:SH cs y=true)(U:SV.dens ρ E cs=some vs):il.p F w vs y:=by
 unfold SH at h;split at h
 ·simp only[Bool.and_eq_true]at h;obtain⟨_,_,rfl,h1,U⟩:=QF U;obtain⟨_,_,rfl,h2,U⟩:=QF U;obtain⟨_,_,rfl,h3,U⟩:=QF U;obtain⟨_,_,rfl,h4,U⟩:=QF U;obtain⟨_,_,rfl,h5,U⟩:=QF U;cases U;rw[qL h.1 h1,qL h.2.1 h2,qL h.2.2.1 h3,qL h.2.2.2.1 h4,mz h.2.2.2.2 h5];exact⟨(),rfl,QL⟩
 · cases h
theorem ox (hd:iH ρ E hp Hr)(ec:∀φ∈Hr,φ.p F w):∀(m:Nat) {cs:List SV} {vs:List Value} {y:Q4},zJ hp m cs y=true->SV.dens ρ E cs=some vs->Qm.p F w vs y
 |0,cs,vs,y,h,_=>by cases h
 | m+1,cs,vs,y,h,U=>by
   unfold zJ at h;split at h
   ·rename_i m' a b c d e f g y' hm;cases hm;simp only[Bool.and_eq_true]at h;obtain⟨_,_,rfl,h1,U⟩:=QF U;obtain⟨_,_,rfl,h2,U⟩:=QF U;obtain⟨_,_,rfl,h3,U⟩:=QF U;obtain⟨_,_,rfl,h4,U⟩:=QF U;obtain⟨_,_,rfl,h5,U⟩:=QF U;obtain⟨_,_,rfl,h6,U⟩:=QF U;obtain⟨_,_,rfl,h7,U⟩:=QF U;cases U;obtain⟨p,cc,rfl,hs⟩:=Pb (R:=Qm) hd ec (λcs vs y=>ox hd ec m (cs:=cs) (vs:=vs) (y:=y)) h.2.2.2.2.2.2 h7;rw[qL h.1 h1,qL h.2.1 h2,qL h.2.2.1 h3,mz h.2.2.2.1 h4,qL h.2.2.2.2.1 h5,qL h.2.2.2.2.2.1 h6];exact AW (p,cc) rfl (pt hs QL)
   · cases h
theorem Gh (hd:iH ρ E hp Hr)(ec:∀φ∈Hr,φ.p F w) {cs:List SV} {vs:List Value} {y:Qp} (h:J0 hp cs y=true)(U:SV.dens ρ E cs=some vs):BQ.p F w vs y:=by
 unfold J0 at h;split at h
 ·simp only[Bool.and_eq_true]at h;obtain⟨_,_,rfl,h1,U⟩:=QF U;obtain⟨_,_,rfl,h2,U⟩:=QF U;obtain⟨_,_,rfl,h3,U⟩:=QF U;obtain⟨_,_,rfl,h4,U⟩:=QF U;obtain⟨_,_,rfl,h5,U⟩:=QF U;obtain⟨_,_,rfl,h6,U⟩:=QF U;obtain⟨_,_,rfl,h7,U⟩:=QF U;obtain⟨_,_,rfl,h8,U⟩:=QF U;obtain⟨_,_,rfl,h9,U⟩:=QF U;obtain⟨_,_,rfl,h10,U⟩:=QF U;cases U;obtain⟨a1,a2,a3,a4,a5,a6,a7,a8,a9,ig⟩:=h;obtain⟨p,cc,rfl,hs⟩:=Pb (R:=il) hd ec (λ_ _ _=>IZ) a3 h3;obtain⟨q,cd,rfl,ht⟩:=Pb (R:=Qm) hd ec (λcs vs y=>ox hd ec 5 (cs:=cs) (vs:=vs) (y:=y)) ig h10;rw[qL a1 h1,qL a2 h2,qL a4 h4,qL a5 h5,qL a6 h6,mz a7 h7,qL a8 h8,qL a9 h9];exact⟨((p,cc),(q,cd)),rfl,pt hs (pt ht QL)⟩
 · cases h
theorem IY (hd:iH ρ E hp Hr)(ec:∀φ∈Hr,φ.p F w) {cs:List SV} {vs:List Value} {y:wV} (h:SG hp cs y=true)(U:SV.dens ρ E cs=some vs):Cw.p F w vs y:=by
 unfold SG at h;split at h
 ·simp only[Bool.and_eq_true]at h;obtain⟨_,_,rfl,h1,U⟩:=QF U;obtain⟨_,_,rfl,h2,U⟩:=QF U;obtain⟨_,_,rfl,h3,U⟩:=QF U;obtain⟨_,_,rfl,h4,U⟩:=QF U;cases U;obtain⟨p,cc,rfl,hs⟩:=Pb (R:=Qm) hd ec (λcs vs y=>ox hd ec 5 (cs:=cs) (vs:=vs) (y:=y)) h.2.2.2 h4;rw[qL h.1 h1,qL h.2.1 h2,qL h.2.2.1 h3];exact⟨(p,cc),rfl,pt hs QL⟩
 · cases h
theorem Gi (hd:iH ρ E hp Hr)(ec:∀φ∈Hr,φ.p F w) {cs:List SV} {vs:List Value} {y:Qa} (h:J1 hp cs y=true)(U:SV.dens ρ E cs=some vs):Qe.p F w vs y:=by
 unfold J1 at h;split at h
 ·simp only[Bool.and_eq_true]at h;obtain⟨_,_,rfl,h1,U⟩:=QF U;obtain⟨_,_,rfl,h2,U⟩:=QF U;obtain⟨_,_,rfl,h3,U⟩:=QF U;obtain⟨_,_,rfl,h4,U⟩:=QF U;obtain⟨_,_,rfl,h5,U⟩:=QF U;cases U;obtain⟨p,cc,rfl,hs⟩:=Pb (R:=BQ) hd ec (λ_ _ _=>Gh hd ec) h.2.2.2.1 h4;obtain⟨q,cd,rfl,ht⟩:=Pb (R:=Cw) hd ec (λ_ _ _=>IY hd ec) h.2.2.2.2 h5;rw[mz h.1 h1,qL h.2.1 h2,qL h.2.2.1 h3];exact⟨((p,cc),(q,cd)),rfl,pt hs (pt ht QL)⟩
 · cases h
end
theorem Gm {C:Ctx} {w:World}:∀{H Φ:List Fact},Qj C Φ H w->∃Φ',Qj C Φ' [] w/\∀φ∈H,φ∈Φ'
 |[],Φ,h=>⟨Φ,h,λφ bj=>by cases bj⟩
 | φ::H,Φ,h=>by
   have h1:=h.freeze 0 rfl (H':=H) rfl;obtain⟨F,N,hi⟩:=h1;obtain⟨Φ',h2,h3⟩:=sL (H:=H) (Φ:=φ::Φ) ⟨F,N,hi⟩
   exact ⟨Φ',h2.1,λψ U=>by
    rcases List.mem_cons.1 U with rfl|U;· exact h2.2 _ List.mem_cons_self
    · exact h3 ψ U⟩
where
 sL {C:Ctx} {w:World}:∀{H Φ:List Fact},Qj C Φ H w->∃Φ',(Qj C Φ' [] w/\∀φ∈Φ,φ∈Φ')/\∀φ∈H,φ∈Φ'
  |[],Φ,h=>⟨Φ,⟨h,λ_ h=>h⟩,λφ bj=>by cases bj⟩
  | φ::H,Φ,h=>by
    have h1:=h.freeze 0 rfl (H':=H) rfl;obtain⟨Φ',⟨h2,h3⟩,h4⟩:=sL h1
    exact ⟨Φ',⟨h2,λψ U=>h3 ψ (List.mem_cons_of_mem _ U)⟩,λψ U=>by
     rcases List.mem_cons.1 U with rfl|U;· exact h3 _ List.mem_cons_self
     · exact h4 ψ U⟩
theorem KR:IB (Iz Tryz.prog 1000 50 32 [.v (.string ⟨#[102,97,99,116,32,112,40,97,44,32,98,41,59,32,114,117,108,101,32,114,32,123,32,112,40,63,120,44,32,49,41,59,32,112,40,63,120,44,32,63,121,41,59,32,61,62,32,97,115,115,101,114,116,32,112,40,63,121,44,32,63,120,32,43,32,49,41,59,32,114,101,116,114,97,99,116,32,50,59,32,125]⟩)] [] 0 (2^200))=true:=au
theorem KQ:QB Tryz.prog 32 [.string ⟨#[102,97,99,116,32,112,40,97,44,32,98,41,59,32,114,117,108,101,32,114,32,123,32,112,40,63,120,44,32,49,41,59,32,112,40,63,120,44,32,63,121,41,59,32,61,62,32,97,115,115,101,114,116,32,112,40,63,121,44,32,63,120,32,43,32,49,41,59,32,114,101,116,114,97,99,116,32,50,59,32,125]⟩] [] [] (λv bo Hr=>∃(p0:Option Addr)(c0:Nat)(p1:Option Addr)(c1:Nat),v=.tuple #[.agg #[.slice p0 lU.length c0,.slice p1 iI.length c1],.agg #[.int .i64 0,.int .i64 0]]/\bo=[.sli 2 Qd p0 c0 lU,.sli 5 Qe p1 c1 iI]/\Hr=[]):=by
 have ht:=KR;unfold IB at ht;split at ht
 ·rename_i ts rs e a hp lo he;simp only[Bool.and_eq_true]at ht;have hc:=zu (P:=Tryz.prog) [] 1000 50 32 _ [] 0 _ _ _ _ he (λ_=>none) _ [] It trivial (λ_ _ _=>rfl);intro F N w hF ec hH bq sQ;refine(hc F N w hF ec hH bq sQ).mono ?_;rintro en w' ⟨x,bo,Hr,rfl,⟨rfl,ca,_,U,e3,_⟩,hw⟩;obtain⟨Φ',Wr,gK⟩:=Gm hw;obtain⟨F',N',hi⟩:=Wr;have K5:∀φ∈Hr,φ.p F' w':=λφ bj=>hi.facts φ (gK φ bj)
  simp only[SV.den,Option.map_eq_some_iff]at U;obtain⟨vs,U,rfl⟩:=U;obtain⟨v1,_,rfl,g1,U⟩:=QF U;obtain⟨v2,_,rfl,g2,U⟩:=QF U;cases U;simp only[SV.den,Option.map_eq_some_iff]at g1 g2;obtain⟨us,g1,rfl⟩:=g1;obtain⟨u1,_,rfl,k1,g1⟩:=QF g1;obtain⟨u2,_,rfl,k2,g1⟩:=QF g1;cases g1;obtain⟨us,g2,rfl⟩:=g2;obtain⟨u3,_,rfl,k3,g2⟩:=QF g2;obtain⟨u4,_,rfl,k4,g2⟩:=QF g2;cases g2;obtain⟨p0,c0,rfl,s0⟩:=Pb (R:=Qd) e3 K5 (λ_ _ _=>Gj) ht.1 k1;obtain⟨p1,c1,rfl,s1⟩:=Pb (R:=Qe) e3 K5 (λ_ _ _=>Gi e3 K5) ht.2.1 k2;rw[qL ht.2.2.1 k3,qL ht.2.2.2 k4];exact⟨_,_,_,rfl,⟨p0,c0,p1,c1,rfl,rfl,rfl⟩,F',N',{hi with facts:=λφ bj=>pt s0 (pt s1 QL) φ bj}⟩
 · cases ht
end
section
open Go.RowKit
noncomputable def I3 (_:Nat)(_:Int)(_:Int)(_:Int):Option (Unit):=
 some ()
noncomputable def Q4R (N:Nat)(q:Nat)(s:Nat)(z:Nat)(a2:List QA)(a0:List QA)(h:fI):Option (Bool):=
 if (q==0)=true then(
  if (s==0)=true then(
   if (z==0)=true then(
    if (a2.length==1)=true then(
     if (a0.length==2)=true then(
      Qg (a0[1]?) λa3=>
      if (a3.ids.length==2)=true then(
       Qg (a0[1]?) λa4=>
       Qg (a4.ids[1]?) λa5=>
       if (a5==2)=true then(
        Qg (yT N h) λa6=>
        if (a6.length==0)=true then(
         Qg (js N h) λa7=>
         if (a7==1)=true then(
          Qg (Ej N h 1) λ(U,_)=>
          some (U==6)
         )else(
          some false
         )
        )else(
         some false
        )
       )else(
        some false
       )
      )else(
       some false
      )
     )else(
      some false
     )
    )else(
     some false
    )
   )else(
    some false
   )
  )else(
   some false
  )
 )else(
  some false
 )
noncomputable def X4 (N:Nat):Option (Bool):=
 Qg (newN N lU iI) λa3=>
 Qg (I3 N 1 1 1) λ_=>
 Qg (xc N a3 1 0 [(⟨1,1,(⟨#[]⟩:ByteArray)⟩:V),(⟨1,1,(⟨#[]⟩:ByteArray)⟩:V)]) λ(s,h)=>
 Qg (yT N h) λa4=>
 Qg (I3 N 2 1 2) λ_=>
 Qg (xc N h 2 0 [(⟨1,1,(⟨#[]⟩:ByteArray)⟩:V),(⟨1,2,(⟨#[]⟩:ByteArray)⟩:V)]) λ(z,q)=>
 Qg (yT N q) λa5=>
 Qg (Ej N q 1) λ(a0,U)=>
 Qg (Q4R N s z a0 a4 a5 U
 ) λa2=>
 some a2
noncomputable def VH (_:Nat)(s:Int)(h:Int):Option (Int):=
 if (decide (h<1))=true then(
  some 0
 ) else(
  gd (h≠0)<|
  Qg (
   if (decide ((Int.tmod s h)<0))=true then(
    gd (-9223372036854775808<=(Int.tmod s h)+h/\(Int.tmod s h)+h<=9223372036854775807)<|
    some ((Int.tmod s h)+h)
   )else(
    some (Int.tmod s h)
   )
  ) λq=>
  some q
 )
noncomputable def RA (_:Nat)(s:Int):(Nat×(List Qp))->Option ((Nat×(List Qp))⊕(List Qp)):=λ(q,h)=>
 if (decide ((q:Int)<(2+s)))=true then(
  gd (h.length+([(⟨1,0,[(⟨1,0,(⟨0,0,(⟨#[]⟩:ByteArray)⟩:V)⟩:eN),(⟨1,0,(⟨0,0,(⟨#[]⟩:ByteArray)⟩:V)⟩:eN)],(⟨0,(⟨0,0,(⟨#[]⟩:ByteArray)⟩:V),0,0,[]⟩:Q4)⟩:Qp)]).length<=1172812402961)<|
  gd (q+1<=9223372036854775807)<|
  some (.inl (q+1,(h++([(⟨1,0,[(⟨1,0,(⟨0,0,(⟨#[]⟩:ByteArray)⟩:V)⟩:eN),(⟨1,0,(⟨0,0,(⟨#[]⟩:ByteArray)⟩:V)⟩:eN)],(⟨0,(⟨0,0,(⟨#[]⟩:ByteArray)⟩:V),0,0,[]⟩:Q4)⟩:Qp)]))))
 )else(
  some (.inr h)
 )
noncomputable def Vu (N:Nat)(a0:Int):(Nat×fI)->Option ((Nat×fI)⊕(fI⊕Bool)):=λ(h,q)=>
 if (decide ((h:Int)<(1+a0)))=true then(
  gd (h+1<=9223372036854775807)<|
  Qg (I3 N ((h+1:Nat):Int) (h:Int) 0) λ_=>
  Qg (xc N q ((h+1:Nat):Int) 0 [(⟨1,((h:Int)),(⟨#[]⟩:ByteArray)⟩:V),(⟨1,0,(⟨#[]⟩:ByteArray)⟩:V)]) λ(s,z)=>
  if (s !=0)=true then(
   some (.inr (.inr false))
  )else(
   gd (h+1<=9223372036854775807)<|
   some (.inl (h+1,z))
  )
 )else(
  some (.inr (.inl q))
 )
noncomputable def Vv (_:Nat)(a0:Int)(z:Int):(Nat×Int×Int)->Option ((Nat×Int×Int)⊕(Int×Int)):=λ(s,h,q)=>
 if (decide ((s:Int)<(2+a0)))=true then(
  gd (-9223372036854775808<=h*(1+z)/\h*(1+z)<=9223372036854775807)<|
  gd (-9223372036854775808<=q+(h*(1+z))/\q+(h*(1+z))<=9223372036854775807)<|
  gd (s+1<=9223372036854775807)<|
  some (.inl (s+1,h*(1+z),q+(h*(1+z))))
 )else(
  some (.inr (q,h))
 )
noncomputable def Q43 (N:Nat)(a2:Nat)(h:fI)(a3:Int):Option (Bool):=
 if (a2==204)=true then(
  Qg (js N h) λa5=>
  gd (-9223372036854775808<=(1+a3)+1/\(1+a3)+1<=9223372036854775807)<|
  if ((a5:Int)==((1+a3)+1))=true then(
   Qg (yT N h) λa6=>
   if (a6.length==0)=true then(
    Qg (Ej N h 1) λ(q,s)=>
    if (q==0)=true then(
     Qg (I3 N 1 0 0) λ_=>
     Qg (xc N s 1 0 [(⟨1,0,(⟨#[]⟩:ByteArray)⟩:V),(⟨1,0,(⟨#[]⟩:ByteArray)⟩:V)]) λ(z,a0)=>
     if (z==0)=true then(
      Qg (Ej N a0 1000) λ(U,_)=>
      some (U==204)
     )else(
      some false
     )
    )else(
     some false
    )
   )else(
    some false
   )
  )else(
   some false
  )
 )else(
  some false
 )
noncomputable def Vw (_:Nat)(a0:Int)(s:Int):(Nat×Int×Int)->Option ((Nat×Int×Int)⊕(Int×Int)):=λ(z,h,q)=>
 if (decide ((z:Int)<(2+a0)))=true then(
  gd (-9223372036854775808<=(1+s)+1/\(1+s)+1<=9223372036854775807)<|
  gd (-9223372036854775808<=h*((1+s)+1)/\h*((1+s)+1)<=9223372036854775807)<|
  gd (-9223372036854775808<=q+(h*((1+s)+1))/\q+(h*((1+s)+1))<=9223372036854775807)<|
  gd (z+1<=9223372036854775807)<|
  some (.inl (z+1,h*((1+s)+1),q+(h*((1+s)+1))))
 )else(
  some (.inr (q,h))
 )
noncomputable def Q3z (N:Nat)(a0:Int)(a1:Int):Option (Bool):=
 Qg (X4 N) λaK=>
 if (!aK)=true then(
  some false
 ) else (
  Qg (VH N a0 3) λa5=>
  gd (-9223372036854775808<=2+a5/\2+a5<=9223372036854775807)<|
  Qg (VH N a1 130) λq=>
  gd (-9223372036854775808<=1+q/\1+q<=9223372036854775807)<|
  Qg (
   fk (RA N a5) N (0,[(⟨2,1,[],(⟨0,(⟨0,0,(⟨#[]⟩:ByteArray)⟩:V),0,0,[]⟩:Q4)⟩:Qp)])
  ) λs=>
  Qg (newN N [(⟨(⟨#[112]⟩:ByteArray),2⟩:Q7),(⟨(⟨#[113]⟩:ByteArray),0⟩:Q7)] [(⟨(⟨#[114]⟩:ByteArray),0,0,s,[]⟩:Qa)]) λaL=>
  Qg (xc N aL 1000 1 ([]:List V)) λ(aB,aC)=>
  if (aB !=0)=true then(
   some false
  ) else(
   ji (
    fk (Vu N q) N (0,aC)
   ) λa4=>
   Qg (
    fk (Vv N a5 q) N (0,1,1)
   ) λ(a8,a2)=>
   Qg (Ej N a4 1000) λ(U,z)=>
   if (decide (a8>4096))=true then(
    Qg (Q43 N U z q
    ) λaD=>
    some aD
   ) else(
    Qg (
     if (U !=0)=true then(
      some true
     )else(
      Qg (yT N z) λaE=>
      some ((aE.length:Int) !=a2)
     )
    ) λa7=>
    if a7=true then(
     some false
    ) else(
     Qg (
      fk (Vw N a5 q) N (0,1,1)
     ) λ(a9,aA)=>
     Qg (I3 N 2000 9 9) λ_=>
     Qg (xc N z 2000 0 [(⟨1,9,(⟨#[]⟩:ByteArray)⟩:V),(⟨1,9,(⟨#[]⟩:ByteArray)⟩:V)]) λ(a3,h)=>
     if (decide (a9>4096))=true then(
      if (a3==204)=true then(
       Qg (js N h) λaG=>
       if ((aG:Int)==(1+q))=true then(
        Qg (yT N h) λaH=>
        some ((aH.length:Int)==a2)
       )else(
        some false
       )
      )else(
       some false
      )
     ) else(
      if (a3==0)=true then(
       Qg (js N h) λaI=>
       gd (-9223372036854775808<=(1+q)+1/\(1+q)+1<=9223372036854775807)<|
       if ((aI:Int)==((1+q)+1))=true then(
        Qg (yT N h) λaJ=>
        some ((aJ.length:Int)==aA)
       )else(
        some false
       )
      )else(
       some false
      )
     )
    )
   )
  )
 )
end
section
open Tryz
open Go.RowKit
set_option maxRecDepth 100000
set_option maxHeartbeats 4000000
theorem X1 {N:Nat} {a0 U a2:Int} (e:I3 N a0 U a2=some ()):QB prog 29 [ao a0,ao U,ao a2] [tF] [] (λv p q=>∃o0,R0 (.agg #[ao a0,ao 0,.slice (some ⟨o0,0,none⟩) 2 2]) [] [.blk o0 [bc 1,ao U,.string EB,bc 1,ao a2,.string EB] 63] v p q):=by
 unfold I3 at e;refine Ql func29 Z ntmps29 Z (S:=V3 ..) Z λC=>sq<|QK Z Z Z Zq Z zm Z λg6=>nt<|sq<|ay Z<|iR Z Z Z Zq Z jJ CE Z (out:=V3 ..) Z<|wP Z<|iR Z Z Z Zq Z jJ CE Z (out:=V3 ..) Z<|QW Z Z Z Zq Z qi QT jJ Z (zs:=[bc 0,ao 0,.string EB,bc 0,ao 0,.string EB]) au Z (out:=V6 ..) Z λg12=>iR Z Z Z Zq Z zm Rf Z (out:=V3 ..) Z<|wS 1 0 Z pB (all':=V3 ..) Z (H':=[_,_]) Z<|dz 6 Z<|Qk ?_
 have g:=(Zi e).symm;refine rK (Hr:=[_]) [0] results29 (lS 1 Z Z pB C6 Z Z) ⟨g12,Z,Z,Z⟩ (bh [] Z) Z Z (.inl Z)
theorem Qam {N:Nat} {o0:Bool} (e:X4 N=some o0):QB prog 9 [] [tF] [] (R0 (.bool o0) [] []):=by
 unfold X4 at e;refine Ql func9 Z ntmps9 Z (S:=[]) Z λC=>sq<|wP Z<|nk0 Z<|sq<|wC [] [] Z Ym Z KQ (bh [] Z) Z (H':=[]) Z ?_
 rintro _ _ _ ⟨aX,aY,a6,a7,rfl,rfl,rfl⟩;refine ay Z<|wP Z<|QK Z Z Z Zq Z Rl Z λg1=>QK Z Z Z Zq Z a0p Z λg2=>wS 1 0 Z FB (all':=[_,_]) Z (H':=[_,_]) Z<|wS 0 0 Z a0l (all':=[_,_]) Z (H':=[_,_]) Z<|dz 1 Z<|sq<|wM 1 0 [_,_] Z FB KY Z<|kn e λaZ aD e=>wC [] [0,1] Z PA Z (R5 aX aY lU a6 a7 iI _ aD) (bh [0,1,2] Z) Z (H':=[_,_]) Z ?_
 rintro _ _ _ ⟨h,rfl,rfl,rfl⟩;refine wP Z<|dz 3 Z<|sq<|wP Z<|kn e λ_ aE e=>?_
 try dsimp only at e
 refine c1 [] [0,1,2] Z zO aE X1 [2] (V3 ..) Z λz=>Eh (sz:=3) (m:=2) dq ([(⟨1,1,EB⟩:V),(⟨1,1,EB⟩:V)]) 0 Z (λF w U=>⟨[bc 1,ao 1,.string EB],[bc 1,ao 1,.string EB],Z,Z,⟨(),Z,QL⟩,⟨[bc 1,ao 1,.string EB],[],Z,Z,⟨(),Z,QL⟩,Z⟩⟩) Z bf (H':=V4 ..) Z<|BS 0 Z (H':=V3 ..) Z<|zg (.sli 3 dq (some ⟨z,0,none⟩) 2 ([(⟨1,1,EB⟩:V),(⟨1,1,EB⟩:V)])) (λF w U=>qM (U _ (ic (k:=0) Z))) ?_;obtain⟨⟨a8,a0⟩,aG,e⟩:=Qv e;try dsimp only at e
 refine wC [0] [1,2] Z vv Z (vf h aZ 1 0 (some ⟨z,0,none⟩) 2 [(⟨1,1,EB⟩:V),(⟨1,1,EB⟩:V)] _ _ aG) (bh [0] Z) Z (H':=[_,_]) Z ?_;rintro _ _ _ ⟨rfl,rfl,rfl⟩;refine wP Z<|dp 4 3 Z<|sq<|wP Z<|kn e λb0 aH e=>wC [0] [1,2] Z sI Z (tT h a0 _ aH) (bh [] Z) Z (H':=[_,_]) Z ?_;rintro _ _ _ ⟨b1,b2,b3,rfl,rfl,rfl⟩;refine qc 0 Z λaI _=>wN Z j0<|Qs (N2 aI)<|wP Z<|fp 5 4 3 Z<|sq<|wP Z<|kn e λ_ aJ e=>?_;try dsimp only at e
 refine c1 [] [0,1,2,3] Z zO aJ X1 [4] (V4 ..) Z λa1=>Eh (sz:=3) (m:=2) dq ([(⟨1,1,EB⟩:V),(⟨1,2,EB⟩:V)]) 0 Z (λF w U=>⟨[bc 1,ao 1,.string EB],[bc 1,ao 2,.string EB],Z,Z,⟨(),Z,QL⟩,⟨[bc 1,ao 2,.string EB],[],Z,Z,⟨(),Z,QL⟩,Z⟩⟩) Z bf (H':=V5 ..) Z<|BS 0 Z (H':=V4 ..) Z<|zg (.sli 3 dq (some ⟨a1,0,none⟩) 2 ([(⟨1,1,EB⟩:V),(⟨1,2,EB⟩:V)])) (λF w U=>qM (U _ (ic (k:=0) Z))) ?_;obtain⟨⟨a9,a2⟩,aK,e⟩:=Qv e;try dsimp only at e
 refine wC [1] [0,2,3] Z vv Z (vf h a0 2 0 (some ⟨a1,0,none⟩) 2 [(⟨1,1,EB⟩:V),(⟨1,2,EB⟩:V)] _ _ aK) (bh [0] Z) Z (H':=V3 ..) Z ?_;rintro _ _ _ ⟨rfl,rfl,rfl⟩;refine wP Z<|fO 6 5 4 3 Z<|sq<|wP Z<|kn e λb4 aL e=>wC [0] [1,2,3] Z sI Z (tT h a2 _ aL) (bh [] Z) Z (H':=V3 ..) Z ?_;rintro _ _ _ ⟨b5,b6,b7,rfl,rfl,rfl⟩;refine wP Z<|jx 7 6 5 4 3 Z<|sq<|wP Z ?_;obtain⟨⟨aA,q⟩,aM,e⟩:=Qv e;try dsimp only at e
 refine wC [1] [0,2,3,4] Z zN Z (su h a2 1 _ _ aM) (bh [] Z) Z (H':=V4 ..) Z ?_;rintro _ _ _ ⟨rfl,rfl,rfl⟩;refine wP Z<|j8 8 7 6 5 4 3 Z<|Q6<|kn e λaN e bz=>?_;unfold Q4R at e;refine cut (σ:=Bool) aN (λs=>(s,[(0,.bool s)],[tF],[])) ?_ ?_;refine Qb<|ay Z<|Qs (nY a8 0)<|wP Z ?_;refine eJ e (λe=>?_) λe=>?_;refine ay Z<|Qs (nY a9 0)<|ay Z ?_;refine eJ e (λe=>?_) λe=>?_;refine ay Z<|Qs (nY aA 0)<|ay Z ?_;refine eJ e (λe=>?_) λe=>?_;refine ay Z<|Qs (nY b0.length 1)<|ay Z ?_;refine eJ e (λe=>?_) λe=>?_;refine wP Z<|qc 1 Z λaO _=>wN Z j0<|Qs (N2 aO)<|wP Z<|Qs (nY b4.length 2)<|ay Z ?_;refine eJ e (λe=>?_) λe=>?_;refine wP Z<|kn e λaP a4 e=>FV 1 1 Z Z Z Zq Z Z Z Z Z (kr a4) j0 DT λbK aQ=>?_;subst aQ;refine wF Z np<|LR Q6T 1 1 1 Z Z Z Zq Z Z Z a4 FE Ft (v:=λaB=>aw aB.1 aP.ids aB.2) (λ_=>Z) (λ_=>Z) λaB _=>wN Z En<|wP Z<|Qs (nY aP.ids.length 2)<|ay Z ?_;refine eJ e (λe=>?_) λe=>?_;refine wP Z<|kn e λb8 a5 e=>He 1 1 Z Z Z Zq Z Z Z Z Z (kr a5) j0 DT<|wF Z np<|LR Q6T 1 1 1 Z Z Z Zq Z Z Z a5 FE Ft (v:=λaC=>aw aC.1 b8.ids aC.2) (λ_=>Z) (λ_=>Z) λaC _=>kn e λbL aR e=>wI 0 1 Z aR En dt λbM bN bI b9=>rL Q9x 1 Z λbO aS _=>?_;subst aS;refine tX 0 0 [_] Z dt dX Z<|ay Z<|wP Z ?_;refine eJ e (λe=>?_) λe=>?_;refine wP Z<|kn e λbA aT e=>wC [0] [1,2,3,4] Z sI Z (tT h q _ aT) (bh [] Z) Z (H':=V4 ..) Z ?_;rintro _ _ _ ⟨bB,bC,bD,rfl,rfl,rfl⟩;refine qc 0 Z λaU _=>wN Z j0<|Qs (N2 aU)<|wP Z<|Qs (nY bA.length 0)<|ay Z ?_;refine eJ e (λe=>?_) λe=>?_;refine wP Z<|kn e λbG aV e=>wC [1] [0,2,3,4,5] Z EI Z (F1 h q _ aV) (bh [] Z) Z (H':=V5 ..) Z ?_;rintro _ _ _ ⟨rfl,rfl,rfl⟩;refine wP Z<|Qs (nY bG 1)<|ay Z ?_;refine eJ e (λe=>?_) λe=>?_;refine wP Z ?_;obtain⟨⟨a3,bH⟩,aW,e⟩:=Qv e;try dsimp only at e
 refine wC [0] [1,2,3,4,5] Z zN Z (su h q 1 _ _ aW) (bh [] Z) Z (H':=V5 ..) Z ?_;rintro _ _ _ ⟨rfl,rfl,rfl⟩;refine wP Z<|Qs (nY a3 6)<|ay Z<|Q2<|Qh [] Z (H':=[]) Z ?_;refine jM (a3==6) e [0] [10] Z;refine ep Z<|wO Z<|ay Z<|Q2<|Qh [] Z (H':=[]) Z ?_;refine jM false e [0] [10] Z;refine ep Z<|wO Z<|ay Z<|ep Z<|wO Z<|ay Z<|Q2<|Qh [] Z (H':=[]) Z ?_;refine jM false e [0] [10] Z;refine dx Z<|ay Z<|ep Z<|wO Z<|ay Z<|ep Z<|wO Z<|ay Z<|Q2<|Qh [] Z (H':=[]) Z ?_;refine jM false e [0] [10] Z;refine dx Z<|ep Z<|wO Z<|ay Z<|dx Z<|ay Z<|ep Z<|wO Z<|ay Z<|ep Z<|wO Z<|ay Z<|Q2<|Qh [] Z (H':=[]) Z ?_;refine jM false e [0] [7] Z;refine dx Z<|ep Z<|ay Z<|dx Z<|ep Z<|wO Z<|ay Z<|dx Z<|ay Z<|ep Z<|wO Z<|ay Z<|ep Z<|wO Z ?_;refine ay Z<|Q2<|Qh [] Z (H':=[]) Z ?_;refine jM false e [0] [6] Z;refine ep Z<|wO Z<|ay Z<|dx Z<|ep Z<|ay Z<|dx Z<|ep Z<|wO Z<|ay Z<|dx Z<|ay Z<|ep Z<|wO Z ?_;refine ay Z<|ep Z<|wO Z<|ay Z<|Q2<|Qh [] Z (H':=[]) Z ?_;refine jM false e [0] [6] Z;refine ep Z<|ay Z<|ep Z<|wO Z<|ay Z<|dx Z<|ep Z<|ay Z<|dx Z<|ep Z<|wO Z<|ay Z<|dx Z<|ay Z ?_;refine ep Z<|wO Z<|ay Z<|ep Z<|wO Z<|ay Z<|Q2<|Qh [] Z (H':=[]) Z ?_;refine jM false e [0] [6] Z;refine ep Z<|ay Z<|ep Z<|ay Z<|ep Z<|wO Z<|ay Z<|dx Z<|ep Z<|ay Z<|dx Z<|ep Z<|wO Z<|ay Z ?_;refine dx Z<|ay Z<|ep Z<|wO Z<|ay Z<|ep Z<|wO Z<|ay Z<|Q2<|Qh [] Z (H':=[]) Z ?_;refine jM false e [0] [6] Z;refine ep Z<|ay Z<|ep Z<|ay Z<|ep Z<|ay Z<|ep Z<|wO Z<|ay Z<|dx Z<|ep Z<|ay Z<|dx Z<|ep Z ?_;refine wO Z<|ay Z<|dx Z<|ay Z<|ep Z<|wO Z<|ay Z<|ep Z<|wO Z<|ay Z<|Q2<|Qh [] Z (H':=[]) Z ?_;refine jM false e [0] [6] Z;rintro s g;try dsimp only at g⊢
 have e:=bz;try rw[g]at e
 refine Qk ?_;obtain rfl:=Zi e;refine cr [] [] results9 Z ⟨Z,Z,Z⟩ Z
theorem Q8w {N:Nat} {a0 U o0:Int} (e:VH N a0 U=some o0):QB prog 28 [ao a0,ao U] [] [] (R0 (ao o0) [] []):=by
 unfold VH at e;refine Ql func28 Z ntmps28 Z (S:=[_,_]) Z λC=>sq<|wP Z<|dp 0 1 Z<|Q6<|sq<|ay Z<|fp 6 0 1 Z ?_
 refine QU e Z (λe=>?_) λe=>?_;refine k0 Z<|sq<|wP Z<|nr<|Q5 ?_;obtain rfl:=Zi e;refine cr [] [] results28 Z ⟨Z,Z,Z⟩ Z;refine k2 0 1 Z<|kt<|sq<|ay Z<|kg e λhg9 e=>uY Z Z Z Zq Z Z Z (Ot hg9)<|Qt (S':=V4 ..) Z Z Z Z Z<|dp 0 1 Z<|Q6<|kn e λab e bz=>?_;refine cut (σ:=Int) ab (λaa=>(aa,[(0,ao aa)],[],[])) ?_ ?_;refine sq<|ay Z<|fp 11 0 1 Z ?_;refine QU e Z (λe=>?_) λe=>?_;refine k2 0 1 Z<|Qb<|ay Z<|wP Z<|kg e λa0P e=>Qs (i64_in a0P)<|Qt (S':=V4 ..) Z Z Z Z Z<|Q2 ?_;refine jM ((Int.tmod a0 U)+U) e [0] [] Z;refine k1 0 Z<|QV ?_;refine jM (Int.tmod a0 U) e [0] [] Z;rintro aa g;try dsimp only at g⊢
 have e:=bz;try rw[g]at e
 refine sq<|ay Z<|dz 4 Z<|Qk ?_;obtain rfl:=Zi e;refine cr [] [] results28 Z ⟨Z,Z,Z⟩ Z
theorem Q9n (N:Nat)(a0:Int)(a1:Int)(o0:Bool)(e:Q3z N a0 a1=some o0):QB prog 4 [ao a0,ao a1] [tF] [] (R0 (.bool o0) [] []):=by
 unfold Q3z at e;refine Ql func4 Z ntmps4 Z (S:=[_,_]) Z λC=>sq<|wP Z<|dp 0 1 Z<|Q6<|sq<|kn e λdH bV e=>c0 [] [] Z a0F bV Qam [0] [] Z<|wP Z<|fp 21 0 1 Z ?_
 refine QU e Z (λe=>?_) λe=>?_;refine k0 Z<|sq<|wP Z<|nr<|Q5 ?_;obtain rfl:=Zi e;refine cr [] [] results4 Z ⟨Z,Z,Z⟩ Z;refine k2 0 1 Z<|kt<|sq<|wP Z<|kn e λaH bW e=>c0 [] [] Z PB bW Q8w [] [] Z<|wP Z<|kg e λbX e=>Qs (i64_in bX)<|wP Z<|kn e λaC bY e=>c0 [] [] Z PB bY Q8w [] [] Z<|wP Z<|kg e λbZ e=>?_;refine Qs (i64_in bZ)<|ay Z<|dp 6 5 Z<|sq<|iR Z Z Z Zq Z pY Rg Z (out:=pD ..) Z<|QW Z Z Z Zq Z pV vd pY Z (zs:=[bc 0,ao 0,V1,bc 0,bc 0,ao 0,.string EB,ao 0,bc 0,V1]) au Z (out:=pD ..) Z λd4=>iR Z Z Z Zq Z Bs a0e Z (out:=V5 ..) Z<|QK Z Z Z Zq Z Bs Z λg7=>wS 0 0 Z j2 (all':=V5 ..) Z (H':=[_,_]) Z<|fp 7 6 5 Z<|Q6<|kn e λc2 e bz=>?_;refine cut (σ:=(List Qp)×OA×Nat×Nat) c2 (λ(q,s,z,a9)=>(q,[(7,bp g7),(6,ao (1+aC)),(5,ao (2+aH))],[tF],[.blk g7 [.string ((⟨#[114]⟩:ByteArray)),ao 0,ao 0,.slice s a9 z,V1] 73,.own 69 10 BQ (.slice s a9 z) q])) ?_ ?_;refine sq<|wP Z<|nt<|Qn<|Vn (sz:=10) (m:=1) BQ ([(⟨2,1,[],(⟨0,(⟨0,0,EB⟩:V),0,0,[]⟩:Q4)⟩:Qp)]) 1 Z (λF w U=>⟨[bc 2,ao 1,V1,bc 0,bc 0,ao 0,.string EB,ao 0,bc 0,V1],[],Z,Z,⟨((none,0),(none,0)),Z,(pt Pd (pt Pd QL))⟩,Z⟩) Z bf (H':=[_,_]) Z<|vK (σ:=Nat×(List Qp)×OA×Nat×Nat) (RA N aH) (λ(aR,a2,a5,a6,a7)=>((aR,a2),[(8,ao (aR:Int)),(7,bp g7),(6,ao (1+aC)),(5,ao (2+aH))],[tF],[.blk g7 [.string ((⟨#[114]⟩:ByteArray)),ao 0,ao 0,.slice a5 a7 a6,V1] 73,.own 69 10 BQ (.slice a5 a7 a6) a2])) (0,[(⟨2,1,[],(⟨0,(⟨0,0,EB⟩:V),0,0,[]⟩:Q4)⟩:Qp)],some ⟨d4,0,none⟩,1,([(⟨2,1,[],(⟨0,(⟨0,0,EB⟩:V),0,0,[]⟩:Q4)⟩:Qp)].length)) e [8,7,6,5] [0] Z λs_ dI dJ e cx=>?_;obtain⟨aR,a2,a5,a6,a7⟩:=s_;unfold RA at e;try dsimp only at e⊢
 refine Q6<|sq<|ay Z<|wP Z<|jx 33 8 7 6 5 Z ?_;refine QU e Z (λe=>?_) λe=>?_;refine k4 8 7 6 5 Z<|kt<|Q6<|Qn<|sq<|iR Z Z Z Zq Z jF L8 Z (out:=V5 ..) Z<|iR Z Z Z Zq Z jF L8 Z (out:=V5 ..) Z<|QW Z Z Z Zq Z x4 ui jF Z (zs:=[bc 0,ao 0,bc 0,ao 0,.string EB,bc 0,ao 0,bc 0,ao 0,.string EB]) au Z (out:=pD ..) Z λb4=>iR Z Z Z Zq Z pY Rg Z (out:=pD ..) Z<|QK Z Z Z Zq Z pY Z λg9=>wS 0 0 Z vd (all':=pD ..) Z (H':=V4 ..) Z<|jx 9 8 7 6 5 Z<|Qb<|wF Z nA ?_;refine wD 2 3 Z Bo Fp Z<|wM 0 0 (pD ..) Z vd iZ Z<|QW Z Z Z Zq Z pV vd pY Z (zs:=[bc 0,ao 0,V1,bc 0,bc 0,ao 0,.string EB,ao 0,bc 0,V1]) au Z (out:=pD ..) Z λdK=>Eh (sz:=5) (m:=2) il ([(⟨1,0,(⟨0,0,EB⟩:V)⟩:eN),(⟨1,0,(⟨0,0,EB⟩:V)⟩:eN)]) 2 Z (λF w U=>⟨[bc 1,ao 0,bc 0,ao 0,.string EB],[bc 1,ao 0,bc 0,ao 0,.string EB],Z,Z,⟨(),Z,QL⟩,⟨[bc 1,ao 0,bc 0,ao 0,.string EB],[],Z,Z,⟨(),Z,QL⟩,Z⟩⟩) Z bf (H':=V5 ..) Z<|BS 2 Z (H':=V4 ..) Z<|zg (.sli 5 il (some ⟨b4,0,none⟩) 2 ([(⟨1,0,(⟨0,0,EB⟩:V)⟩:eN),(⟨1,0,(⟨0,0,EB⟩:V)⟩:eN)])) (λF w U=>qM (U _ (ic (k:=0) Z)))<|kg e λb3 e=>FU ([(⟨1,0,[(⟨1,0,(⟨0,0,EB⟩:V)⟩:eN),(⟨1,0,(⟨0,0,EB⟩:V)⟩:eN)],(⟨0,(⟨0,0,EB⟩:V),0,0,[]⟩:Q4)⟩:Qp)]) 3 0 Z Z Z Zq Z Z Z Z Z (λF w U=>⟨[bc 1,ao 0,.slice (some ⟨b4,0,none⟩) 2 2,bc 0,bc 0,ao 0,.string EB,ao 0,bc 0,V1],[],Z,Z,⟨((some ⟨b4,0,none⟩,2),(none,0)),Z,(pt (U _ (ic (k:=0) Z)) (pt Pd QL))⟩,Z⟩) pV a0j Z Z (Nat.le_trans b3 bf) (Nat.le_trans (Nat.mul_le_mul_right _ b3) bf) (H2:=λc3 c5=>(V4 ..)) (λ_ _=>Z) λc3 c5=>Hw 0 Z (H':=V3 ..) Z<|wF Z nA<|wS 1 3 Z Bo (all':=V5 ..) Z (H':=V3 ..) Z<|Q2<|Q9<|Qw ?_;refine k4 8 7 6 5 Z<|Qb<|ay Z<|kg e λc6 e=>Qs (kq (a:=aR) (b:=1) c6)<|Qt (S':=V5 ..) Z Z Z Z Z<|Q2<|Qh [1,2] Z (H':=[_,_]) Z ?_;refine w6 (aR+1,(a2++([(⟨1,0,[(⟨1,0,(⟨0,0,EB⟩:V)⟩:eN),(⟨1,0,(⟨0,0,EB⟩:V)⟩:eN)],(⟨0,(⟨0,0,EB⟩:V),0,0,[]⟩:Q4)⟩:Qp)])),c3,c5,((a2++([(⟨1,0,[(⟨1,0,(⟨0,0,EB⟩:V)⟩:eN),(⟨1,0,(⟨0,0,EB⟩:V)⟩:eN)],(⟨0,(⟨0,0,EB⟩:V),0,0,[]⟩:Q4)⟩:Qp)])).length)) (j5 cx (zs e)) [8,7,6,5] [2] Z;refine k3 7 6 5 Z<|ie<|Qc<|Qc<|Qx ?_;refine jn (a2,a5,a6,a7) (QH cx (zs e)) [7,6,5] [0] Z;rintro⟨q,s,z,a9⟩ g;try dsimp only at g⊢
 have e:=bz;try rw[g]at e
 refine sq<|iR Z Z Z Zq Z Bt Rh Z (out:=[_,_]) Z<|iR Z Z Z Zq Z Bt Rh Z (out:=[_,_]) Z<|QW Z Z Z Zq Z iG nG Bt Z (zs:=[.string EB,ao 0,.string EB,ao 0]) au Z (out:=V4 ..) Z λc7=>wM 1 0 (V5 ..) Z j2 Be Z<|QW Z Z Z Zq Z pU j2 Bs Z (zs:=[.string EB,ao 0,ao 0,V1,V1]) au Z (out:=V5 ..) Z λc8=>iR Z Z Z Zq Z Rl a0d Z (out:=[_,_]) Z<|Eh (sz:=2) (m:=2) Qd ([(⟨(⟨#[112]⟩:ByteArray),2⟩:Q7),(⟨(⟨#[113]⟩:ByteArray),0⟩:Q7)]) 1 Z (λF w U=>⟨[.string ((⟨#[112]⟩:ByteArray)),ao 2],[.string ((⟨#[113]⟩:ByteArray)),ao 0],Z,Z,⟨(),Z,QL⟩,⟨[.string ((⟨#[113]⟩:ByteArray)),ao 0],[],Z,Z,⟨(),Z,QL⟩,Z⟩⟩) Z bf (H':=V4 ..) Z<|qc 3 Z λaN _=>?_;subst aN;refine BS 3 Z (H':=V3 ..) Z<|zg (.sli 10 BQ s z q) (λF w U=>qM (U _ (ic (k:=0) Z)))<|Eh (sz:=5) (m:=1) Qe ([(⟨(⟨#[114]⟩:ByteArray),0,0,q,[]⟩:Qa)]) 0 Z (λF w U=>⟨[.string ((⟨#[114]⟩:ByteArray)),ao 0,ao 0,aw s q z,V1],[],Z,Z,⟨((s,z),(none,0)),Z,(pt (U _ (ic (k:=0) Z)) (pt Pd QL))⟩,Z⟩) Z bf (H':=V3 ..) Z<|BS 1 Z (H':=[_,_]) Z<|zg (.sli 2 Qd (some ⟨c7,0,none⟩) 2 ([(⟨(⟨#[112]⟩:ByteArray),2⟩:Q7),(⟨(⟨#[113]⟩:ByteArray),0⟩:Q7)])) (λF w U=>qM (U _ (ic (k:=0) Z)))<|BS 0 Z (H':=[_]) Z<|zg (.sli 5 Qe (some ⟨c8,0,none⟩) 1 ([(⟨(⟨#[114]⟩:ByteArray),0,0,q,[]⟩:Qa)])) (λF w U=>qM (U _ (ic (k:=0) Z)))<|kn e λd5 c9 e=>wC [] [0] Z PA Z (R5 (some ⟨c7,0,none⟩) 2 [(⟨(⟨#[112]⟩:ByteArray),2⟩:Q7),(⟨(⟨#[113]⟩:ByteArray),0⟩:Q7)] (some ⟨c8,0,none⟩) 1 [(⟨(⟨#[114]⟩:ByteArray),0,0,q,[]⟩:Qa)] _ c9) (bh [2,0,6] Z) Z (H':=[_]) Z ?_;rintro _ _ _ ⟨h,rfl,rfl,rfl⟩;refine wP Z<|fp 10 6 5 Z<|Q6<|sq<|wP Z<|iR Z Z Z Zq Z zm Rf Z (out:=V3 ..) Z<|zg (.sli 3 dq none 0 ([]:List V)) (λ_ _ _=>Pd) ?_;obtain⟨⟨b5,b6⟩,cA,e⟩:=Qv e;try dsimp only at e
 refine wC [0] [1] Z vv Z (vf h d5 1000 1 none 0 ([]:List V) _ _ cA) (bh [0] Z) Z (H':=[_]) Z ?_;rintro _ _ _ ⟨rfl,rfl,rfl⟩;refine wP Z<|Qs (OS b5 0)<|fO 56 10 6 5 Z ?_;refine QU e Z (λe=>?_) λe=>?_;refine k0 Z<|sq<|wP Z<|nr<|Q5 ?_;obtain rfl:=Zi e;refine cr [] [] results4 Z ⟨Z,Z,Z⟩ Z;refine k3 10 6 5 Z<|kt<|Q6<|ks e λcB e eT=>?_;refine cut (σ:=fI) cB (λa3=>(.inl a3,[(10,.pointer (Option.map pA h)),(6,ao (1+aC)),(5,ao (2+aH))],[tF],[jj h a3])) ?_ ?_;refine sq<|wP Z<|nt<|Qn<|Hv [0] Z (H':=[_]) Z<|vK (σ:=Nat×fI) (Vu N aC) (λ(a4,aA)=>((a4,aA),[(11,ao (a4:Int)),(10,.pointer (Option.map pA h)),(6,ao (1+aC)),(5,ao (2+aH))],[tF],[jj h aA])) (0,b6) e [11,10,6,5] [7] Z λs_ dL dM e Da=>?_;obtain⟨a4,aA⟩:=s_;unfold Vu at e;try dsimp only at e⊢
 refine Q6<|sq<|ay Z<|wP Z<|jx 59 11 10 6 5 Z ?_;refine QU e Z (λe=>?_) λe=>?_;refine k4 11 10 6 5 Z<|kt<|Q6<|Qn<|sq<|ay Z<|wP Z<|kg e λcC e=>Qs (kq (a:=a4) (b:=1) cC)<|wP Z<|kn e λ_ cD e=>?_;try dsimp only at e
 refine c1 [] [0] Z zO cD X1 [0] [_] Z λaX=>Eh (sz:=3) (m:=2) dq ([(⟨1,((a4:Int)),EB⟩:V),(⟨1,0,EB⟩:V)]) 0 Z (λF w U=>⟨[bc 1,ao (a4:Int),.string EB],[bc 1,ao 0,.string EB],Z,Z,⟨(),Z,QL⟩,⟨[bc 1,ao 0,.string EB],[],Z,Z,⟨(),Z,QL⟩,Z⟩⟩) Z bf (H':=[_,_]) Z<|BS 0 Z (H':=[_]) Z<|zg (.sli 3 dq (some ⟨aX,0,none⟩) 2 ([(⟨1,((a4:Int)),EB⟩:V),(⟨1,0,EB⟩:V)])) (λF w U=>qM (U _ (ic (k:=0) Z))) ?_;obtain⟨⟨b7,b8⟩,cE,e⟩:=Qv e;try dsimp only at e
 refine wC [0] [] Z vv Z (vf h aA ((a4+1:Nat):Int) 0 (some ⟨aX,0,none⟩) 2 [(⟨1,((a4:Int)),EB⟩:V),(⟨1,0,EB⟩:V)] _ _ cE) (bh [0] Z) Z (H':=[]) Z ?_;rintro _ _ _ ⟨rfl,rfl,rfl⟩;refine wP Z<|Qs (OS b7 0)<|jx 68 11 10 6 5 Z ?_;refine QU e Z (λe=>?_) λe=>?_;refine k0 Z<|sq<|wP Z<|nr<|Qr<|Q5<|rb<|Q5 ?_;obtain rfl:=(QH eT (QH Da (zs e))).symm;refine cr [] [] results4 Z ⟨Z,Z,Z⟩ Z;refine k4 11 10 6 5 Z<|QV<|Q9<|Qw<|Qb<|ay Z<|kg e λcF e=>Qs (kq (a:=a4) (b:=1) cF)<|Qt (S':=V5 ..) Z Z Z Z Z<|Q2 ?_;refine w6 (a4+1,b8) (j5 Da (zs e)) [11,10,6,5] [2] Z;refine k3 10 6 5 Z<|ie<|Qc<|Qc<|Qx ?_;refine jn aA (QH Da (zs e)) [10,6,5] [0] Z;rintro a3 g;try dsimp only at g⊢
 have e:=j5 eT g;refine sq<|ay Z<|nt<|Q6<|kn e λcG e gG=>?_;refine cut (σ:=Int×Int) cG (λ(aO,a8)=>((aO,a8),[(10,.pointer (Option.map pA h)),(6,ao (1+aC)),(5,ao (2+aH)),(12,ao aO),(13,ao a8)],[tF],[jj h a3])) ?_ ?_;refine sq<|wP Z<|nt<|Qn<|vK (σ:=Nat×Int×Int) (Vv N aH aC) (λ(aI,aD,aJ)=>((aI,aD,aJ),[(14,ao (aI:Int)),(13,ao aD),(12,ao aJ),(10,.pointer (Option.map pA h)),(6,ao (1+aC)),(5,ao (2+aH))],[tF],[jj h a3])) (0,1,1) e [14,13,12,10,6,5] [0] Z λs_ dN dO e YH=>?_;obtain⟨aI,aD,aJ⟩:=s_;unfold Vv at e;try dsimp only at e⊢
 refine Q6<|sq<|ay Z<|wP Z<|Ki 71 14 13 12 10 6 5 Z ?_;refine QU e Z (λe=>?_) λe=>?_;refine k6 14 13 12 10 6 5 Z<|kt<|Q6<|Qn<|sq<|ay Z<|wP Z<|kg e λcH e=>Qs (i64_in cH)<|Qt (S':=V8 ..) Z Z Z Z Z<|j8 13 14 12 10 6 5 Z<|Qb<|ay Z<|wP Z ?_;refine kg e λcI e=>Qs (i64_in cI)<|Qt (S':=V8 ..) Z Z Z Z Z<|Q2<|Q9<|Qw<|k6 12 13 14 10 6 5 Z<|Qb<|ay Z<|kg e λcJ e=>Qs (kq (a:=aI) (b:=1) cJ)<|Qt (S':=V7 ..) Z Z Z Z Z<|Q2 ?_;refine w6 (aI+1,aD*(1+aC),aJ+(aD*(1+aC))) (j5 YH (zs e)) [14,13,12,10,6,5] [0] Z;refine k5 13 12 10 6 5 Z<|ie<|Qc<|Qc<|Qx ?_;refine jn (aJ,aD) (QH YH (zs e)) [10,6,5,12,13] [0] Z;rintro⟨aO,a8⟩ g;try dsimp only at g⊢
 have e:=gG;try rw[g]at e
 try dsimp only at e
 refine sq<|wP Z ?_;obtain⟨⟨aY,aB⟩,cK,e⟩:=Qv e;try dsimp only at e
 refine wC [0] [] Z zN Z (su h a3 1000 _ _ cK) (bh [] Z) Z (H':=[]) Z ?_;rintro _ _ _ ⟨rfl,rfl,rfl⟩;refine wP Z<|j8 15 10 6 5 12 13 Z<|Q6<|sq<|ay Z<|j8 83 15 10 6 5 13 Z ?_;refine QU e Z (λe=>?_) λe=>?_;refine k3 15 10 6 Z<|Q6<|kn e λcL e mE=>?_;unfold Q43 at e;refine cut (σ:=Bool) cL (λaS=>(aS,[(4,.bool aS)],[tF],[])) ?_ ?_;refine Qb<|ay Z<|Qs (nY aY 204)<|wP Z ?_;refine eJ e (λe=>?_) λe=>?_;refine wP Z<|kn e λdP cM e=>wC [0] [] Z EI Z (F1 h aB _ cM) (bh [] Z) Z (H':=[]) Z ?_;rintro _ _ _ ⟨rfl,rfl,rfl⟩;refine ay Z<|kg e λcN e=>Qs (i64_in cN)<|ay Z<|wP Z ?_;refine eJ e (λe=>?_) λe=>?_;refine wP Z<|kn e λd6 cO e=>wC [0] [] Z sI Z (tT h aB _ cO) (bh [] Z) Z (H':=[]) Z ?_;rintro _ _ _ ⟨d7,d8,d9,rfl,rfl,rfl⟩;refine qc 0 Z λcP _=>wN Z j0<|Qs (N2 cP)<|wP Z<|Qs (nY d6.length 0)<|ay Z ?_;refine eJ e (λe=>?_) λe=>?_;refine wP Z ?_;obtain⟨⟨aZ,b0⟩,b9,e⟩:=Qv e;try dsimp only at e
 refine wC [1] [0] Z zN Z (su h aB 1 _ _ b9) (bh [] Z) Z (H':=[_]) Z ?_;rintro _ _ _ ⟨rfl,rfl,rfl⟩;refine wP Z<|Qs (nY aZ 0)<|ay Z ?_;refine eJ e (λe=>?_) λe=>?_;refine wP Z<|kn e λ_ bA e=>?_;try dsimp only at e
 refine c1 [] [0,1] Z zO bA X1 [0] [_,_] Z λaT=>Eh (sz:=3) (m:=2) dq ([(⟨1,0,EB⟩:V),(⟨1,0,EB⟩:V)]) 0 Z (λF w U=>⟨[bc 1,ao 0,.string EB],[bc 1,ao 0,.string EB],Z,Z,⟨(),Z,QL⟩,⟨[bc 1,ao 0,.string EB],[],Z,Z,⟨(),Z,QL⟩,Z⟩⟩) Z bf (H':=V3 ..) Z<|BS 0 Z (H':=[_,_]) Z<|zg (.sli 3 dq (some ⟨aT,0,none⟩) 2 ([(⟨1,0,EB⟩:V),(⟨1,0,EB⟩:V)])) (λF w U=>qM (U _ (ic (k:=0) Z))) ?_;obtain⟨⟨b1,b2⟩,bB,e⟩:=Qv e;try dsimp only at e
 refine wC [0] [1] Z vv Z (vf h b0 1 0 (some ⟨aT,0,none⟩) 2 [(⟨1,0,EB⟩:V),(⟨1,0,EB⟩:V)] _ _ bB) (bh [0] Z) Z (H':=[_]) Z ?_;rintro _ _ _ ⟨rfl,rfl,rfl⟩;refine wP Z<|Qs (nY b1 0)<|ay Z ?_;refine eJ e (λe=>?_) λe=>?_;refine wP Z ?_;obtain⟨⟨aU,cU⟩,bC,e⟩:=Qv e;try dsimp only at e
 refine wC [0] [1] Z zN Z (su h b2 1000 _ _ bC) (bh [] Z) Z (H':=[_]) Z ?_;rintro _ _ _ ⟨rfl,rfl,rfl⟩;refine wP Z<|Qs (nY aU 204)<|ay Z<|Q2<|Qh [] Z (H':=[]) Z ?_;refine jM (aU==204) e [4] [2] Z;refine ep Z<|wO Z<|ay Z<|Q2<|Qh [] Z (H':=[]) Z ?_;refine jM false e [4] [2] Z;refine dx Z<|ay Z<|ep Z<|wO Z<|ay Z<|Q2<|Qh [] Z (H':=[]) Z ?_;refine jM false e [4] [0] Z;refine ep Z<|wO Z<|ay Z<|dx Z<|ay Z<|ep Z<|wO Z<|ay Z<|Q2<|Qh [] Z (H':=[]) Z ?_;refine jM false e [4] [0] Z;refine dx Z<|ay Z<|ep Z<|wO Z<|ay Z<|dx Z<|ay Z<|ep Z<|wO Z<|ay Z<|Q2<|Qh [] Z (H':=[]) Z ?_;refine jM false e [4] [0] Z;refine dx Z<|wO Z<|ay Z<|dx Z<|ay Z<|ep Z<|wO Z<|ay Z<|dx Z<|ay Z<|ep Z<|wO Z<|ay Z<|Q2 ?_;refine Qh [] Z (H':=[]) Z ?_;refine jM false e [4] [0] Z;rintro aS g;try dsimp only at g⊢
 have e:=mE;try rw[g]at e
 refine Qk<|Q5 ?_;obtain rfl:=Zi e;refine cr [] [] results4 Z ⟨Z,Z,Z⟩ Z;refine k5 15 10 6 5 13 Z<|kt<|Q6<|Q6<|kn e λcQ e vz=>?_;refine cut (σ:=Bool) cQ (λaK=>(aK,[(10,.pointer (Option.map pA h)),(6,ao (1+aC)),(5,ao (2+aH)),(13,ao a8),(123,.bool aK)],[tF],[jj h aB])) ?_ ?_;refine Qb<|ay Z<|Qs (OS aY 0)<|wP Z ?_;refine eJ e (λe=>?_) λe=>?_;refine dx Z<|wO Z<|wP Z<|Q2 ?_;refine jM true e [10,6,5,13,123] [0] Z;refine wP Z<|kn e λcR bD e=>wC [0] [] Z sI Z (tT h aB _ bD) (bh [] Z) Z (H':=[]) Z ?_;rintro _ _ _ ⟨cV,cW,cX,rfl,rfl,rfl⟩;refine qc 0 Z λbG _=>wN Z j0<|Qs (N2 bG)<|ay Z<|wP Z<|Q2<|Qh [1] Z (H':=[_]) Z ?_;refine jM ((cR.length:Int) !=a8) e [10,6,5,13,123] [0] Z;rintro aK g;try dsimp only at g⊢
 have e:=vz;try rw[g]at e
 refine QU e Z (λe=>?_) λe=>?_;refine k0 Z<|sq<|wP Z<|nr<|Q5 ?_;obtain rfl:=Zi e;refine cr [] [] results4 Z ⟨Z,Z,Z⟩ Z;refine k4 10 6 5 13 Z<|kt<|sq<|ay Z<|nt<|Q6<|kn e λcS e YF=>?_;refine cut (σ:=Int×Int) cS (λ(aP,aQ)=>((aP,aQ),[(10,.pointer (Option.map pA h)),(6,ao (1+aC)),(13,ao a8),(16,ao aP),(17,ao aQ)],[tF],[jj h aB])) ?_ ?_;refine sq<|wP Z<|nt<|Qn<|vK (σ:=Nat×Int×Int) (Vw N aH aC) (λ(aL,aE,aM)=>((aL,aE,aM),[(18,ao (aL:Int)),(17,ao aE),(16,ao aM),(10,.pointer (Option.map pA h)),(6,ao (1+aC)),(5,ao (2+aH)),(13,ao a8)],[tF],[jj h aB])) (0,1,1) e [18,17,16,10,6,5,13] [0] Z λs_ dQ dR e YI=>?_;obtain⟨aL,aE,aM⟩:=s_;unfold Vw at e;try dsimp only at e⊢
 refine Q6<|sq<|ay Z<|wP Z<|R6 126 18 17 16 10 6 5 13 Z ?_;refine QU e Z (λe=>?_) λe=>?_;refine k7 18 17 16 10 6 5 13 Z<|kt<|Q6<|Qn<|sq<|ay Z<|wP Z<|kg e λbH e=>Qs (i64_in bH)<|wP Z<|kg e λbI e=>Qs (i64_in bI)<|Qt (S':=pD ..) Z Z Z Z Z<|Ki 17 18 16 10 6 5 13 Z ?_;refine Qb<|ay Z<|wP Z<|kg e λbK e=>Qs (i64_in bK)<|Qt (S':=V9 ..) Z Z Z Z Z<|Q2<|Q9<|Qw<|k7 16 17 18 10 6 5 13 Z<|Qb<|ay Z<|kg e λbL e=>Qs (kq (a:=aL) (b:=1) bL) ?_;refine Qt (S':=V8 ..) Z Z Z Z Z<|Q2 ?_;refine w6 (aL+1,aE*((1+aC)+1),aM+(aE*((1+aC)+1))) (j5 YI (zs e)) [18,17,16,10,6,5,13] [0] Z;refine k5 17 16 10 6 13 Z<|ie<|Qc<|Qc<|Qx ?_;refine jn (aM,aE) (QH YI (zs e)) [10,6,13,16,17] [0] Z;rintro⟨aP,aQ⟩ g;try dsimp only at g⊢
 have e:=YF;try rw[g]at e
 try dsimp only at e
 refine sq<|wP Z<|kn e λ_ bM e=>?_;try dsimp only at e
 refine c1 [] [0] Z zO bM X1 [0] [_] Z λaV=>Eh (sz:=3) (m:=2) dq ([(⟨1,9,EB⟩:V),(⟨1,9,EB⟩:V)]) 0 Z (λF w U=>⟨[bc 1,ao 9,.string EB],[bc 1,ao 9,.string EB],Z,Z,⟨(),Z,QL⟩,⟨[bc 1,ao 9,.string EB],[],Z,Z,⟨(),Z,QL⟩,Z⟩⟩) Z bf (H':=[_,_]) Z<|BS 0 Z (H':=[_]) Z<|zg (.sli 3 dq (some ⟨aV,0,none⟩) 2 ([(⟨1,9,EB⟩:V),(⟨1,9,EB⟩:V)])) (λF w U=>qM (U _ (ic (k:=0) Z))) ?_;obtain⟨⟨aW,aG⟩,bN,e⟩:=Qv e;try dsimp only at e
 refine wC [0] [] Z vv Z (vf h aB 2000 0 (some ⟨aV,0,none⟩) 2 [(⟨1,9,EB⟩:V),(⟨1,9,EB⟩:V)] _ _ bN) (bh [0] Z) Z (H':=[]) Z ?_;rintro _ _ _ ⟨rfl,rfl,rfl⟩;refine wP Z<|j8 19 10 6 13 16 17 Z<|Q6<|sq<|ay Z<|j8 140 19 10 6 13 17 Z ?_;refine QU e Z (λe=>?_) λe=>?_;refine k4 19 10 6 13 Z<|sq<|ay Z<|Qs (nY aW 204)<|wP Z ?_;refine eJ e (λe=>?_) λe=>?_;refine wP Z<|kn e λdD bO e=>wC [0] [] Z EI Z (F1 h aG _ bO) (bh [] Z) Z (H':=[]) Z ?_;rintro _ _ _ ⟨rfl,rfl,rfl⟩;refine ay Z<|ay Z ?_;refine eJ e (λe=>?_) λe=>?_;refine wP Z<|kn e λdE bP e=>wC [0] [] Z sI Z (tT h aG _ bP) (bh [] Z) Z (H':=[]) Z ?_;rintro _ _ _ ⟨cY,cZ,d0,rfl,rfl,rfl⟩;refine qc 0 Z λbQ _=>wN Z j0<|Qs (N2 bQ)<|ay Z<|ay Z<|dz 4 Z<|Qk<|Q5 ?_;obtain rfl:=Zi e;refine cr [] [] results4 Z ⟨Z,Z,Z⟩ Z;refine dx Z<|wO Z<|ay Z<|dz 4 Z<|Qk<|Q5 ?_;obtain rfl:=Zi e;refine cr [] [] results4 Z ⟨Z,Z,Z⟩ Z;refine dx Z<|ay Z<|dx Z<|wO Z<|ay Z<|dz 4 Z<|Qk<|Q5 ?_;obtain rfl:=Zi e;refine cr [] [] results4 Z ⟨Z,Z,Z⟩ Z;refine k4 19 10 6 17 Z<|kt<|sq<|ay Z<|Qs (nY aW 0)<|wP Z ?_;refine eJ e (λe=>?_) λe=>?_;refine wP Z<|kn e λdF bR e=>wC [0] [] Z EI Z (F1 h aG _ bR) (bh [] Z) Z (H':=[]) Z ?_;rintro _ _ _ ⟨rfl,rfl,rfl⟩;refine ay Z<|kg e λbS e=>Qs (i64_in bS)<|ay Z<|wP Z ?_;refine eJ e (λe=>?_) λe=>?_;refine wP Z<|kn e λdG bT e=>wC [0] [] Z sI Z (tT h aG _ bT) (bh [] Z) Z (H':=[]) Z ?_;rintro _ _ _ ⟨d1,d2,d3,rfl,rfl,rfl⟩;refine qc 0 Z λbU _=>wN Z j0<|Qs (N2 bU)<|ay Z<|ay Z<|dz 4 Z<|Qk ?_;obtain rfl:=Zi e;refine cr [] [] results4 Z ⟨Z,Z,Z⟩ Z;refine dx Z<|wO Z<|ay Z<|dz 4 Z<|Qk ?_;obtain rfl:=Zi e;refine cr [] [] results4 Z ⟨Z,Z,Z⟩ Z;refine dx Z<|wO Z<|ay Z<|dx Z<|wO Z<|ay Z<|dz 4 Z<|Qk ?_;obtain rfl:=Zi e;refine cr [] [] results4 Z ⟨Z,Z,Z⟩ Z
end
section
open Go Go.RowKit
theorem H6:LQ lU iI=true:=by
 have h:Mz 9223372036855854808 lU iI=some true:=au
 have h2:=Q9V (N:=9223372036855854808) (types:=lU) (rules:=iI) bf (λr hr=>by
  rw[List.mem_singleton.1 hr]
  exact ⟨λc hc=>by
   rcases List.mem_cons.1 hc with rfl|hc;· exact⟨bf,bf⟩
   · rw[List.mem_singleton.1 hc];exact⟨bf,bf⟩,λa U=>by
   rcases List.mem_cons.1 U with rfl|U;· decide
   · rw[List.mem_singleton.1 U];decide⟩)
 rw[h]at h2;exact(Option.some.inj h2).symm
theorem Ch {x:Int} (h:0<=x/\x<=255):r5 .u8 x:=by
 have U:IntKind.min .u8=0:=bf
 have e2:IntKind.max .u8=255:=bf
 unfold r5;rw[U,e2];exact h
theorem ij {x:Int} (h:-9223372036854775808<=x/\x<=9223372036854775807):r5 .i64 x:=by
 have U:IntKind.min .i64=-9223372036854775808:=bf
 have e2:IntKind.max .i64=9223372036854775807:=bf
 unfold r5;rw[U,e2];exact h
theorem nX:GQ zV:=⟨Ch bf,ij bf,bf⟩
theorem Fc {n:Int} (h:-9223372036854775808<=n/\n<=9223372036854775807):GQ ⟨1,n,⟨#[]⟩⟩:=⟨Ch (show(0:Int)<=1/\(1:Int)<=255 by decide),ij h,by show(0:Nat)<=_;omega⟩
theorem mS {k x o:Int} {v:V} (hk:0<=k/\k<=255)(hv:GQ v)(hx:-9223372036854775808<=x/\x<=9223372036854775807)(U:0<=o/\o<=255) {l:List Q4} (hl:l.length<=100)(h:∀y∈l,cw y):cw ⟨k,v,x,o,l⟩:=
 .mk _ (Ch hk) hv (ij hx) (Ch U) (by show l.length<=_;omega) h
theorem FQ:cw zE:=mS bf nX bf bf bf (λy hy=>by cases hy)
theorem UE:mj lU iI where
 right:=H6
 ok:=λr hr=>by
  rw[List.mem_singleton.1 hr];refine⟨bf,ij bf,ij bf,⟨bf,λc hc=>?_⟩,⟨bf,λa U=>?_⟩⟩
  ·rcases List.mem_cons.1 hc with rfl|hc
   ·refine⟨Ch bf,ij bf,⟨bf,λa U=>?_⟩,FQ⟩;rcases List.mem_cons.1 U with rfl|U;· exact⟨Ch bf,ij bf,nX⟩
    · rw[List.mem_singleton.1 U];exact⟨Ch bf,ij bf,Fc bf⟩
   ·rw[List.mem_singleton.1 hc];refine⟨Ch bf,ij bf,⟨bf,λa U=>?_⟩,FQ⟩;rcases List.mem_cons.1 U with rfl|U;· exact⟨Ch bf,ij bf,nX⟩
    · rw[List.mem_singleton.1 U];exact⟨Ch bf,ij bf,nX⟩
  ·rcases List.mem_cons.1 U with rfl|U
   ·refine ⟨Ch bf,ij bf,ij bf,bf,λe he=>?_⟩;rcases List.mem_cons.1 he with rfl|he;· exact mS bf nX bf bf bf (λy hy=>by cases hy)
    ·rw[List.mem_singleton.1 he];refine mS bf nX bf bf bf λy hy=>?_
     rcases List.mem_cons.1 hy with rfl|hy;· exact mS bf nX bf bf bf (λy hy=>by cases hy)
     ·rw[List.mem_singleton.1 hy];exact mS bf (Fc bf) bf bf bf (λy hy=>by cases hy)
   ·rw[List.mem_singleton.1 U];exact⟨Ch bf,ij bf,ij bf,bf,λe he=>by cases he⟩
 light:=λr hr=>by
  rw[List.mem_singleton.1 hr];refine⟨λc hc=>?_,λa U=>?_⟩
  ·rcases List.mem_cons.1 hc with rfl|hc;· exact⟨bf,bf⟩
   · rw[List.mem_singleton.1 hc];exact⟨bf,bf⟩
  ·rcases List.mem_cons.1 U with rfl|U;· decide
   · rw[List.mem_singleton.1 U];decide
def af (id a b:Int):Qq:=⟨id,0,[⟨1,a,⟨#[]⟩⟩,⟨1,b,⟨#[]⟩⟩]⟩
theorem XK {n:Int}:oa ⟨1,n,⟨#[]⟩⟩=true:=by
 unfold oa;exact @decide_eq_true _ (Classical.propDecidable _) (.inl ⟨rfl,rfl⟩)
theorem Ip {id a b:Int} (h:0<id/\id<=1099511627776):xe lU 0 (af id a b)=true:=by
 unfold xe;have U:decide (0<(af id a b).id/\(af id a b).id<=1099511627776)=true:=decide_eq_true h;rw[U,Bool.true_and];have e:rM lU (af id a b).ty (((af id a b).args.length:Nat):Int)=true:=rfl;rw[e,Bool.true_and];show(List.all [_,_] oa)=true;rw[List.all_cons,List.all_cons,List.all_nil,XK,XK];rfl
theorem qP {a b:Int} (ha:dm a)(hb:dm b):Ct [⟨1,a,⟨#[]⟩⟩,⟨1,b,⟨#[]⟩⟩]:=⟨by show 2<=_;omega,λv U=>by
 rcases List.mem_cons.1 U with rfl|U;· exact⟨ha,by show 0<=_;omega⟩
 · rw[List.mem_singleton.1 U];exact⟨hb,by show 0<=_;omega⟩⟩
theorem Io {facts:List Qq} {id a b:Int} (h:0<id/\id<=1099511627776)(ha:dm a)(hb:dm b)(hl:facts.length<=1000000)(hn:(facts.any λg=>decide (g.id=id))=false)(hs:jz (kd (af id a b) facts) iI<=4096):
  xc NB (.net lU iI facts) id 0 [⟨1,a,⟨#[]⟩⟩,⟨1,b,⟨#[]⟩⟩]=some (0,.net lU iI (kd (af id a b) facts)):=by
 unfold xc;simp only;rw[if_pos ⟨Nat.le_refl _,hl,qP ha hb⟩]
 have e:kl lU iI facts (af id a b)=(kd (af id a b) facts,0):=by
  unfold kl;have U:(facts.any λg=>decide (g.id=(af id a b).id))=false:=hn;rw[if_pos (Ip h),U,if_neg ax,if_pos hs]
 show some ((kl lU iI facts (af id a b)).2,fI.net lU iI (kl lU iI facts (af id a b)).1)=_;rw[e]
theorem a1s:jz [af 1 1 1] iI=2:=au
theorem a1t:jz [af 1 1 1,af 2 1 2] iI=3:=au
theorem a1u:jz [af 2 1 2] iI=0:=au
theorem Yj:iV [af 1 1 1] iI 0=[⟨0,[1,1]⟩]:=au
theorem Yk:iV [af 1 1 1,af 2 1 2] iI 0=[⟨0,[1,1]⟩,⟨0,[1,2]⟩]:=au
theorem Yl:iV [af 2 1 2] iI 0=[]:=au
theorem Iu:X4 NB=some true:=by
 have h1:newN NB lU iI=some (.net lU iI []):=if_pos ⟨Nat.le_refl _,UE⟩;have U:xc NB (.net lU iI []) 1 0 [⟨1,1,⟨#[]⟩⟩,⟨1,1,⟨#[]⟩⟩]=some (0,.net lU iI [af 1 1 1]):=Io bf (by unfold dm;decide) (by unfold dm;decide) bf rfl (by show jz [af 1 1 1] iI<=4096;rw[a1s];decide)
 have h3:yT NB (.net lU iI [af 1 1 1])=some [⟨0,[1,1]⟩]:=by
  unfold yT;simp only;rw[if_pos (Nat.le_refl _),Yj]
 have h4:xc NB (.net lU iI [af 1 1 1]) 2 0 [⟨1,1,⟨#[]⟩⟩,⟨1,2,⟨#[]⟩⟩]=some (0,.net lU iI [af 1 1 1,af 2 1 2]):=Io bf (by unfold dm;decide) (by unfold dm;decide) bf rfl (by show jz [af 1 1 1,af 2 1 2] iI<=4096;rw[a1t];decide)
 have h5:yT NB (.net lU iI [af 1 1 1,af 2 1 2])=some [⟨0,[1,1]⟩,⟨0,[1,2]⟩]:=by
  unfold yT;simp only;rw[if_pos (Nat.le_refl _),Yk]
 have h6:Ej NB (.net lU iI [af 1 1 1,af 2 1 2]) 1=some (0,.net lU iI [af 2 1 2]):=by
  unfold Ej;simp only;rw[if_pos ⟨Nat.le_refl _,bf⟩]
  have e:C5 iI [af 1 1 1,af 2 1 2] 1=([af 2 1 2],0):=by
   unfold C5;rw[if_pos It];exact if_pos (by show jz [af 2 1 2] iI<=4096;rw[a1u];decide)
  rw[e]
 have h7:yT NB (.net lU iI [af 2 1 2])=some []:=by
  unfold yT;simp only;rw[if_pos (Nat.le_refl _),Yl]
 have h8:Ej NB (.net lU iI [af 2 1 2]) 1=some (6,.net lU iI [af 2 1 2]):=by
  unfold Ej;simp only;rw[if_pos ⟨Nat.le_refl _,bf⟩]
  have e:C5 iI [af 2 1 2] 1=([af 2 1 2],6):=by
   unfold C5;exact if_neg bf
  rw[e]
 unfold X4 I3;rw[h1,Q1,Q1,U,Q1];simp only;rw[h3,Q1,Q1,h4,Q1];simp only;rw[h5,Q1,h6,Q1];simp only;unfold Q4R;simp only[h7,h8,js,Q1];rfl
end
section
open Go Go.RowKit
theorem Fe {N:Nat} {o k:Int} (hk:0<k)(U:k<=1000):∃v:Nat,VH N o k=some ((v:Nat):Int)/\((v:Nat):Int)<k:=by
 unfold VH;have h1:=Int.tmod_lt_of_pos o hk;rw[if_neg (by simp;omega),QM an];by_cases hm:Int.tmod o k<0
 ·have h2:-k<Int.tmod o k:=Int.lt_tmod_of_pos o hk;rw[br hm,QM an,Q1];exact⟨(Int.tmod o k+k).toNat,by rw[Int.toNat_of_nonneg an],an⟩
 ·rw[bs hm,Q1];exact⟨(Int.tmod o k).toNat,by rw[Int.toNat_of_nonneg an],an⟩
theorem XZ {σ O:Type} {f:σ->Option (σ⊕O)} {o:O}:∀(n:Nat)(s:Nat->σ),(∀i,i<n->f (s i)=some (.inl (s (i+1))))->f (s n)=some (.inr o)->∀{N:Nat},n<N->fk f N (s 0)=some o
 | 0,s,_,stop,N,h=>by
   obtain⟨m,rfl⟩:∃m,N=m+1:=⟨N-1,an⟩
   exact uf stop
 | n+1,s,step,stop,N,h=>by
   obtain⟨m,rfl⟩:∃m,N=m+1:=⟨N-1,an⟩
   rw[I4 (step 0 an)];exact XZ n (λi=>s (i+1)) (λi hi=>step (i+1) an) stop an
def tg:List Q7:=[⟨⟨#[112]⟩,2⟩,⟨⟨#[113]⟩,0⟩]
def mN:Qp:=⟨2,1,[],zE⟩
def mA:Qp:=⟨1,0,[⟨1,0,zV⟩,⟨1,0,zV⟩],zE⟩
def uo (k:Nat):List Qa:=[⟨⟨#[114]⟩,0,0,mN::List.replicate k mA,[]⟩]
def bF:Qq:=⟨1000,1,[]⟩
def T0 (f:Qq):Prop:=f.ty=0/\f.args.length=2
theorem R3 {f:Qq} (h:T0 f):Ek mA f [] []=some ([],[]):=by
 obtain⟨id,ty,l⟩:=f;obtain⟨h1,U⟩:=h;have h1:ty=0:=h1;subst h1;match l,U with
 |[a,b],_=>rfl
def mP (n:Nat):Nat->Nat
 |0=>0
 |k+1=>n*(1+mP n k)
theorem we {l:List Qq} {g:Qq->Nat} {c:Nat} (h:∀f∈l,g f=c):(l.map g).sum=l.length*c:=by
 induction l with
 |nil=>simp
 | cons f l ih=>
   rw[List.map_cons,List.sum_cons,h f List.mem_cons_self,ih λx U=>h x (List.mem_cons_of_mem _ U),List.length_cons,Nat.add_mul,Nat.one_mul,Nat.add_comm]
section
variable {F:List Qq}
theorem zA (h:∀f∈F,T0 f):∀k,yR (j4 F) F (List.replicate k mA) [] []=mP F.length k
 |0=>rfl
 | k+1=>by
   rw[List.replicate_succ,Pu bf bf,mP];refine we λf U=>?_
   unfold Sw;rw[show(j4 F).mt mA [] [] f=some ([],[])from R3 (h f U)];simp only;rw[zA h k]
theorem Jv (h:∀f∈F,T0 f):∀k ids,(goN (j4 F) F (List.replicate k mA) [] [] ids).length=F.length^k
 |0,_=>rfl
 | k+1,ids=>by
   rw[List.replicate_succ,go1 bf bf,List.length_flatMap,we (c:=F.length^k) λf U=>?_,Nat.pow_succ,Nat.mul_comm];unfold UA;rw[show(j4 F).mt mA [] [] f=some ([],[])from R3 (h f U)];exact Jv h k _
theorem Rb (h:∀f∈F,T0 f):(j4 F).sm mN [] []=false:=by
 show(F.any λf=>(Ek mN f [] []).isSome)=false;rw[List.any_eq_false];intro f U;unfold Ek
 rw [if_neg λhh=>by
  have h1:=(h f U).1;have h2:(1:Int)=f.ty:=hh.2.1;omega]
 simp
theorem KN (h:bF∈F):(j4 F).sm mN [] []=true:=List.any_eq_true.2 ⟨bF,h,rfl⟩
theorem KV (h:∀f∈F,T0 f)(k:Nat):jz F (uo k)=1+mP F.length k:=by
 show yR (j4 F) F (mN::List.replicate k mA) [] []+0=_;rw[IE bf rfl,Rb h,if_neg ax,zA h,Nat.add_zero]
theorem rj (h:bF∈F)(k:Nat):jz F (uo k)=0:=by
 show yR (j4 F) F (mN::List.replicate k mA) [] []+0=_;rw[IE bf rfl,KN h,if_pos rfl]
theorem xE (h:∀f∈F,T0 f)(k:Nat):(iV F (uo k) 0).length=F.length^k:=by
 show((goN (j4 F) F (mN::List.replicate k mA) [] [] []).map _++[]).length=_;rw[go2 bf rfl,Rb h,if_neg ax,List.append_nil,List.length_map,Jv h]
theorem J2 (h:bF∈F)(k:Nat):iV F (uo k) 0=[]:=by
 show(goN (j4 F) F (mN::List.replicate k mA) [] [] []).map _++[]=_;rw[go2 bf rfl,KN h,if_pos rfl];rfl
theorem xj {ts:List Q7} {rs:List Qa} {f:Qq} (hl:F.length<=1000000)(ha:Ct f.args)(hp:xe ts 0 f=true)(hn:∀g∈F,g.id≠f.id):
  xc NB (.net ts rs F) f.id f.ty f.args=if jz (kd f F) rs<=4096 then some (0,.net ts rs (kd f F))else some (204,.net ts rs F):=by
 unfold xc;simp only;rw[if_pos ⟨Nat.le_refl _,hl,ha⟩]
 have U:¬(F.any λg=>decide (g.id=f.id))=true:=λh=>by
  obtain⟨g,hg,e⟩:=List.any_eq_true.1 h;exact hn g hg (cv e)
 show some ((kl ts rs F f).2,fI.net ts rs (kl ts rs F f).1)=_;unfold kl;rw[if_pos hp,if_neg U];split<;>rfl
theorem EE {ts:List Q7} {rs:List Qa} {id:Int} (hl:F.length<=1000000) {f:Qq} (U:f∈F)(hi:f.id=id):
  Ej NB (.net ts rs F) id=if jz (gF id F) rs<=4096 then some (0,.net ts rs (gF id F))else some (204,.net ts rs F):=by
 unfold Ej;simp only;rw[if_pos ⟨Nat.le_refl _,hl⟩];show some ((C5 rs F id).2,fI.net ts rs (C5 rs F id).1)=_;unfold C5;rw[if_pos (List.any_eq_true.2 ⟨f,U,decide_eq_true hi⟩)];split<;>rfl
end
theorem CP {k:Nat} {c:Qp} (h:c∈mN::List.replicate k mA):c=mN\/c=mA:=by
 rcases List.mem_cons.1 h with h|h;· exact .inl h
 · exact .inr (List.eq_of_mem_replicate h)
theorem Dz {k:Nat} (hk:k=2\/k=3\/k=4):LQ tg (uo k)=true:=by
 have h:Mz 9223372036855854808 tg (uo k)=some true:=by
  rcases hk with rfl|rfl|rfl<;>kernel_rfl
 have U:=Q9V (N:=9223372036855854808) (types:=tg) (rules:=uo k) bf (λr hr=>by
  rw[List.mem_singleton.1 hr]
  exact ⟨λc hc=>by
   rcases CP hc with rfl|rfl;· exact⟨bf,bf⟩
   · exact⟨bf,bf⟩,λa ha=>by cases ha⟩)
 rw[h]at U;exact(Option.some.inj U).symm
theorem O6 {k:Nat} (hk:k=2\/k=3\/k=4):mj tg (uo k) where
 right:=Dz hk
 ok:=λr hr=>by
  rw[List.mem_singleton.1 hr];refine⟨by show 1<=_;omega,ij (show-9223372036854775808<=(0:Int)/\(0:Int)<=9223372036854775807 by decide),ij (show-9223372036854775808<=(0:Int)/\(0:Int)<=9223372036854775807 by decide),⟨?_,λc hc=>?_⟩,⟨by show 0<=_;omega,λa U=>by cases U⟩⟩;· rcases hk with rfl|rfl|rfl<;>decide
  ·rcases CP hc with rfl|rfl;· exact⟨Ch bf,ij bf,⟨bf,λa U=>by cases U⟩,FQ⟩
   ·refine⟨Ch bf,ij bf,⟨bf,λa U=>?_⟩,FQ⟩;rcases List.mem_cons.1 U with rfl|U;· exact⟨Ch bf,ij bf,nX⟩
    · rw[List.mem_singleton.1 U];exact⟨Ch bf,ij bf,nX⟩
 light:=λr hr=>by
  rw[List.mem_singleton.1 hr];refine⟨λc hc=>?_,λa U=>by cases U⟩;rcases CP hc with rfl|rfl;· exact⟨bf,bf⟩
  · exact⟨bf,bf⟩
def aF (i:Nat):Qq:=af ((i+1:Nat):Int) ((i:Nat):Int) 0
def gS (m:Nat):List Qq:=(List.range m).map aF
theorem xJ {m:Nat} {f:Qq} (h:f∈gS m):T0 f/\∃i,i<m/\f=aF i:=by
 obtain⟨i,hi,rfl⟩:=List.mem_map.1 h;exact⟨⟨rfl,rfl⟩,i,List.mem_range.1 hi,rfl⟩
theorem jo (m:Nat):(gS m).length=m:=by unfold gS;rw[List.length_map,List.length_range]
theorem Nq (m:Nat):gS (m+1)=gS m++[aF m]:=by unfold gS;rw[List.range_succ,List.map_append];rfl
theorem xH (m:Nat):gS (m+1)=aF 0::(List.range m).map λi=>aF (i+1):=by unfold gS;rw[List.range_succ_eq_map,List.map_cons,List.map_map];rfl
theorem r6 {f:Qq}:∀{l r:List Qq},(∀g∈l,g.id<f.id)->(∀g∈r,f.id<g.id)->kd f (l++r)=l++f::r
 |[],[],_,_=>rfl
 |[],g::r,_,h=>by rw[List.nil_append,kd,if_pos (h g List.mem_cons_self)];rfl
 | g::l,r,h,U=>by
   rw[List.cons_append,kd,if_neg (by have:=h g List.mem_cons_self;omega),r6 (λx hx=>h x (List.mem_cons_of_mem _ hx)) U];rfl
theorem Yf {l:List Qq} (h:∀g∈l,g.id≠1000):gF 1000 (l++[bF])=l:=by
 unfold gF;rw[List.filter_append,List.filter_eq_self.2 (λg U=>decide_eq_true (h g U))];exact List.append_nil _
theorem zo {i:Nat} (h:i<1000):xe tg 0 (aF i)=true:=by
 unfold xe;have U:decide (0<(aF i).id/\(aF i).id<=1099511627776)=true:=decide_eq_true (by show(0:Int)<((i+1:Nat):Int)/\((i+1:Nat):Int)<=_;omega);rw[U,Bool.true_and];have e:rM tg (aF i).ty (((aF i).args.length:Nat):Int)=true:=rfl;rw[e,Bool.true_and];show(List.all [_,_] oa)=true;rw[List.all_cons,List.all_cons,List.all_nil,XK,XK];rfl
theorem G8:xe tg 0 (af 2000 9 9)=true:=by
 unfold xe;have U:decide (0<(af 2000 9 9).id/\(af 2000 9 9).id<=1099511627776)=true:=bf
 rw[U,Bool.true_and];have e:rM tg (af 2000 9 9).ty (((af 2000 9 9).args.length:Nat):Int)=true:=rfl;rw[e,Bool.true_and];show(List.all [_,_] oa)=true;rw[List.all_cons,List.all_cons,List.all_nil,XK];rfl
theorem Iv:xe tg 0 bF=true:=by
 unfold xe;have U:decide (0<bF.id/\bF.id<=1099511627776)=true:=bf
 rw[U,Bool.true_and];rfl
def gX (m:Nat):Nat->Nat
 |0=>1
 |k+1=>gX m k+m^k*m
theorem zp (m:Nat):∀k,gX m (k+1)=1+m*gX m k
 |0=>by simp[gX]
 | k+1=>by
   show gX m (k+1)+m^(k+1)*m=1+m*(gX m k+m^k*m);rw[zp m k,Nat.mul_add,Nat.pow_succ,Nat.add_assoc,Nat.mul_comm m (m^k*m)]
theorem CF (m:Nat):∀k,1+mP m k=gX m k
 |0=>rfl
 |k+1=>by rw[mP,CF m k,zp]
theorem DF {m j:Nat} (hm:m<=131)(U:j<=4):m^j<=300000000:=
 Nat.le_trans (Nat.pow_le_pow_left hm j) (Nat.le_trans (Nat.pow_le_pow_right bf U) bf)
theorem CG {m:Nat} (hm:m<=131):∀{k:Nat},k<=4->gX m k<=300000000*(k+1)
 |0,_=>by simp[gX]
 | k+1,h=>by
   have h1:=CG hm (k:=k) an;have U:m^k*m<=300000000:=DF (j:=k+1) hm h;show gX m k+m^k*m<=_;omega
theorem ZQ {N k m:Nat} {x y:Int} (hN:9223372036854775808<=N)(hk:2+x=((k:Nat):Int))(TW:k<=4)(hm:1+y=((m:Nat):Int))(U:m<=131):
  fk (Vv N x y) N (0,1,1)=some (((gX m k:Nat):Int),((m^k:Nat):Int)):=by
 refine XZ k (λi=>(i,((m^i:Nat):Int),((gX m i:Nat):Int))) (λi hi=>?_) ?_ an
 ·unfold Vv;simp only;have h1:=DF U (j:=i+1) an;have h2:=CG U (k:=i+1) an;have e1:((m^i:Nat):Int)*(m:Int)=((m^(i+1):Nat):Int):=by rw[Nat.pow_succ];exact(Int.natCast_mul _ _).symm
  have e2:((gX m i:Nat):Int)+((m^(i+1):Nat):Int)=((gX m (i+1):Nat):Int):=by rw[gX,<-Nat.pow_succ];exact(Int.natCast_add _ _).symm
  rw[hk,hm,if_pos (decide_eq_true an),e1,QM an,e2,QM an,QM an]
 ·unfold Vv;simp only;rw[hk,if_neg ax]
theorem ZR {N k m:Nat} {x y:Int} (hN:9223372036854775808<=N)(hk:2+x=((k:Nat):Int))(TW:k<=4)(hm:1+y+1=((m:Nat):Int))(U:m<=131):
  fk (Vw N x y) N (0,1,1)=some (((gX m k:Nat):Int),((m^k:Nat):Int)):=by
 refine XZ k (λi=>(i,((m^i:Nat):Int),((gX m i:Nat):Int))) (λi hi=>?_) ?_ an
 ·unfold Vw;simp only;have h1:=DF U (j:=i+1) an;have h2:=CG U (k:=i+1) an;have e1:((m^i:Nat):Int)*(m:Int)=((m^(i+1):Nat):Int):=by rw[Nat.pow_succ];exact(Int.natCast_mul _ _).symm
  have e2:((gX m i:Nat):Int)+((m^(i+1):Nat):Int)=((gX m (i+1):Nat):Int):=by rw[gX,<-Nat.pow_succ];exact(Int.natCast_add _ _).symm
  rw[hk,hm,if_pos (decide_eq_true an),QM an,e1,QM an,e2,QM an,QM an]
 ·unfold Vw;simp only;rw[hk,if_neg ax]
theorem ZO {N k:Nat} {x:Int} (hN:9223372036854775808<=N)(hk:2+x=((k:Nat):Int))(U:k<=4):
  fk (RA N x) N (0,[mN])=some (mN::List.replicate k mA):=by
 refine XZ k (λi=>(i,mN::List.replicate i mA)) (λi hi=>?_) ?_ an
 ·unfold RA;simp only;rw[hk,if_pos (decide_eq_true an),QM (by rw[List.length_cons,List.length_replicate];show i+1+1<=_;omega),QM an];rw[List.replicate_succ'];rfl
 ·unfold RA;simp only;rw[hk,if_neg ax]
theorem ZP {N k m:Nat} {y:Int} (hN:N=NB)(hm:1+y=((m:Nat):Int))(Gx:m<=130):
  fk (Vu N y) N (0,.net tg (uo k) [bF])=some (.inl (.net tg (uo k) (gS m++[bF]))):=by
 subst hN;refine XZ m (λi=>(i,fI.net tg (uo k) (gS i++[bF]))) (λi hi=>?_) ?_ (by show m<9223372036860000000;omega)
 ·unfold Vu I3;simp only;have hlen:(gS i++[bF]).length=i+1:=by rw[List.length_append,jo];rfl
  have bq:∀g∈gS i,g.id<(aF i).id:=λg U=>by
   obtain⟨_,j,hj,rfl⟩:=xJ U;show((j+1:Nat):Int)<((i+1:Nat):Int);omega
  have hgt:∀g∈[bF],(aF i).id<g.id:=λg U=>by
   rw[List.mem_singleton.1 U];show((i+1:Nat):Int)<1000;omega
  have iN:kd (aF i) (gS i++[bF])=gS (i+1)++[bF]:=by
   rw[r6 bq hgt,Nq,List.append_assoc];rfl
  have ha:=xj (ts:=tg) (rs:=uo k) (F:=gS i++[bF]) (f:=aF i) an (qP (by unfold dm;omega) (by unfold dm;omega)) (zo an) (λg U=>by
   rcases List.mem_append.1 U with U|U;· have:=bq g U;omega
   · have:=hgt g U;omega)
  rw[iN,rj (List.mem_append_right _ List.mem_cons_self),if_pos an]at ha;rw[hm,if_pos (decide_eq_true an),QM an,Q1];rw[show xc NB (.net tg (uo k) (gS i++[bF])) ((i+1:Nat):Int) 0 [⟨1,((i:Nat):Int),⟨#[]⟩⟩,⟨1,0,⟨#[]⟩⟩]=_ from ha,Q1];simp only;rw[if_neg bf,QM an]
 ·unfold Vu;simp only;rw[hm,if_neg ax]
theorem yh {p q:Prop} (a:Int)(_:p)(b:Int)(_:q):Q3z NB a b=some true:=by
 obtain⟨x,hx,Wu⟩:=Fe (N:=NB) (o:=a) (k:=3) bf bf;obtain⟨y,hy,Uf⟩:=Fe (N:=NB) (o:=b) (k:=130) bf bf;obtain⟨k,hk⟩:∃k:Nat,2+((x:Nat):Int)=((k:Nat):Int):=⟨2+x,an⟩
 obtain⟨n,hm⟩:∃n:Nat,1+((y:Nat):Int)=((n+1:Nat):Int):=⟨y,an⟩
 have TW:k=2\/k=3\/k=4:=an
 have hNB:9223372036854775808<=NB:=bf
 have hn:newN NB tg (uo k)=some (.net tg (uo k) []):=if_pos ⟨Nat.le_refl _,O6 TW⟩;have hb:=xj (ts:=tg) (rs:=uo k) (F:=[]) (f:=bF) bf ⟨bf,λv hv=>by cases hv⟩ Iv (λg U=>by cases U);rw[show kd bF []=[bF]from rfl,rj List.mem_cons_self,if_pos an]at hb;have hlen:(gS (n+1)++[bF]).length=n+2:=by rw[List.length_append,jo];rfl
 have EO:∀g∈gS (n+1),g.id≠1000:=λg U=>by
  obtain⟨_,j,hj,rfl⟩:=xJ U;show((j+1:Nat):Int)≠1000;omega
 have ef:∀g∈gS (n+1),T0 g:=λg U=>(xJ U).1;have hd:=EE (ts:=tg) (rs:=uo k) (F:=gS (n+1)++[bF]) (id:=1000) an (List.mem_append_right _ List.mem_cons_self) rfl;rw[Yf EO,KV ef,jo,CF]at hd;unfold Q3z;rw[Iu,Q1,if_neg ax,hx,Q1,QM an,hy,Q1,QM an];rw[show fk (RA NB x) NB (0,[⟨2,1,[],⟨0,⟨0,0,⟨#[]⟩⟩,0,0,[]⟩⟩])=_ from ZO hNB hk an,Q1];rw[show newN NB [⟨⟨#[112]⟩,2⟩,⟨⟨#[113]⟩,0⟩] [⟨⟨#[114]⟩,0,0,mN::List.replicate k mA,[]⟩]=_ from hn,Q1];rw[show xc NB (.net tg (uo k) []) 1000 1 []=_ from hb,Q1];simp only;rw[if_neg bf,ZP rfl hm an,ud,ZQ hNB hk an hm an,Q1];simp only;rw[hd];by_cases hc:gX (n+1) k<=4096
 ·rw [if_pos hc,Q1];simp only;rw[if_neg (by simp;omega),if_neg bf];unfold yT;simp only;rw[if_pos (Nat.le_refl _),Q1,xE ef,jo,Q1,if_neg ax,ZR hNB hk an (m:=n+2) an an,Q1];simp only
  have bq:∀g∈gS (n+1),g.id<(af 2000 9 9).id:=λg U=>by
   obtain⟨_,j,hj,rfl⟩:=xJ U;show((j+1:Nat):Int)<2000;omega
  have ha:=xj (ts:=tg) (rs:=uo k) (F:=gS (n+1)) (f:=af 2000 9 9) (by rw[jo];omega) (qP (by unfold dm;decide) (by unfold dm;decide)) G8 (λg U=>by have:=bq g U;omega)
  have hi:kd (af 2000 9 9) (gS (n+1))=gS (n+1)++[af 2000 9 9]:=by
   have:=r6 (f:=af 2000 9 9) (r:=[]) bq (λg U=>by cases U);rw[List.append_nil]at this;exact this
  have PI:∀g∈gS (n+1)++[af 2000 9 9],T0 g:=λg U=>by
   rcases List.mem_append.1 U with U|U;· exact ef g U
   · rw[List.mem_singleton.1 U];exact⟨rfl,rfl⟩
  have ES:(gS (n+1)++[af 2000 9 9]).length=n+2:=by rw[List.length_append,jo];rfl
  rw[hi,KV PI,ES,CF]at ha;unfold I3;rw[Q1,show xc NB (.net tg (uo k) (gS (n+1))) 2000 0 [⟨1,9,⟨#[]⟩⟩,⟨1,9,⟨#[]⟩⟩]=_ from ha];by_cases HI:gX (n+2) k<=4096
  ·rw[if_pos HI,Q1];simp only;rw[if_neg (by simp;omega),if_pos bf];unfold js;simp only;rw[Q1,ES,QM an,if_pos (by simp;omega),if_pos (Nat.le_refl _),Q1,xE PI,ES];simp
  ·rw[if_neg HI,Q1];simp only;rw[if_pos (by simp;omega),if_pos bf];unfold js;simp only;rw[Q1,jo,if_pos (by simp;omega),if_pos (Nat.le_refl _),Q1,xE ef,jo];simp
 ·rw [if_neg hc,Q1];simp only;rw[if_pos (by simp;omega)];unfold Q43;rw[if_pos bf];have Dc:bF∈gS (n+1)++[bF]:=List.mem_append_right _ List.mem_cons_self;have yV:=EE (ts:=tg) (rs:=uo k) (F:=gS (n+1)++[bF]) (f:=aF 0) (id:=1) an (List.mem_append_left _ (by rw[xH];exact List.mem_cons_self)) rfl
  have e1:gF 1 (gS (n+1)++[bF])=((List.range n).map λi=>aF (i+1))++[bF]:=by
   rw[xH];unfold gF;rw[List.cons_append,List.filter_cons_of_neg bf,List.filter_eq_self];intro g U;rcases List.mem_append.1 U with U|U
   ·obtain⟨j,_,rfl⟩:=List.mem_map.1 U;refine decide_eq_true ?_;show((j+1+1:Nat):Int)≠1;omega
   · rw[List.mem_singleton.1 U];decide
  rw[e1,rj (List.mem_append_right _ List.mem_cons_self),if_pos an]at yV
  have ha:=xj (ts:=tg) (rs:=uo k) (F:=((List.range n).map λi=>aF (i+1))++[bF]) (f:=aF 0) (by rw[List.length_append,List.length_map,List.length_range];show n+1<=_;omega) (qP (by unfold dm;decide) (by unfold dm;decide)) (zo bf) (λg U=>by
   rcases List.mem_append.1 U with U|U
   ·obtain⟨j,_,rfl⟩:=List.mem_map.1 U;show((j+1+1:Nat):Int)≠1;omega
   · rw[List.mem_singleton.1 U];decide)
  have e2:kd (aF 0) (((List.range n).map λi=>aF (i+1))++[bF])=gS (n+1)++[bF]:=by
   have:=r6 (f:=aF 0) (l:=[]) (r:=((List.range n).map λi=>aF (i+1))++[bF]) (λg U=>by cases U) (λg U=>by
    rcases List.mem_append.1 U with U|U
    ·obtain⟨j,_,rfl⟩:=List.mem_map.1 U;show(1:Int)<((j+1+1:Nat):Int);omega
    · rw[List.mem_singleton.1 U];decide)
   rw[List.nil_append,List.nil_append]at this;rw[this,xH];rfl
  rw[e2,rj Dc,if_pos an]at ha;unfold js yT I3;simp only;rw[Q1,hlen,QM an,if_pos (by simp;omega),if_pos (Nat.le_refl _),Q1,J2 Dc,if_pos bf,yV,Q1];simp only;rw[if_pos bf,Q1,show xc NB _ 1 0 [⟨1,0,⟨#[]⟩⟩,⟨1,0,⟨#[]⟩⟩]=_ from ha,Q1];simp only;rw[if_pos bf,hd,if_neg hc,Q1];rfl
end
end Go.Proofs.YtocfkfhdcnjklaaGreatDoor
