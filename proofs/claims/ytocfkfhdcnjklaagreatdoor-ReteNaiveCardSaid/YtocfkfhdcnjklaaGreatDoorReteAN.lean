import Derived.Test.YtocfkfhdcnjklaaGreatDoorNaivR
import Derived.Test.YtocfkfhdcnjklaaGreatDoorYW1
import Derived.LoopN
open Nat renaming le_trans->a',mul_le_mul_right->b',le_refl->h',eq_of_beq_eq_true->n',zero_le->B',sub_sub->Q',beq->g!,zero_add->h!
open List renaming getElem?_eq_getElem->c',mem_singleton->d',mem_cons->f',drop_eq_getElem_cons->i',nil_append->j',mem_cons_self->k',drop_of_length_le->l',getElem_mem->o',take_of_length_le->p',length_cons->q',mem_of_getElem?->r',mem_cons_of_mem->t',mem_append->u',append_assoc->A',take_add_one->E',take_append_drop->M',drop_zero->S',filter_eq_self->T',pairwise_cons->a!,drop_sublist->b!,length_drop->c!,any_eq_true->d!,all_cons->e!
open Option renaming map->e',map_eq_some_iff->K'
open Bool renaming and_eq_true->g',true_and->W'
namespace Go.Proofs.YtocfkfhdcnjklaaGreatDoor
section
open Go Go.RowKit Classical
inductive fW where
 |nil
 |zero
 |net (ts:List Q9) (rules:List Q8) (facts:List Qg)
variable {R R':bc->aq Fact->aq Fact->Prop}{w:bx}{f:FuncId}{args:aq bc}
def fW.isNil:fW->Bool
 | .nil=>true
 |_=>false
def Sz:aq bc:=[.slice none 0 0,.slice none 0 0,.map none,.map none,.int .i64 0]
def B3 (o:bf Nat)(x:fW)(N F:eL)(w:bx):Prop:=match o,x with
 |none,.nil=>True
 |some a,.zero=>(Fact.blk a Sz 85).op N F w
 |some a,.net ts rules facts=>∃s,ze ts rules facts a s/\nK gg s N F w
 |_,_=>False
theorem B3.good {o:bf Nat} {x:fW} {N N' F G:eL} {w U:bx} (hN:∀k,N k->N' k)(ha:fX N w U)(hF:∀k,F k->G k)(hb:fX F w U)(h:B3 o x N F w):B3 o x N' G U:=by
 cases o with
 |none=>cases x<;>exact h
 | some a=>cases x with
   |nil=>exact h
   |zero=>exact⟨hN _ h.1,(ha a h.1).trans h.2⟩
   | net ts rules facts=>
     obtain⟨s,h1,h2⟩:=h;exact⟨s,h1,h2.good hN ha hF hb⟩
def jK (o:bf Nat)(x:fW):Fact:=.duo (λN F w=>B3 o x N F w) B3.good
theorem B3.isNil {o:bf Nat} {x:fW} {N F:eL} {w:bx} (h:B3 o x N F w):(e' pA o).isNone=x.isNil:=by
 cases o<;>cases x<;>first|rfl|exact h.elim
theorem oL {C:Ctx} {e:Ending} (h:sf C R e w)(hR:∀v bz Hr,R v bz Hr->Ql C bz Hr w->∃xi U,R' v xi U/\Ql C xi U w):sf C R' e w:=by
 obtain⟨v,bz,Hr,h1,h2,h3⟩:=h;obtain⟨xi,U,h4,h5⟩:=hR v bz Hr h2 h3;exact⟨v,xi,U,h1,h4,h5⟩
theorem tv {P:da} {Φ:aq Fact} {K:Fact} {p:Qe->Prop} (hK:∀N F w,K.op N F w->∃s,p s/\(Qh gg s).op N F w)(h:∀s,p s->QF P f args Φ [Qh gg s] R)
  (hR:∀C v U Hr w,R v U Hr->Ql C U Hr w->∃xi Od,R' v xi Od/\Ql C xi Od w):QF P f args Φ [K] R':=λF N w hF eN hH fC F8=>by
 obtain⟨s,h1,h2⟩:=hK _ _ _ (hH 0 K rfl)
 have hc:=h s h1 F N w hF eN (λi q hi=>by
  cases i with
  |zero=>cases hi;exact h2
  |succ i=>simp at hi) fC F8
 exact hc.mono λe w' hr=>oL hr λv U Hr=>hR _ v U Hr w'
theorem CP {P:da} {Φ:aq Fact} (h:QF P f args Φ [Qh gg (λ_=>none)] R)
  (hR:∀C v U Hr w,R v U Hr->Ql C U Hr w->∃xi Od,R' v xi Od/\Ql C xi Od w):QF P f args Φ [] R':=λF N w hF eN _ _ _=>by
 have hc:=h F (λ_ _=>False) w hF eN (λi q hi=>by
  cases i with
  | zero=>
    cases hi;exact⟨λ_ _=>False,λ_ _ h=>h.elim,λ_ _ _ _ h=>h.elim,λa o h=>by cases h⟩
  |succ i=>simp at hi) (λ_ _ _ h=>h.elim) (λ_ _ _ _ _ _ h=>h.elim)
 have e:(λk=>∃i,i<[Qh gg (λ_=>none)].length/\(λ(_:Nat) (_:Nat)=>False) i k)=(λk=>∃i,i<([]:aq Fact).length/\N i k):=by
  funext k;refine propext ⟨λ⟨_,_,h⟩=>h.elim,λ⟨_,h,_⟩=>absurd h (Nat.not_lt_zero _)⟩
 rw[e]at hc;exact hc.mono λe w' hr=>oL hr λv U Hr=>hR _ v U Hr w'
theorem va {C:Ctx} {a:Nat} {ts:aq Q9} {rules:aq Q8} {facts:aq Qg} {s:Qe} {H:aq Fact} {Φ:aq Fact} {k:Nat} (h:Ql C Φ H w)(hk:H[k]? =some (Qh gg s))(U:ze ts rules facts a s):Ql C Φ (H.set k (jK (some a) (.net ts rules facts))) w:=
 h.as_ k hk λ_ _ hp=>⟨s,U,hp⟩
abbrev NB:Nat:=9223372036860000000
def Kb (l:aq V):Prop:=l.length<=4398046511104/\∀v∈l,qv v
noncomputable def newN (N:Nat)(ts:aq Q9)(rules:aq Q8):bf fW:=
 if NB<=N/\sX ts rules then some (.net ts rules [])
 else if P5 N ts rules=some false then some .nil
 else none
noncomputable def kq (N:Nat)(x:fW)(id ty:Int)(l:aq V):bf (Nat×fW):=match x with
 | .net ts rules facts=>if NB<=N/\facts.length<=1000000/\Kb l then some ((nR ts rules facts ⟨id,ty,l⟩).2,.net ts rules (nR ts rules facts ⟨id,ty,l⟩).1)else none
 |_=>none
noncomputable def Kq (N:Nat)(x:fW)(id:Int):bf (Nat×fW):=match x with
 | .net ts rules facts=>if NB<=N/\facts.length<=1000000 then some ((Gq rules facts id).2,.net ts rules (Gq rules facts id).1)else none
 |_=>none
noncomputable def Gw (N:Nat)(x:fW):bf (aq Qb):=match x with
 | .net _ rules facts=>if NB<=N then some (wc facts rules 0)else none
 |_=>none
def Cl (_:Nat)(x:fW):bf Nat:=match x with
 | .net _ _ facts=>some facts.length
 |_=>none
theorem Hk {N:Nat} (h:NB<=N):B0+4000000<=N:=a' bp h
section
variable {N:Nat} {o:bf Nat} {x y:fW}
variable {k:Nat}{ts:aq Q9}{rules:aq Q8}{facts:aq Qg}{id:Int}
theorem XD {a:bf Nat} {M F:eL} {w:bx} (h:(jK a (.net ts rules facts)).op M F w):∃b,a=some b/\∃s,ze ts rules facts b s/\(Qh gg s).op M F w:=by
 cases a with
 |none=>exact h.elim
 |some b=>exact⟨b,rfl,h⟩
theorem QdA {P:da} {f:FuncId} {args:bf Nat->aq bc} {Φ:aq Fact} {R:bf Nat->bc->aq Fact->aq Fact->Prop} (h:∀b,o=some b->QF P f (args o) Φ [jK o (.net ts rules facts)] (R o)):QF P f (args o) Φ [jK o (.net ts rules facts)] (R o):=λF M w hF eN hH fC U=>by
 obtain⟨b,e,_⟩:=XD (hH 0 _ rfl);exact h b e F M w hF eN hH fC U
theorem a1z {ck eh:bf Addr} {cu ef:Nat} {U:aq Q9} {l1:aq Q8} (h:newN N U l1=some x):QF Tryz.prog 13 [.agg #[.slice ck U.length cu,.slice eh l1.length ef]] [.sli 2 Qc ck cu U,.sli 5 Qd eh ef l1,tF] [] (λv bz Hr=>∃o:bf Nat,v=.pointer (e' pA o)/\bz=[]/\Hr=[jK o x]):=by
 unfold newN at h;split at h
 ·rename_i hc;cases h;refine CP (pr N ck cu U eh ef l1 (λ_=>none) (λq=>∃a,q.1=some a/\ze U l1 [] a q.2) (XE (Hk hc.1) hc.2 λa s' hn=>⟨a,rfl,hn⟩)) ?_;rintro C v bz Hr w ⟨o0,o1,⟨a,h1,h2⟩,rfl,rfl,rfl⟩ hh;subst h1;exact⟨[],[jK (some a) (.net U l1 [])],⟨some a,rfl,rfl,rfl⟩,va hh (k:=0) rfl h2⟩
 ·split at h
  ·rename_i hc;cases h;refine CP (pr N ck cu U eh ef l1 (λ_=>none) (λq=>q.1=none) ?_) ?_
   ·unfold Qaz;exact Qo hc (kE rfl rfl)
   ·rintro C v bz Hr w ⟨o0,o1,h1,rfl,rfl,rfl⟩ hh;have h1:o0=none:=h1;subst h1;exact⟨[],[jK none .nil],⟨none,rfl,rfl,rfl⟩,hh.as_ 0 rfl λ_ _ _=>trivial⟩
  · cases h
theorem a01 {ty:Int} {p:bf Addr} {c:Nat} {l:aq V} (h:kq N x id ty l=some (k,y)):QF Tryz.prog 20 [.pointer (e' pA o),.agg #[.int .i64 id,.int .i64 ty,.slice p l.length c]] [.sli 3 dz p c l] [jK o x] (λv U Hr=>v=.int .i64 ((k:Nat):Int)/\U=[]/\Hr=[jK o y]):=by
 unfold kq at h;split at h
 ·rename_i ts rules facts;split at h
  ·rename_i hc;cases h;refine QdA (args:=λo=>[.pointer (e' pA o),.agg #[.int .i64 id,.int .i64 ty,.slice p l.length c]]) (R:=λo v U Hr=>v=.int .i64 _/\U=[]/\Hr=[jK o _]) λa e=>?_
   subst e;refine tv (p:=ze ts rules facts a) (λ_ _ _ h=>h) (λs hs=>qJ N a id ty p c l s (λq=>q.1=(nR ts rules facts ⟨id,ty,l⟩).2/\ze ts rules (nR ts rules facts ⟨id,ty,l⟩).1 a q.2) (Vf (f:=⟨id,ty,l⟩) (Hk hc.1) hs hc.2.1 hc.2.2.1 hc.2.2.2 λs' hn=>⟨rfl,hn⟩)) ?_;rintro C v U Hr w ⟨o0,o1,⟨h1,h2⟩,rfl,rfl,rfl⟩ hh;have h1:o0=_:=h1;subst h1;exact⟨[],_,⟨rfl,rfl,rfl⟩,va hh (k:=0) rfl h2⟩
  · cases h
 · cases h
theorem VA (h:Kq N x id=some (k,y)):QF Tryz.prog 18 [.pointer (e' pA o),.int .i64 id] [] [jK o x] (λv U Hr=>v=.int .i64 ((k:Nat):Int)/\U=[]/\Hr=[jK o y]):=by
 unfold Kq at h;split at h
 ·rename_i ts rules facts;split at h
  ·rename_i hc;cases h;refine QdA (args:=λo=>[.pointer (e' pA o),.int .i64 id]) (R:=λo v U Hr=>v=.int .i64 _/\U=[]/\Hr=[jK o _]) λa e=>?_
   subst e;refine tv (p:=ze ts rules facts a) (λ_ _ _ h=>h) (λs hs=>pq N a id s (λq=>q.1=(Gq rules facts id).2/\ze ts rules (Gq rules facts id).1 a q.2) (PT (Hk hc.1) hs hc.2 λs' hn=>⟨rfl,hn⟩)) ?_;rintro C v U Hr w ⟨o0,o1,⟨h1,h2⟩,rfl,rfl,rfl⟩ hh;have h1:o0=_:=h1;subst h1;exact⟨[],_,⟨rfl,rfl,rfl⟩,va hh (k:=0) rfl h2⟩
  · cases h
 · cases h
theorem a1X {l:aq Qb} (h:Gw N x=some l):QF Tryz.prog 27 [.pointer (e' pA o)] [] [jK o x] (λv U Hr=>∃(p:bf Addr)(c:Nat)(n:Nat),v=.slice p n c/\U=[]/\Hr=[.own 101 2 wm (.slice p n c) l,jK o x]):=by
 unfold Gw at h;split at h
 ·rename_i ts rules facts;split at h
  ·rename_i hc;cases h;refine QdA (args:=λo=>[.pointer (e' pA o)]) (R:=λo v U Hr=>∃(p:bf Addr) (c:Nat) (n:Nat),v=.slice p n c/\U=[]/\Hr=[.own 101 2 wm (.slice p n c) _,jK o _]) λa e=>?_
   subst e;refine tv (p:=ze ts rules facts a) (R:=λv U Hr=>∃s,ze ts rules facts a s/\∃(p:bf Addr) (c:Nat) (n:Nat),v=.slice p n c/\U=[]/\Hr=[.own 101 2 wm (.slice p n c) (wc facts rules 0),Qh gg s]) (λ_ _ _ h=>h) (λs hs=>?_) ?_
   ·intro F M w hF eN hH fC F8;refine(QdK N a s (λl=>l=wc facts rules 0) (Yz (Hk hc) hs rfl) F M w hF eN hH fC F8).mono λe w' hr=>oL hr ?_
    rintro v U Hr ⟨o2,o0,o1,o3,rfl,rfl,rfl,rfl⟩ hh;exact⟨_,_,⟨s,hs,o0,o1,o3,rfl,rfl,rfl⟩,hh⟩
   ·rintro C v U Hr w ⟨s,hs,p,c,n,rfl,rfl,rfl⟩ hh;exact⟨[],_,⟨p,c,n,rfl,rfl,rfl⟩,va hh (k:=1) rfl hs⟩
  · cases h
 · cases h
theorem a1q (h:Cl N x=some k):QF Tryz.prog 25 [.pointer (e' pA o)] [] [jK o x] (λv U Hr=>v=.int .i64 ((k:Nat):Int)/\U=[]/\Hr=[jK o x]):=by
 unfold Cl at h;split at h
 ·rename_i ts rules facts;cases h;refine QdA (args:=λo=>[.pointer (e' pA o)]) (R:=λo v U Hr=>v=.int .i64 _/\U=[]/\Hr=[jK o _]) λa e=>?_
  subst e;refine tv (p:=ze ts rules facts a) (R:=λv U Hr=>∃s,ze ts rules facts a s/\v=.int .i64 ((facts.length:Nat):Int)/\U=[]/\Hr=[Qh gg s]) (λ_ _ _ h=>h) (λs hs=>?_) ?_
  ·intro F M w hF eN hH fC F8;refine(qK NB a s (λl=>l=facts.length) (Xz hs rfl) F M w hF eN hH fC F8).mono λe w' hr=>oL hr ?_
   rintro v U Hr ⟨o0,rfl,rfl,rfl,rfl⟩ hh;exact⟨_,_,⟨s,hs,rfl,rfl,rfl⟩,hh⟩
  ·rintro C v U Hr w ⟨s,hs,rfl,rfl,rfl⟩ hh;exact⟨[],_,⟨rfl,rfl,rfl⟩,va hh (k:=0) rfl hs⟩
 · cases h
theorem TZ (ck:bf Addr)(cu:Nat)(U:aq Q9)(eh:bf Addr)(ef:Nat)(l1:aq Q8)(x:fW)(h:newN N U l1=some x):QF Tryz.prog 13 [.agg #[.slice ck U.length cu,.slice eh l1.length ef]] [.sli 2 Qc ck cu U,.sli 5 Qd eh ef l1,tF] [] (λv bz Hr=>∃o:bf Nat,v=.pointer (e' pA o)/\bz=[]/\Hr=[jK o x]):=a1z h
theorem Kz (o:bf Nat)(x:fW)(id ty:Int)(p:bf Addr)(c:Nat)(l:aq V)(k:Nat)(y:fW)(h:kq N x id ty l=some (k,y)):QF Tryz.prog 20 [.pointer (e' pA o),.agg #[.int .i64 id,.int .i64 ty,.slice p l.length c]] [.sli 3 dz p c l] [jK o x] (λv U Hr=>v=.int .i64 ((k:Nat):Int)/\U=[]/\Hr=[jK o y]):=a01 h
theorem EH (o:bf Nat)(x:fW)(id:Int)(k:Nat)(y:fW)(h:Kq N x id=some (k,y)):QF Tryz.prog 18 [.pointer (e' pA o),.int .i64 id] [] [jK o x] (λv U Hr=>v=.int .i64 ((k:Nat):Int)/\U=[]/\Hr=[jK o y]):=VA h
theorem HG (o:bf Nat)(x:fW)(l:aq Qb)(h:Gw N x=some l):QF Tryz.prog 27 [.pointer (e' pA o)] [] [jK o x] (λv U Hr=>∃(p:bf Addr)(c:Nat)(n:Nat),v=.slice p n c/\U=[]/\Hr=[.own 101 2 wm (.slice p n c) l,jK o x]):=a1X h
theorem a1p (o:bf Nat)(x:fW)(k:Nat)(h:Cl N x=some k):QF Tryz.prog 25 [.pointer (e' pA o)] [] [jK o x] (λv U Hr=>v=.int .i64 ((k:Nat):Int)/\U=[]/\Hr=[jK o x]):=a1q h
end
section
variable {P:da} {C:Ctx} {n:FD} {Q:Exit->Act->bx->Prop} {Φ H:aq Fact} {S:aq (Nat×bc)} {o:bf Nat} {x:fW}
theorem RS {w:bx} (h:Ql C Φ H w) {k:Nat} (hk:H[k]? =some (jK o x)):(e' pA o).isNone=x.isNil:=by
 obtain⟨F,M,hi⟩:=h;exact B3.isNil (hi.owns k _ hk)
theorem Jt {ops:Array Oper} {rest:aq Oper} (k:Nat)(hk:H[k]? =some (jK o x))(next:(e' pA o).isNone=x.isNil->WL P C n Q Φ H S ops rest):WL P C n Q Φ H S ops rest:=
 λa w U hw=>next (RS hw hk) a w U hw
end
end
section
open Go Go.RowKit
def zV:V:=⟨0,0,⟨#[]⟩⟩
def zE:Q3:=⟨0,zV,0,0,[]⟩
def nE:aq Q9:=[⟨⟨#[112]⟩,2⟩]
def jv:aq Q8:=[⟨⟨#[114]⟩,0,2,[⟨1,0,[⟨2,0,zV⟩,⟨4,0,⟨1,1,⟨#[]⟩⟩⟩],zE⟩,⟨1,0,[⟨3,0,zV⟩,⟨2,1,zV⟩],zE⟩],[⟨1,0,0,[⟨2,zV,1,0,[]⟩,⟨3,zV,0,1,[⟨2,zV,0,0,[]⟩,⟨1,⟨1,1,⟨#[]⟩⟩,0,0,[]⟩]⟩]⟩,⟨2,0,1,[]⟩]⟩]
noncomputable section
def rdS (hp:eI)(sz n:Nat):SV->bf (aq SV)
 | .v (.slice none 0 0)=>match n with
   |0=>some []
   |_=>none
 | .sl g 0 len 0 true=>match lN hp g with
   | some (.row cs m OO _)=>match g! m len&&(g! len n&&g! OO sz)with
     |true=>some cs
     |false=>none
   |_=>none
 |_=>none
def KJ {α:Type} (f:aq SV->α->Bool)(sz:Nat):aq SV->aq α->Bool
 |cs,[]=>cs.isEmpty
 |cs,y::l=>g! (cs.take sz).length sz&&(f (cs.take sz) y&&KJ f sz (cs.drop sz) l)
def wJ {α:Type} (hp:eI)(f:aq SV->α->Bool)(sz:Nat)(x:SV)(l:aq α):Bool:=match rdS hp sz l.length x with
 |some cs=>KJ f sz cs l
 |none=>false
def rp (k:IntKind)(z:Int):SV->Bool
 | .v (.int U z')=>decide (U=k)&&decide (z'=z)
 |_=>false
def VB (s:cq):SV->Bool
 | .v (.string s')=>s'.data.toList==s.data.toList
 |_=>false
def fType:aq SV->Q9->Bool
 |[a,b],y=>VB y.name a&&rp .i64 y.fields b
 |_,_=>false
def VG:aq SV->fK->Bool
 |[a,b,c,d,e],y=>rp .u8 y.k a&&(rp .i64 y.var b&&(rp .u8 y.v.k c&&(rp .i64 y.v.n d&&VB y.v.s e)))
 |_,_=>false
def Bz (hp:eI):Nat->aq SV->Q3->Bool
 |m+1,[a,b,c,d,e,f,g],y=>rp .u8 y.kind a&&(rp .u8 y.value.k b&&(rp .i64 y.value.n c&&(VB y.value.s d&&(rp .i64 y.var e&&(rp .u8 y.op f&&wJ hp (Bz hp m) 7 g y.kids)))))
 |_,_,_=>false
def L3 (hp:eI):aq SV->Qq->Bool
 |[k,t,a,b,c,d,e,f,g,h],y=>rp .u8 y.kind k&&(rp .i64 y.type t&&(wJ hp VG 5 a y.args&&(rp .u8 y.test.kind b&&(rp .u8 y.test.value.k c&&(rp .i64 y.test.value.n d&&(VB y.test.value.s e&&(rp .i64 y.test.var f&&(rp .u8 y.test.op g&&wJ hp (Bz hp 5) 7 h y.test.kids))))))))
 |_,_=>false
def VF (hp:eI):aq SV->kW->Bool
 |[k,t,w,e],y=>rp .u8 y.kind k&&(rp .i64 y.type t&&(rp .i64 y.which w&&wJ hp (Bz hp 5) 7 e y.exprs))
 |_,_=>false
def L4 (hp:eI):aq SV->Q8->Bool
 |[n,s,v,c,a],y=>VB y.name n&&(rp .i64 y.salience s&&(rp .i64 y.vars v&&(wJ hp (L3 hp) 10 c y.conds&&wJ hp (VF hp) 4 a y.acts)))
 |_,_=>false
def KK:bf (SV×eI×Nat)->Bool
 |some (.tup [.agg [ts,rs],.agg [e,a]],hp,_)=>wJ hp fType 2 ts nE&&(wJ hp (L4 hp) 5 rs jv&&(rp .i64 0 e&&rp .i64 0 a))
 |_=>false
end
section
variable {ρ:Env} {E:aq bc} {hp:eI} {Hr:aq Fact} {F:eL} {w:bx}
variable {cs:aq SV}{vs:aq bc}{x:SV}{v:bc}{sz:Nat}{α:Type}{R:fc α}{l:aq α}
theorem sS {k:IntKind} {z:Int} (h:rp k z x=true)(U:x.den ρ E=some v):v=.int k z:=by
 unfold rp at h;split at h
 ·simp only[g',decide_eq_true_eq]at h;obtain⟨rfl,rfl⟩:=h;cases U;rfl
 · cases h
theorem nZ {s:cq} (h:VB s x=true)(U:x.den ρ E=some v):v=.string s:=by
 unfold VB at h;split at h
 ·rename_i s'
  have h1:s'=s:=by
   obtain⟨⟨a⟩⟩:=s;obtain⟨⟨b⟩⟩:=s';simp at h;rw[h]
  cases U;rw[h1]
 · cases h
theorem Bs:∀{a b:aq SV} {vs:aq bc},SV.dens ρ E (a++b)=some vs->∃u x,vs=u++x/\SV.dens ρ E a=some u/\SV.dens ρ E b=some x/\u.length=a.length
 |[],b,vs,h=>⟨[],vs,rfl,rfl,h,rfl⟩
 | y::a,b,vs,h=>by
   obtain⟨v,ws,rfl,h1,U⟩:=QL h;obtain⟨u,x,rfl,h3,h4,h5⟩:=Bs U;exact⟨v::u,x,rfl,Ee h1 h3,h4,by rw[q',h5,q']⟩
theorem Bo {α:Type} {f:aq SV->α->Bool} {sz:Nat} {R:aq bc->α->Prop} (hf:∀cs vs y,f cs y=true->SV.dens ρ E cs=some vs->R vs y):∀{l:aq α} {cs:aq SV} {vs:aq bc},KJ f sz cs l=true->SV.dens ρ E cs=some vs->fD sz R vs l
 | [],cs,vs,h,U=>by
   unfold KJ at h;cases cs with
   |nil=>cases U;exact rfl
   |cons=>cases h
 | y::l,cs,vs,h,U=>by
   unfold KJ at h;simp only[g']at h;rw[<-M' sz cs]at U;obtain⟨u,x,rfl,h1,h2,h3⟩:=Bs U;exact⟨u,x,rfl,by rw[h3];exact n' h.1,hf _ _ _ h.2.1 h1,Bo hf h.2.2 h2⟩
theorem Sg {e b n cap:Nat} {xs:aq bc} (h:(Ac e sz b n cap xs).p F w)(hn:n=l.length)(hx:fD sz (R.p F w) xs l):(Fact.sli sz R (some ⟨b,0,none⟩) cap l).p F w:=by
 obtain⟨hF,ho⟩:=h;have U:=ho;rcases ho.2 with⟨h0,_⟩|⟨g,a06,cur,hv,hb,hg,AU,kb,th,gx⟩
 · cases h0
 ·cases hv;subst hn;refine⟨_,_,cap,xs,rfl,rfl,AU,kb,hx,λ_=>⟨b,0,rfl,hF,λj u hj=>?_⟩⟩;have:=U.cells (g:=b) rfl j u hj;rwa [show(⟨b,0,none⟩:Addr).add j=⟨b,0+j,none⟩from by unfold Addr.add;split<;>simp_all]at this
theorem T3 {f:aq SV->α->Bool} (hd:ju ρ E hp Hr)(eN:∀φ∈Hr,φ.p F w)(hf:∀cs vs y,f cs y=true->SV.dens ρ E cs=some vs->R.p F w vs y)(h:wJ hp f sz x l=true)(hx:x.den ρ E=some v):
  ∃p c,v=.slice p l.length c/\(Fact.sli sz R p c l).p F w:=by
 unfold wJ at h;split at h
 ·rename_i cs U;unfold rdS at U;split at U
  ·split at U
   ·rename_i hl;cases U;cases l with
    | nil=>
      cases hx;exact⟨none,0,rfl,Zy⟩
    |cons y l=>cases hl
   · cases U
  ·rename_i g len;split at U
   ·rename_i wh m OO ty hg;split at U
    · rename_i hb;cases U;simp only[g']at hb;obtain⟨e1,e2,e3⟩:=hb;have e1:=n' e1;have e2:=n' e2;have e3:=n' e3;obtain⟨k,φ,h1,h2,_⟩:=Pd hd hg;obtain⟨b,cap,vs,h3,h4,rfl⟩:=h2;have hp:=eN _ (r' h1);simp only[SV.den,h3,Option.map_some,Option.some.injEq]at hx;subst hx;subst e3;refine⟨some ⟨b,0,none⟩,cap,?_,Sg hp au (Bo hf h h4)⟩;rw[<-e2];simp
    · cases U
   · cases U
  · cases U
 · cases h
theorem Ip {y:Q9} (h:fType cs y=true)(U:SV.dens ρ E cs=some vs):Qc.p F w vs y:=by
 unfold fType at h;split at h
 ·simp only[g']at h;obtain⟨_,_,rfl,h1,U⟩:=QL U;obtain⟨_,_,rfl,h2,U⟩:=QL U;cases U;rw[nZ h.1 h1,sS h.2 h2];exact⟨(),rfl,QQ⟩
 · cases h
theorem L2 {y:fK} (h:VG cs y=true)(U:SV.dens ρ E cs=some vs):iA.p F w vs y:=by
 unfold VG at h;split at h
 ·simp only[g']at h;obtain⟨_,_,rfl,h1,U⟩:=QL U;obtain⟨_,_,rfl,h2,U⟩:=QL U;obtain⟨_,_,rfl,h3,U⟩:=QL U;obtain⟨_,_,rfl,h4,U⟩:=QL U;obtain⟨_,_,rfl,h5,U⟩:=QL U;cases U;rw[sS h.1 h1,sS h.2.1 h2,sS h.2.2.1 h3,sS h.2.2.2.1 h4,nZ h.2.2.2.2 h5];exact⟨(),rfl,QQ⟩
 · cases h
theorem qa (hd:ju ρ E hp Hr)(eN:∀φ∈Hr,φ.p F w):∀(m:Nat) {cs:aq SV} {vs:aq bc} {y:Q3},Bz hp m cs y=true->SV.dens ρ E cs=some vs->Qi.p F w vs y
 |0,cs,vs,y,h,_=>by cases h
 | m+1,cs,vs,y,h,U=>by
   unfold Bz at h;split at h
   ·rename_i m' a b c d e f g y' hm;cases hm;simp only[g']at h;obtain⟨_,_,rfl,h1,U⟩:=QL U;obtain⟨_,_,rfl,h2,U⟩:=QL U;obtain⟨_,_,rfl,h3,U⟩:=QL U;obtain⟨_,_,rfl,h4,U⟩:=QL U;obtain⟨_,_,rfl,h5,U⟩:=QL U;obtain⟨_,_,rfl,h6,U⟩:=QL U;obtain⟨_,_,rfl,h7,U⟩:=QL U;cases U;obtain⟨p,cc,rfl,hs⟩:=T3 (R:=Qi) hd eN (λcs vs y=>qa hd eN m (cs:=cs) (vs:=vs) (y:=y)) h.2.2.2.2.2.2 h7;rw[sS h.1 h1,sS h.2.1 h2,sS h.2.2.1 h3,nZ h.2.2.2.1 h4,sS h.2.2.2.2.1 h5,sS h.2.2.2.2.2.1 h6];exact oJ (p,cc) rfl (jf hs QQ)
   · cases h
theorem Im (hd:ju ρ E hp Hr)(eN:∀φ∈Hr,φ.p F w) {y:Qq} (h:L3 hp cs y=true)(U:SV.dens ρ E cs=some vs):pL.p F w vs y:=by
 unfold L3 at h;split at h
 ·simp only[g']at h;obtain⟨_,_,rfl,h1,U⟩:=QL U;obtain⟨_,_,rfl,h2,U⟩:=QL U;obtain⟨_,_,rfl,h3,U⟩:=QL U;obtain⟨_,_,rfl,h4,U⟩:=QL U;obtain⟨_,_,rfl,h5,U⟩:=QL U;obtain⟨_,_,rfl,h6,U⟩:=QL U;obtain⟨_,_,rfl,h7,U⟩:=QL U;obtain⟨_,_,rfl,h8,U⟩:=QL U;obtain⟨_,_,rfl,h9,U⟩:=QL U;obtain⟨_,_,rfl,h10,U⟩:=QL U;cases U;obtain⟨a1,a2,a3,a4,a5,a6,a7,a8,a9,iU⟩:=h;obtain⟨p,cc,rfl,hs⟩:=T3 (R:=iA) hd eN (λ_ _ _=>L2) a3 h3;obtain⟨q,cd,rfl,ht⟩:=T3 (R:=Qi) hd eN (λcs vs y=>qa hd eN 5 (cs:=cs) (vs:=vs) (y:=y)) iU h10;rw[sS a1 h1,sS a2 h2,sS a4 h4,sS a5 h5,sS a6 h6,nZ a7 h7,sS a8 h8,sS a9 h9];exact⟨((p,cc),(q,cd)),rfl,jf hs (jf ht QQ)⟩
 · cases h
theorem L0 (hd:ju ρ E hp Hr)(eN:∀φ∈Hr,φ.p F w) {y:kW} (h:VF hp cs y=true)(U:SV.dens ρ E cs=some vs):mr.p F w vs y:=by
 unfold VF at h;split at h
 ·simp only[g']at h;obtain⟨_,_,rfl,h1,U⟩:=QL U;obtain⟨_,_,rfl,h2,U⟩:=QL U;obtain⟨_,_,rfl,h3,U⟩:=QL U;obtain⟨_,_,rfl,h4,U⟩:=QL U;cases U;obtain⟨p,cc,rfl,hs⟩:=T3 (R:=Qi) hd eN (λcs vs y=>qa hd eN 5 (cs:=cs) (vs:=vs) (y:=y)) h.2.2.2 h4;rw[sS h.1 h1,sS h.2.1 h2,sS h.2.2.1 h3];exact⟨(p,cc),rfl,jf hs QQ⟩
 · cases h
theorem Io (hd:ju ρ E hp Hr)(eN:∀φ∈Hr,φ.p F w) {y:Q8} (h:L4 hp cs y=true)(U:SV.dens ρ E cs=some vs):Qd.p F w vs y:=by
 unfold L4 at h;split at h
 ·simp only[g']at h;obtain⟨_,_,rfl,h1,U⟩:=QL U;obtain⟨_,_,rfl,h2,U⟩:=QL U;obtain⟨_,_,rfl,h3,U⟩:=QL U;obtain⟨_,_,rfl,h4,U⟩:=QL U;obtain⟨_,_,rfl,h5,U⟩:=QL U;cases U;obtain⟨p,cc,rfl,hs⟩:=T3 (R:=pL) hd eN (λ_ _ _=>Im hd eN) h.2.2.2.1 h4;obtain⟨q,cd,rfl,ht⟩:=T3 (R:=mr) hd eN (λ_ _ _=>L0 hd eN) h.2.2.2.2 h5;rw[nZ h.1 h1,sS h.2.1 h2,sS h.2.2.1 h3];exact⟨((p,cc),(q,cd)),rfl,jf hs (jf ht QQ)⟩
 · cases h
end
theorem It {C:Ctx} {w:bx}:∀{H Φ:aq Fact},Ql C Φ H w->∃Φ',Ql C Φ' [] w/\∀φ∈H,φ∈Φ'
 |[],Φ,h=>⟨Φ,h,λφ bs=>by cases bs⟩
 | φ::H,Φ,h=>by
   have h1:=h.freeze 0 rfl (H':=H) rfl;obtain⟨F,N,hi⟩:=h1;obtain⟨Φ',h2,h3⟩:=uB (H:=H) (Φ:=φ::Φ) ⟨F,N,hi⟩
   exact ⟨Φ',h2.1,λψ U=>by
    rcases f'.1 U with rfl|U;· exact h2.2 _ k'
    · exact h3 ψ U⟩
where
 uB {C:Ctx} {w:bx}:∀{H Φ:aq Fact},Ql C Φ H w->∃Φ',(Ql C Φ' [] w/\∀φ∈Φ,φ∈Φ')/\∀φ∈H,φ∈Φ'
  |[],Φ,h=>⟨Φ,⟨h,λ_ h=>h⟩,λφ bs=>by cases bs⟩
  | φ::H,Φ,h=>by
    have h1:=h.freeze 0 rfl (H':=H) rfl;obtain⟨Φ',⟨h2,h3⟩,h4⟩:=uB h1
    exact ⟨Φ',⟨h2,λψ U=>h3 ψ (t' _ U)⟩,λψ U=>by
     rcases f'.1 U with rfl|U;· exact h3 _ k'
     · exact h4 ψ U⟩
theorem Ng:KK (KI Tryz.prog 1000 50 32 [.v (.string ⟨#[102,97,99,116,32,112,40,97,44,32,98,41,59,32,114,117,108,101,32,114,32,123,32,112,40,63,120,44,32,49,41,59,32,112,40,63,120,44,32,63,121,41,59,32,61,62,32,97,115,115,101,114,116,32,112,40,63,121,44,32,63,120,32,43,32,49,41,59,32,114,101,116,114,97,99,116,32,50,59,32,125]⟩)] [] 0 (2^200))=true:=aw
theorem Nc:QF Tryz.prog 32 [.string ⟨#[102,97,99,116,32,112,40,97,44,32,98,41,59,32,114,117,108,101,32,114,32,123,32,112,40,63,120,44,32,49,41,59,32,112,40,63,120,44,32,63,121,41,59,32,61,62,32,97,115,115,101,114,116,32,112,40,63,121,44,32,63,120,32,43,32,49,41,59,32,114,101,116,114,97,99,116,32,50,59,32,125]⟩] [] [] (λv bz Hr=>∃(p0:bf Addr)(c0:Nat)(p1:bf Addr)(c1:Nat),v=.tuple #[.agg #[.slice p0 nE.length c0,.slice p1 jv.length c1],.agg #[.int .i64 0,.int .i64 0]]/\bz=[.sli 2 Qc p0 c0 nE,.sli 5 Qd p1 c1 jv]/\Hr=[]):=by
 have ht:=Ng;unfold KK at ht;split at ht
 ·rename_i ts rs e a hp lo he;simp only[g']at ht;have hc:=Bk (P:=Tryz.prog) [] 1000 50 32 _ [] 0 _ _ _ _ he (λ_=>none) _ [] Ev trivial (λ_ _ _=>rfl);intro F N w hF eN hH cj qi;refine(hc F N w hF eN hH cj qi).mono ?_;rintro en w' ⟨x,bz,Hr,rfl,⟨rfl,de,_,U,e3,_⟩,hw⟩;obtain⟨Φ',ZV,iY⟩:=It hw;obtain⟨F',N',hi⟩:=ZV;have Mm:∀φ∈Hr,φ.p F' w':=λφ bs=>hi.facts φ (iY φ bs)
  simp only[SV.den,K']at U;obtain⟨vs,U,rfl⟩:=U;obtain⟨v1,_,rfl,g1,U⟩:=QL U;obtain⟨v2,_,rfl,g2,U⟩:=QL U;cases U;simp only[SV.den,K']at g1 g2;obtain⟨us,g1,rfl⟩:=g1;obtain⟨u1,_,rfl,k1,g1⟩:=QL g1;obtain⟨u2,_,rfl,k2,g1⟩:=QL g1;cases g1;obtain⟨us,g2,rfl⟩:=g2;obtain⟨u3,_,rfl,k3,g2⟩:=QL g2;obtain⟨u4,_,rfl,k4,g2⟩:=QL g2;cases g2;obtain⟨p0,c0,rfl,s0⟩:=T3 (R:=Qc) e3 Mm (λ_ _ _=>Ip) ht.1 k1;obtain⟨p1,c1,rfl,s1⟩:=T3 (R:=Qd) e3 Mm (λ_ _ _=>Io e3 Mm) ht.2.1 k2;rw[sS ht.2.2.1 k3,sS ht.2.2.2 k4];exact⟨_,_,_,rfl,⟨p0,c0,p1,c1,rfl,rfl,rfl⟩,F',N',{hi with facts:=λφ bs=>jf s0 (jf s1 QQ) φ bs}⟩
 · cases ht
end
section
open Go.RowKit
noncomputable def J' (_:Nat)(_:Int)(_:Int)(_:Int):bf (Unit):=
 some ()
noncomputable def Q5J (N:Nat)(z:Nat)(a0:Nat)(U:Nat)(a7:aq Qb)(a5:aq Qb)(s:fW):bf (Bool):=
 if (z==0)=true then(
  if (a0==0)=true then(
   if (U==0)=true then(
    if (a7.length==1)=true then(
     if (a5.length==2)=true then(
      Qf (a5[1]?) λa8=>
      if (a8.ids.length==2)=true then(
       Qf (a5[1]?) λa9=>
       Qf (a9.ids[1]?) λaA=>
       if (aA==2)=true then(
        Qf (Gw N s) λaB=>
        if (aB.length==0)=true then(
         Qf (Cl N s) λaC=>
         if (aC==1)=true then(
          Qf (Kq N s 1) λ(a6,_)=>
          some (a6==6)
         )else(
          some false
         )
        )else(
         some false
        )
       )else(
        some false
       )
      )else(
       some false
      )
     )else(
      some false
     )
    )else(
     some false
    )
   )else(
    some false
   )
  )else(
   some false
  )
 )else(
  some false
 )
noncomputable def ο (N:Nat):bf (Bool):=
 Qf (newN N nE jv) λa8=>
 Qf (J' N 1 1 1) λ_=>
 Qf (kq N a8 1 0 [(⟨1,1,(⟨#[]⟩:cq)⟩:V),(⟨1,1,(⟨#[]⟩:cq)⟩:V)]) λ(a0,s)=>
 Qf (Gw N s) λa9=>
 Qf (J' N 2 1 2) λ_=>
 Qf (kq N s 2 0 [(⟨1,1,(⟨#[]⟩:cq)⟩:V),(⟨1,2,(⟨#[]⟩:cq)⟩:V)]) λ(U,z)=>
 Qf (Gw N z) λaA=>
 Qf (Kq N z 1) λ(a5,a6)=>
 Qf (Q5J N a0 U a5 a9 aA a6
 ) λa7=>
 some a7
noncomputable def Χ (_:Nat)(U:aq Int)(l1:aq Int):Nat->bf (Nat⊕(Unit⊕Bool)):=λs=>
 if (decide (s<U.length))=true then(
  Qf (U[s]?) λz=>
  Qf (l1[s]?) λa0=>
  if (z !=a0)=true then(
   some (.inr (.inr false))
  )else(
   gd (s+1<=9223372036854775807)<|
   some (.inl (s+1))
  )
 )else(
  some (.inr (.inl ()))
 )
noncomputable def θ (N:Nat)(s:aq Int)(z:aq Int):bf (Bool):=
 if (s.length !=z.length)=true then(
  some false
 ) else(
  iT (
   fp (Χ N s z) N 0
  ) λ_=>
  some true
 )
noncomputable def Q4B (N:Nat)(z:Int)(U:aq Int)(a2:Int)(l3:aq Int):bf (Bool):=
 if (z==a2)=true then(
  Qf (θ N U l3) λs=>
  some s
 )else(
  some false
 )
noncomputable def Ν (N:Nat)(U:aq Qb)(l1:aq Qb):Nat->bf (Nat⊕(Unit⊕Bool)):=λs=>
 if (decide (s<U.length))=true then(
  Qf (U[s]?) λz=>
  Qf (l1[s]?) λa0=>
  Qf (Q4B N z.rule z.ids a0.rule a0.ids) λa1=>
  if (!a1)=true then(
   some (.inr (.inr false))
  )else(
   gd (s+1<=9223372036854775807)<|
   some (.inl (s+1))
  )
 )else(
  some (.inr (.inl ()))
 )
noncomputable def ξ (N:Nat)(s:aq Qb)(z:aq Qb):bf (Bool):=
 if (s.length !=z.length)=true then(
  some false
 ) else(
  iT (
   fp (Ν N s z) N 0
  ) λ_=>
  some true
 )
noncomputable def YN (_:Nat)(z:aq Qg)(U:QU):Nat->bf (Nat⊕Nat):=λs=>
 Qf (
  if (decide (s<z.length))=true then(
   Qf (z[s]?) λa5=>
   some (decide (a5.id<U.fact.id))
  )else(
   some false
  )
 ) λa0=>
 if a0=true then(
  gd (s+1<=9223372036854775807)<|
  some (.inl (s+1))
 )else(
  some (.inr s)
 )
noncomputable def Q3d (N:Nat)(l2:aq QU)(aA:Nat)(U:fW)(a0:QU)(s:aq Qg)(z:Nat):bf (((aq Qg)×fW)⊕((Nat×(aq Qg)×fW)⊕(Unit⊕Bool))):=
 Qf (l2[aA]?) λaB=>
 if aB.drop=true then(
  Qf (Kq N U a0.fact.id) λ(a8,a5)=>
  if (a8==0)=true then(
   Qf (
    if (decide (s.length<=z))=true then(
     some true
    )else(
     Qf (s[z]?) λaC=>
     some (aC.id !=a0.fact.id)
    )
   ) λa7=>
   if a7=true then(
    some (.inr (.inr (.inr false)))
   )else(
    gd (z<=s.length)<|
    gd (([]:aq Qg).length+(s.take z).length<=3518437208883)<|
    gd (z+1<=9223372036854775807)<|
    gd (z+1<=s.length)<|
    gd ((([]:aq Qg)++(s.take z)).length+(s.drop (z+1)).length<=3518437208883)<|
    some (.inl (((([]:aq Qg)++(s.take z))++(s.drop (z+1))),a5))
   )
  )else(
   some (.inl (s,a5))
  )
 ) else(
  Qf (kq N U a0.fact.id a0.fact.ty a0.fact.args) λ(a9,a6)=>
  if (a9==0)=true then(
   gd (z<=s.length)<|
   gd (([]:aq Qg).length+(s.take z).length<=3518437208883)<|
   gd ((([]:aq Qg)++(s.take z)).length+[a0.fact].length<=3518437208883)<|
   gd (z<=s.length)<|
   gd (((([]:aq Qg)++(s.take z))++[a0.fact]).length+(s.drop z).length<=3518437208883)<|
   some (.inl ((((([]:aq Qg)++(s.take z))++[a0.fact])++(s.drop z)),a6))
  )else(
   some (.inl (s,a6))
  )
 )
noncomputable def YM (N:Nat)(l2:aq QU)(l0:aq Q9)(l1:aq Q8):(Nat×(aq Qg)×fW)->bf ((Nat×(aq Qg)×fW)⊕(Unit⊕Bool)):=λ(s,U,a6)=>
 if (decide (s<l2.length))=true then(
  Qf (l2[s]?) λaA=>
  Qf (
   fp (YN N U aA) N 0
  ) λa9=>
  iT (Q3d N l2 s a6 aA U a9
  ) λ(z,a0)=>
  Qf (Q6W N l0 l1 z) λ(a7,a8)=>
  Qf (
   if (a8 !=0)=true then(
    some true
   )else(
    Qf (Gw N a0) λaB=>
    Qf (ξ N aB a7) λaC=>
    some (!aC)
   )
  ) λa5=>
  if a5=true then(
   some (.inr (.inr false))
  )else(
   gd (s+1<=9223372036854775807)<|
   some (.inl (s+1,z,a0))
  )
 )else(
  some (.inr (.inl ()))
 )
noncomputable def Q3T (N:Nat)(U:aq Q9)(l1:aq Q8)(l2:aq QU):bf (Bool):=
 Qf (ο N) λa5=>
 if (!a5)=true then(
  some false
 ) else(
  Qf (
   Qf (υ N U l1) λa6=>
   if (!a6)=true then(
    some true
   )else(
    Qf (χ N l2) λa7=>
    some (!a7)
   )
  ) λs=>
  if s=true then(
   some true
  ) else(
   Qf (newN N U l1) λz=>
   if z.isNil=true then(
    some true
   ) else(
    iT (
     fp (YM N l2 U l1) N (0,[],z)
    ) λ_=>
    some true
   )
  )
 )
end
section
open Tryz
open Go.RowKit
set_option maxRecDepth 100000
set_option maxHeartbeats 4000000
variable {N cu ef:Nat}{o0:Bool}{a0 a2:Int}{ck eh:OA}{l1:aq Int}
theorem Q8X {U:Int} (e:J' N a0 U a2=some ()):QF prog 29 [ay a0,ay U,ay a2] [tF] [] (λv p q=>∃o0,R0 (.agg #[ay a0,ay 0,.slice (some ⟨o0,0,none⟩) 2 2]) [] [.blk o0 [bu 1,ay U,.string EB,bu 1,ay a2,.string EB] 63] v p q):=by
 unfold J' at e;refine Qm func29 Z ntmps29 Z Z λC=>sq<|QG Z Z Z Zq Z jX Z λg6=>nt<|sq<|bo Z<|nC Z Z Z Zq Z jY En Z Z<|wP Z<|nC Z Z Z Zq Z jY En Z Z<|QB Z Z Z Zq Z lJ eT jY Z (zs:=[bu 0,ay 0,.string EB,bu 0,ay 0,.string EB]) aw Z Z λg12=>nC Z Z Z Zq Z jX a1M Z Z<|wS 1 0 Z fE Z Z<|eJ 6 Z<|Qn ?_
 have j:=(Zi e).symm;refine pR (Hr:=[_]) [0] results29 (lG 1 Z Z fE sV Z Z) ⟨g12,Z,Z,Z⟩ (br [] Z) Z Z (.inl Z)
theorem QbX (e:ο N=some o0):QF prog 9 [] [tF] [] (R0 (.bool o0) [] []):=by
 unfold ο at e;refine Qm func9 Z ntmps9 Z Z λC=>sq<|wP Z<|nk0 Z<|sq<|wC [] [] Z a0h Z Nc (br [] Z) Z Z ?_
 rintro _ _ _ ⟨b1,b2,aB,aC,rfl,rfl,rfl⟩;refine bo Z<|wP Z<|QG Z Z Z Zq Z a1S Z λg1=>QG Z Z Z Zq Z a1W Z λg2=>wS 1 0 Z mj Z Z<|wS 0 0 Z a1R Z Z<|eJ 1 Z<|sq<|wM 1 0 [_,_] Z mj oQ Z<|kn e λb3 aI e=>wC [] [0,1] Z Tu Z (TZ b1 b2 nE aB aC jv _ aI) (br [0,1,2] Z) Z Z ?_
 rintro _ _ _ ⟨s,rfl,rfl,rfl⟩;refine wP Z<|eJ 3 Z<|sq<|wP Z<|kn e λ_ aJ e=>?_
 refine c1 [] [0,1,2] Z Tv aJ Q8X [2] (V3 ..) Z λa1=>sU (sz:=3) (m:=2) dz ([(⟨1,1,EB⟩:V),(⟨1,1,EB⟩:V)]) 0 Z (λF w U=>⟨[bu 1,ay 1,.string EB],[bu 1,ay 1,.string EB],Z,Z,⟨(),Z,QQ⟩,⟨[bu 1,ay 1,.string EB],[],Z,Z,⟨(),Z,QQ⟩,Z⟩⟩) Z bp Z<|DE 0 Z Z<|AH (.sli 3 dz (some ⟨a1,0,none⟩) 2 ([(⟨1,1,EB⟩:V),(⟨1,1,EB⟩:V)])) (λF w U=>mu (U _ (gv (k:=0) Z))) ?_;obtain⟨⟨aD,a5⟩,aK,e⟩:=Qw e;refine wC [0] [1,2] Z Ld Z (Kz s b3 1 0 (some ⟨a1,0,none⟩) 2 [(⟨1,1,EB⟩:V),(⟨1,1,EB⟩:V)] _ _ aK) (br [0] Z) Z Z ?_;rintro _ _ _ ⟨rfl,rfl,rfl⟩;refine wP Z<|ej 4 3 Z<|sq<|wP Z<|kn e λb4 aL e=>wC [0] [1,2] Z GM Z (HG s a5 _ aL) (br [] Z) Z Z ?_;rintro _ _ _ ⟨b5,b6,b7,rfl,rfl,rfl⟩;refine pK 0 Z λaM _=>wN Z Em<|Qp (uV aM)<|wP Z<|fF 5 4 3 Z<|sq<|wP Z<|kn e λ_ aN e=>?_;refine c1 [] [0,1,2,3] Z Tv aN Q8X [4] (V4 ..) Z λa6=>sU (sz:=3) (m:=2) dz ([(⟨1,1,EB⟩:V),(⟨1,2,EB⟩:V)]) 0 Z (λF w U=>⟨[bu 1,ay 1,.string EB],[bu 1,ay 2,.string EB],Z,Z,⟨(),Z,QQ⟩,⟨[bu 1,ay 2,.string EB],[],Z,Z,⟨(),Z,QQ⟩,Z⟩⟩) Z bp Z<|DE 0 Z Z<|AH (.sli 3 dz (some ⟨a6,0,none⟩) 2 ([(⟨1,1,EB⟩:V),(⟨1,2,EB⟩:V)])) (λF w U=>mu (U _ (gv (k:=0) Z))) ?_;obtain⟨⟨aE,a7⟩,aO,e⟩:=Qw e;refine wC [1] [0,2,3] Z Ld Z (Kz s a5 2 0 (some ⟨a6,0,none⟩) 2 [(⟨1,1,EB⟩:V),(⟨1,2,EB⟩:V)] _ _ aO) (br [0] Z) Z Z ?_;rintro _ _ _ ⟨rfl,rfl,rfl⟩;refine wP Z<|fQ 6 5 4 3 Z<|sq<|wP Z<|kn e λb8 aP e=>wC [0] [1,2,3] Z GM Z (HG s a7 _ aP) (br [] Z) Z Z ?_;rintro _ _ _ ⟨b9,bA,bB,rfl,rfl,rfl⟩;refine wP Z<|kK 7 6 5 4 3 Z<|sq<|wP Z ?_;obtain⟨⟨aF,z⟩,aQ,e⟩:=Qw e;refine wC [1] [0,2,3,4] Z Lb Z (EH s a7 1 _ _ aQ) (br [] Z) Z Z ?_;rintro _ _ _ ⟨rfl,rfl,rfl⟩;refine wP Z<|jV 8 7 6 5 4 3 Z<|Q5<|kn e λaR e cn=>?_;unfold Q5J at e;refine cut (σ:=Bool) aR (λa0=>(a0,[(0,.bool a0)],[tF],[])) ?_ ?_;refine Qa<|bo Z<|Qp (sQ aD 0)<|wP Z<|fx e (λe=>?_) λe=>?_;refine bo Z<|Qp (sQ aE 0)<|bo Z<|fx e (λe=>?_) λe=>?_;refine bo Z<|Qp (sQ aF 0)<|bo Z<|fx e (λe=>?_) λe=>?_;refine bo Z<|Qp (sQ b4.length 1)<|bo Z<|fx e (λe=>?_) λe=>?_;refine wP Z<|pK 1 Z λaS _=>wN Z Em<|Qp (uV aS)<|wP Z<|Qp (sQ b8.length 2)<|bo Z<|fx e (λe=>?_) λe=>?_;refine wP Z<|kn e λaT a9 e=>HX 1 1 Z Z Z Zq Z Z Z Z Z (lI a9) Em PD λbN aU=>?_;subst aU;refine wF Z ZA<|Og L' 1 1 1 Z Z Z Zq Z Z Z a9 mn rL (v:=λaG=>bg aG.1 aT.ids aG.2) (λ_=>Z) (λ_=>Z) λaG _=>wN Z nL<|wP Z<|Qp (sQ aT.ids.length 2)<|bo Z<|fx e (λe=>?_) λe=>?_;refine wP Z<|kn e λbC aA e=>Jr 1 1 Z Z Z Zq Z Z Z Z Z (lI aA) Em PD<|wF Z ZA<|Og L' 1 1 1 Z Z Z Zq Z Z Z aA mn rL (v:=λaH=>bg aH.1 bC.ids aH.2) (λ_=>Z) (λ_=>Z) λaH _=>kn e λbO aV e=>wI 0 1 Z aV nL QW λbP bQ bM bD=>jA Zf 1 Z λbR aW _=>?_;subst aW;refine jG 0 0 [_] Z QW dw Z<|bo Z<|wP Z<|fx e (λe=>?_) λe=>?_;refine wP Z<|kn e λbF aX e=>wC [0] [1,2,3,4] Z GM Z (HG s z _ aX) (br [] Z) Z Z ?_;rintro _ _ _ ⟨bG,bH,bI,rfl,rfl,rfl⟩;refine pK 0 Z λaY _=>wN Z Em<|Qp (uV aY)<|wP Z<|Qp (sQ bF.length 0)<|bo Z<|fx e (λe=>?_) λe=>?_;refine wP Z<|kn e λbK aZ e=>wC [1] [0,2,3,4,5] Z a0e Z (a1p s z _ aZ) (br [] Z) Z Z ?_;rintro _ _ _ ⟨rfl,rfl,rfl⟩;refine wP Z<|Qp (sQ bK 1)<|bo Z<|fx e (λe=>?_) λe=>?_;refine wP Z ?_;obtain⟨⟨a8,bL⟩,b0,e⟩:=Qw e;refine wC [0] [1,2,3,4,5] Z Lb Z (EH s z 1 _ _ b0) (br [] Z) Z Z ?_;rintro _ _ _ ⟨rfl,rfl,rfl⟩;refine wP Z<|Qp (sQ a8 6)<|bo Z<|Q2<|Qj [] Z Z<|jM (a8==6) e [0] [10] Z;refine eY Z<|wO Z<|bo Z<|Q2<|Qj [] Z Z<|jM false e [0] [10] Z;refine eY Z<|wO Z<|bo Z<|eY Z<|wO Z<|bo Z<|Q2<|Qj [] Z Z<|jM false e [0] [10] Z;refine eU Z<|bo Z<|eY Z<|wO Z<|bo Z<|eY Z<|wO Z<|bo Z<|Q2<|Qj [] Z Z<|jM false e [0] [10] Z;refine eU Z<|eY Z<|wO Z<|bo Z<|eU Z<|bo Z<|eY Z<|wO Z<|bo Z<|eY Z<|wO Z<|bo Z<|Q2<|Qj [] Z Z<|jM false e [0] [7] Z;refine eU Z<|eY Z<|bo Z<|eU Z<|eY Z<|wO Z<|bo Z<|eU Z<|bo Z<|eY Z<|wO Z<|bo Z<|eY Z<|wO Z<|bo Z<|Q2<|Qj [] Z Z<|jM false e [0] [6] Z;refine eY Z<|wO Z<|bo Z<|eU Z<|eY Z<|bo Z<|eU Z<|eY Z<|wO Z<|bo Z<|eU Z<|bo Z<|eY Z<|wO Z<|bo Z<|eY Z<|wO Z<|bo Z<|Q2<|Qj [] Z Z<|jM false e [0] [6] Z;refine eY Z<|bo Z<|eY Z<|wO Z<|bo Z<|eU Z<|eY Z<|bo Z<|eU Z<|eY Z<|wO Z<|bo Z<|eU Z<|bo Z<|eY Z<|wO Z<|bo Z<|eY Z<|wO Z<|bo Z<|Q2<|Qj [] Z Z<|jM false e [0] [6] Z;refine eY Z<|bo Z<|eY Z<|bo Z<|eY Z<|wO Z<|bo Z<|eU Z<|eY Z<|bo Z<|eU Z<|eY Z<|wO Z<|bo Z<|eU Z<|bo Z<|eY Z<|wO Z<|bo Z<|eY Z<|wO Z<|bo Z<|Q2<|Qj [] Z Z<|jM false e [0] [6] Z;refine eY Z<|bo Z<|eY Z<|bo Z<|eY Z<|bo Z<|eY Z<|wO Z<|bo Z<|eU Z<|eY Z<|bo Z<|eU Z<|eY Z<|wO Z<|bo Z<|eU Z<|bo Z<|eY Z<|wO Z<|bo Z<|eY Z<|wO Z<|bo Z<|Q2<|Qj [] Z Z<|jM false e [0] [6] Z;rintro a0 j;have e:=cn;try rw[j]at e
 refine Qn ?_;obtain rfl:=Zi e;refine dm [] [] results9 Z ⟨Z,Z,Z⟩ Z
theorem Qbz {U:aq Int} (e:θ N U l1=some o0):QF prog 106 [bg ck U cu,bg eh l1 ef] [.sli 1 iC ck cu U,.sli 1 iC eh ef l1] [] (R0 (.bool o0) [] []):=by
 unfold θ at e;refine Qm func106 Z ntmps106 Z Z λC=>sq<|wP Z<|ej 0 1 Z<|Q5<|sq<|wP Z<|wN Z nL<|wP Z<|wN Z nL<|wP Z<|Qp (SB U.length l1.length)<|fF 10 0 1 Z<|QK e Z (λe=>?_) λe=>?_
 refine k0 Z<|sq<|wP Z<|nr<|Q4 ?_;obtain rfl:=Zi e;refine dm [] [] results106 Z ⟨Z,Z,Z⟩ Z;refine k2 0 1 Z<|kt<|Q5<|ks e λab e cn=>cut (σ:=Unit) ab (λ_=>(.inl (),[],[],[])) ?_ ?_;refine sq<|wP Z<|nt<|Qk<|lY (σ:=Nat) (Χ N U l1) (λaa=>(aa,[(5,ay (aa:Int)),(0,bg ck U cu),(1,bg eh l1 ef)],[.sli 1 iC ck cu U,.sli 1 iC eh ef l1],[])) 0 e [5,0,1] [0,1] Z λaa ZZ ZJ e cw=>?_;unfold Χ at e;refine Q5<|sq<|bo Z<|wN Z nL<|wP Z<|Qp (j5 aa U.length)<|fQ 14 5 0 1 Z<|QK e Z (λe=>?_) λe=>?_;refine k3 5 0 1 Z<|kt<|Q5<|Qk<|Q5<|kn e λx19 Xo e=>kn e λx23 Xp e=>QE [0,1,2,3,4,5,6,7,8] Z Z λz=>cy z 0 Z<|xI z 2 0 aa Z Xo nL QW λb19 q19 a2h a0S=>Eg Zf 1 Z λr19 VD _=>?_;subst VD;refine xL z 3 0 0 [_] Z QW dw Z<|cy z 4 Z<|xI z 6 3 aa Z Xp nL QW λb23 q23 a2i a0T=>Eg Zf 1 Z λr23 VE _=>?_;subst VE;refine xL z 7 0 0 [_] Z QW dw Z<|xP z 8 Z<|Qz z Z<|Qy<|k4 25 5 0 1 Z<|QK e Z (λe=>?_) λe=>?_;refine k0 Z<|sq<|wP Z<|nr<|Qr<|Q4<|rb<|Q4 ?_;obtain rfl:=(Qu cn (Qu cw (zs e))).symm;refine dm [] [] results106 Z ⟨Z,Z,Z⟩ Z;refine k3 5 0 1 Z<|QY<|Q6<|Qy<|Qa<|bo Z<|kg e λX3 e=>Qp (j7 (a:=aa) (b:=1) X3)<|Qs Z Z Z Z Z<|Q2<|mc (aa+1) (QJ cw (zs e)) [5,0,1] [4,5] Z;refine k0 Z<|gW<|Q7<|Q7<|Qv<|jn () (Qu cw (zs e)) [] [] Z;rintro _ j;have e:=QJ cn j;refine sq<|wP Z<|nr ?_;obtain rfl:=Zi e;refine dm [] [] results106 Z ⟨Z,Z,Z⟩ Z
theorem QaX {l3:aq Int} (e:Q4B N a0 l1 a2 l3=some o0):QF prog 64 [.agg #[ay a0,bg ck l1 cu],.agg #[ay a2,bg eh l3 ef]] [.sli 1 iC ck cu l1,.sli 1 iC eh ef l3] [] (R0 (.bool o0) [] []):=by
 unfold Q4B at e;refine Qm func64 Z ntmps64 Z Z λC=>sq<|wB Z λg2=>wB Z λg3=>wP Z<|ej 3 2 Z<|sq<|wF Z CY<|wD 1 0 Z QW dw Z<|wF Z CY<|wD 0 0 Z QW dw Z<|bo Z<|fx e (λe=>?_) λe=>?_
 refine wF Z ZA<|wD 1 1 Z mn rL Z<|wF Z ZA<|wD 0 1 Z mn rL Z<|kn e λv15 U e=>c0 [] [0,1] Z VL U Qbz [0,1] [_,_] Z<|bo Z<|eJ 4 Z<|Qn ?_;obtain rfl:=Zi e;refine dm [] [] results64 Z ⟨Z,Z,Z⟩ Z;refine eU Z<|wO Z<|bo Z<|eJ 4 Z<|Qn ?_;obtain rfl:=Zi e;refine dm [] [] results64 Z ⟨Z,Z,Z⟩ Z
theorem QaQ {N:Nat} {ck:OA} {cu:Nat} {U:aq Qb} {eh:OA} {ef:Nat} {l1:aq Qb} {o0:Bool} (e:ξ N U l1=some o0):QF prog 26 [bg ck U cu,bg eh l1 ef] [.sli 2 wm ck cu U,.sli 2 wm eh ef l1] [] (R0 (.bool o0) [] []):=by
 unfold ξ at e;refine Qm func26 Z ntmps26 Z Z λC=>sq<|wP Z<|ej 0 1 Z<|Q5<|sq<|wP Z<|wN Z Em<|wP Z<|wN Z Em<|wP Z<|Qp (SB U.length l1.length)<|fF 10 0 1 Z<|QK e Z (λe=>?_) λe=>?_
 refine k0 Z<|sq<|wP Z<|nr<|Q4 ?_;obtain rfl:=Zi e;refine dm [] [] results26 Z ⟨Z,Z,Z⟩ Z;refine k2 0 1 Z<|kt<|Q5<|ks e λab e cn=>cut (σ:=Unit) ab (λ_=>(.inl (),[],[],[])) ?_ ?_;refine sq<|wP Z<|nt<|Qk<|lY (σ:=Nat) (Ν N U l1) (λaa=>(aa,[(5,ay (aa:Int)),(0,bg ck U cu),(1,bg eh l1 ef)],[.sli 2 wm ck cu U,.sli 2 wm eh ef l1],[])) 0 e [5,0,1] [0,1] Z λaa ZZ ZJ e cw=>?_;unfold Ν at e;refine Q5<|sq<|bo Z<|wN Z Em<|wP Z<|Qp (j5 aa U.length)<|fQ 14 5 0 1 Z<|QK e Z (λe=>?_) λe=>?_;refine k3 5 0 1 Z<|kt<|Q5<|Qk<|Q5<|kn e λx19 Xo e=>kn e λx23 Xp e=>kn e λv25 a2z e=>QE [0,1,2,3,4,5,6,7,9] Z Z λz=>cy z 0 Z<|xI z 2 0 aa Z Xo Em PD λb19 q19 a2h a0S=>Eg L' 1 Z λr19 VD _=>?_;subst VD;refine xL z 3 1 0 [_,_] Z PD FT Z<|cy z 4 Z<|xI z 6 4 aa Z Xp Em PD λb23 q23 a2i a0T=>Eg L' 1 Z λr23 VE _=>?_;subst VE;refine xL z 7 1 0 [_,_] Z PD FT Z<|xS z 8 Z<|c0 [] [] Z a0l a2z QaX [3,0] [] Z<|Q2<|cv 0 [] Z<|xP z 9 Z<|Qz z Z<|Qy<|k4 26 5 0 1 Z<|QK e Z (λe=>?_) λe=>?_;refine k0 Z<|sq<|wP Z<|nr<|Qr<|Q4<|rb<|Q4 ?_;obtain rfl:=(Qu cn (Qu cw (zs e))).symm;refine dm [] [] results26 Z ⟨Z,Z,Z⟩ Z;refine k3 5 0 1 Z<|QY<|Q6<|Qy<|Qa<|bo Z<|kg e λX3 e=>Qp (j7 (a:=aa) (b:=1) X3)<|Qs Z Z Z Z Z<|Q2<|mc (aa+1) (QJ cw (zs e)) [5,0,1] [6,7] Z;refine k0 Z<|gW<|Q7<|Q7<|Qv<|jn () (Qu cw (zs e)) [] [] Z;rintro _ j;have e:=QJ cn j;refine sq<|wP Z<|nr ?_;obtain rfl:=Zi e;refine dm [] [] results26 Z ⟨Z,Z,Z⟩ Z
theorem Qah (N:Nat)(aA:OA)(aB:Nat)(l0:aq Q9)(aC:OA)(aD:Nat)(l1:aq Q8)(aK:OA)(aL:Nat)(l2:aq QU)(o0:Bool)(e:Q3T N l0 l1 l2=some o0):QF prog 8 [.agg #[bg aA l0 aB,bg aC l1 aD],bg aK l2 aL] [.sli 2 Qc aA aB l0,.sli 5 Qd aC aD l1,.sli 4 QO aK aL l2,tF] [] (R0 (.bool o0) [] []):=by
 unfold Q3T at e;refine Qm func8 Z ntmps8 Z Z λC=>sq<|wB Z λg2=>wP Z<|ej 2 1 Z<|Q5<|sq<|kn e λdG cA e=>c0 [] [0] Z a2q cA QbX [3] [_] Z<|wP Z<|fF 14 2 1 Z<|QK e Z (λe=>?_) λe=>?_
 refine k0 Z<|sq<|wP Z<|nr<|Q4 ?_;obtain rfl:=Zi e;refine dm [] [] results8 Z ⟨Z,Z,Z⟩ Z;refine k2 2 1 Z<|kt<|Q5<|Q5<|kn e λcB e cn=>cut (σ:=Bool) cB (λb7=>(b7,[(2,ca g2),(1,bg aK l2 aL),(22,.bool b7)],[.sli 2 Qc aA aB l0,.sli 5 Qd aC aD l1,.sli 4 QO aK aL l2,tF],[.blk g2 [bg aA l0 aB,bg aC l1 aD] 25])) ?_ ?_;refine Qa<|wM 0 0 [_,_] Z mj oQ Z<|kn e λdH cC e=>wC [] [0] Z a0c Z (@QbY N aA aB l0 aC aD l1 _ cC) (br [0,1,3] Z) Z Z ?_;rintro _ _ _ ⟨rfl,rfl,rfl⟩;refine bo Z<|fx e (λe=>?_) λe=>?_;refine eY Z<|wO Z<|wP Z<|Q2<|jM true e [2,1,22] [0,1,2,3] Z;refine wP Z<|kn e λd3 cD e=>wC [] [0] Z a0d Z (@QbZ N aK aL l2 _ cD) (br [2,3] Z) Z Z ?_;rintro _ _ _ ⟨rfl,rfl,rfl⟩;refine bo Z<|Q2<|jM (!d3) e [2,1,22] [0,1,2,3] Z;rintro b7 j;have e:=cn;try rw[j]at e
 refine QK e Z (λe=>?_) λe=>?_;refine k0 Z<|sq<|wP Z<|nr<|Q4 ?_;obtain rfl:=Zi e;refine dm [] [] results8 Z ⟨Z,Z,Z⟩ Z;refine k2 2 1 Z<|kt<|sq<|wM 0 0 [_,_] Z mj oQ Z<|kn e λcE cF e=>wC [] [0] Z Tu Z (TZ aA aB l0 aC aD l1 _ cF) (br [0,1,3] Z) Z Z ?_;rintro _ _ _ ⟨a5,rfl,rfl,rfl⟩;refine wP Z<|fF 5 2 1 Z<|Q5<|sq<|wP Z<|xk Z Z Z Zq Z Z Z (Ik U8 _ _ _)<|Jt 0 Z λbW=>Qp (v':=.bool (cE.isNil)) (by rw[bW])<|fQ 26 5 2 1 Z<|QK e Z (λe=>?_) λe=>?_;refine k0 Z<|sq<|wP Z<|nr<|Q4 ?_;obtain rfl:=Zi e;refine dm [] [] results8 Z ⟨Z,Z,Z⟩ Z;refine k3 5 2 1 Z<|kt<|sq<|wP Z<|nt<|Q5<|ks e λcG e eQ=>cut (σ:=Unit) cG (λ_=>(.inl (),[],[tF],[])) ?_ ?_;refine sq<|wP Z<|nt<|Qk<|UY (.sli 3 QH none 0 ([]:aq Qg)) (λ_ _ _=>Zy)<|lY (σ:=Nat×(aq Qg)×fW×OA×Nat) (YM N l2 l0 l1) (λ(aE,s,aH,a6,a7)=>((aE,s,aH),[(7,ay (aE:Int)),(6,bg a6 s a7),(5,.pointer (e' pA a5)),(2,ca g2),(1,bg aK l2 aL)],[.sli 3 QH a6 a7 s,.sli 2 Qc aA aB l0,.sli 5 Qd aC aD l1,.sli 4 QO aK aL l2,tF],[jK a5 aH,.blk g2 [bg aA l0 aB,bg aC l1 aD] 25])) (0,[],cE,none,0) e [7,6,5,2,1] [0,1,2,3,4] Z λs_ dI dJ e cw=>?_;obtain⟨aE,s,aH,a6,a7⟩:=s_;unfold YM at e;refine Q5<|sq<|bo Z<|wN Z rM<|wP Z<|Qp (j5 aE l2.length)<|jV 30 7 6 5 2 1 Z<|QK e Z (λe=>?_) λe=>?_;refine k5 7 6 5 2 1 Z<|kt<|Q5<|Qk<|sq<|bo Z<|kn e λU cH e=>wI 3 aE Z cH rM D7 λdK dL dB d4=>jA Μ 1 Z λa8 cI _=>?_;subst cI;refine wF Z tw<|jG 1 1 (V3 ..) Z fE sV Z<|QG Z Z Z Zq Z jX Z λg8=>wS 0 0 Z fE Z Z<|jV 8 7 6 5 2 1 Z<|sq<|wP Z<|nt<|Q5<|kn e λcJ e gJ=>cut (σ:=Nat) cJ (λa0=>(a0,[(8,ca g8),(7,ay (aE:Int)),(6,bg a6 s a7),(5,.pointer (e' pA a5)),(2,ca g2),(1,bg aK l2 aL),(9,ay (a0:Int))],[.sli 3 dz a8.1 a8.2 U.fact.args,.sli 3 QH a6 a7 s,.sli 2 Qc aA aB l0,.sli 5 Qd aC aD l1,.sli 4 QO aK aL l2,tF],[.blk g8 [ay (U.fact.id),ay (U.fact.ty),bg a8.1 U.fact.args a8.2] 40,jK a5 aH,.blk g2 [bg aA l0 aB,bg aC l1 aD] 25])) ?_ ?_;refine Qk<|lY (σ:=Nat) (YN N s U) (λaR=>(aR,[(9,ay (aR:Int)),(8,ca g8),(7,ay (aE:Int)),(6,bg a6 s a7),(5,.pointer (e' pA a5)),(2,ca g2),(1,bg aK l2 aL)],[.sli 3 dz a8.1 a8.2 U.fact.args,.sli 3 QH a6 a7 s,.sli 2 Qc aA aB l0,.sli 5 Qd aC aD l1,.sli 4 QO aK aL l2,tF],[.blk g8 [ay (U.fact.id),ay (U.fact.ty),bg a8.1 U.fact.args a8.2] 40,jK a5 aH,.blk g2 [bg aA l0 aB,bg aC l1 aD] 25])) 0 e [9,8,7,6,5,2,1] [0,3,4,5,6,7] Z λaR dM dN e qg=>?_;unfold YN at e;refine Q5<|Q5<|kn e λcK e je=>cut (σ:=Bool) cK (λb8=>(b8,[(9,ay (aR:Int)),(8,ca g8),(7,ay (aE:Int)),(6,bg a6 s a7),(5,.pointer (e' pA a5)),(2,ca g2),(1,bg aK l2 aL),(51,.bool b8)],[.sli 3 dz a8.1 a8.2 U.fact.args,.sli 3 QH a6 a7 s,.sli 2 Qc aA aB l0,.sli 5 Qd aC aD l1,.sli 4 QO aK aL l2,tF],[.blk g8 [ay (U.fact.id),ay (U.fact.ty),bg a8.1 U.fact.args a8.2] 40,jK a5 aH,.blk g2 [bg aA l0 aB,bg aC l1 aD] 25])) ?_ ?_;rcases j6 e with⟨bI,e⟩|⟨bI,e⟩
 refine kn e λd5 cL e=>QE [0,1,2,3,4,5,6,7,8,9,10,11,12,13] Z Z λz=>cy z 0 Z<|xN z 2 Z fG<|xP z 3 Z<|QS (j5 aR s.length)<|xP z 4 Z<|QS (QR bI)<|cy z 5 Z<|xI z 7 1 aR Z cL fG fE λdO dP dC d6=>Eg Kd 1 Z λdQ cM _=>?_;subst cM;refine xF z 8 Z pS<|xL z 9 1 0 [_] Z QW dw Z<|xF z 10 Z pS<|xD z 11 0 0 Z QW dw Z<|cy z 12 Z<|Qz z Z<|jM (decide (d5.id<U.fact.id)) e [9,8,7,6,5,2,1,51] [3,4,5,6,7,8] Z;refine QE [0,1,2,3,4,5,6,7,8,9,10,11,12,13] Z Z λz=>cy z 0 Z<|xN z 2 Z fG<|xP z 3 Z<|QS (j5 aR s.length)<|xP z 4 Z<|QS (QR bI)<|dv z 5 Z<|dv z 7 Z<|dv z 9 Z<|dv z 11 Z<|xP z 13 Z<|Qz z Z<|jM false e [9,8,7,6,5,2,1,51] [0,1,2,3,4,5] Z;rintro b8 j;have e:=je;try rw[j]at e
 refine QK e Z (λe=>?_) λe=>?_;refine k7 9 8 7 6 5 2 1 Z<|kt<|Qk<|Qa<|bo Z<|kg e λcN e=>Qp (j7 (a:=aR) (b:=1) cN)<|Qs Z Z Z Z Z<|Q2<|Q6<|mc (aR+1) (QJ qg (zs e)) [9,8,7,6,5,2,1] [0,1,2,3,4,5] Z;refine k7 9 8 7 6 5 2 1 Z<|gW<|Q7<|Q7<|Qv<|jn aR (Qu qg (zs e)) [8,7,6,5,2,1,9] [0,1,2,3,4,5] Z;rintro a0 j;have e:=gJ;try rw[j]at e
 refine Q5<|ks e λcO e jO=>?_;unfold Q3d at e;refine cut (σ:=(aq Qg)×fW×OA×Nat) cO (λ(a9,aM,aF,aG)=>(.inl (a9,aM),[(7,ay (aE:Int)),(6,bg aF a9 aG),(5,.pointer (e' pA a5)),(2,ca g2),(1,bg aK l2 aL)],[.sli 3 QH aF aG a9,.sli 2 Qc aA aB l0,.sli 5 Qd aC aD l1,.sli 4 QO aK aL l2,tF],[jK a5 aM,.blk g2 [bg aA l0 aB,bg aC l1 aD] 25])) ?_ ?_;refine sq<|bo Z<|kn e λdR cP e=>wI 4 aE Z cP rM D7 λdS dT dD d7=>jA Μ 1 Z λdU cQ _=>?_;subst cQ;refine wF Z Sn<|jG 1 0 [_] Z qE Sm Z<|My 58 8 7 6 5 2 1 9 Z<|QK e Z (λe=>?_) λe=>?_;refine k7 8 7 6 5 2 1 9 Z<|sq<|wP Z<|wF Z pS<|wD 0 0 Z QW dw Z ?_;obtain⟨⟨bX,b2⟩,cR,e⟩:=Qw e;refine wC [1] [0,2] Z Lb Z (EH a5 aH U.fact.id _ _ cR) (br [] Z) Z Z ?_;rintro _ _ _ ⟨rfl,rfl,rfl⟩;refine wP Z<|Qp (sQ bX 0)<|My 63 8 7 6 5 2 1 9 Z<|QK e Z (λe=>?_) λe=>?_;refine k7 8 7 6 5 2 1 9 Z<|Q5<|Q5<|kn e λcS e LN=>cut (σ:=Bool) cS (λb9=>(b9,[(7,ay (aE:Int)),(6,bg a6 s a7),(5,.pointer (e' pA a5)),(2,ca g2),(1,bg aK l2 aL),(9,ay (a0:Int)),(77,.bool b9)],[.sli 3 QH a6 a7 s,.sli 2 Qc aA aB l0,.sli 5 Qd aC aD l1,.sli 4 QO aK aL l2,tF],[jK a5 b2,.blk g2 [bg aA l0 aB,bg aC l1 aD] 25])) ?_ ?_;rcases j6 e with⟨bK,e⟩|⟨bK,e⟩
 refine QE [0,1,2,3,4,5,6,7,8,9,10,11,12,13] Z Z λz=>cy z 0 Z<|xN z 2 Z fG<|xP z 3 Z<|QS (Nge a0 s.length)<|xP z 4 Z<|QS (QR bK)<|dv z 5 Z<|dv z 7 Z<|dv z 9 Z<|dv z 11 Z<|xP z 13 Z<|Qz z Z<|Qj [0,2] Z Z<|jM true e [7,6,5,2,1,9,77] [4,5,6,7,8] Z;refine kn e λd8 cT e=>QE [0,1,2,3,4,5,6,7,8,9,10,11,12,13] Z Z λz=>cy z 0 Z<|xN z 2 Z fG<|xP z 3 Z<|QS (Nge a0 s.length)<|xP z 4 Z<|QS (QR bK)<|cy z 5 Z<|xI z 7 4 a0 Z cT fG fE λdV dW dE d9=>Eg Kd 1 Z λdX cU _=>?_;subst cU;refine xF z 8 Z pS<|xL z 9 1 0 [_] Z QW dw Z<|xF z 10 Z pS<|xD z 11 1 0 Z QW dw Z<|cy z 12 Z<|Qz z Z<|Qj [0,2] Z Z<|jM (d8.id !=U.fact.id) e [7,6,5,2,1,9,77] [7,8,9,10,11] Z;rintro b9 j;have e:=LN;try rw[j]at e
 refine QK e Z (λe=>?_) λe=>?_;refine k0 Z<|sq<|wP Z<|nr<|Q4<|rb<|Q4<|rb<|Q4 ?_;obtain rfl:=(Qu eQ (Qu cw (Qu jO (zs e)))).symm;refine dm [] [] results8 Z ⟨Z,Z,Z⟩ Z;refine k6 7 6 5 2 1 9 Z<|kt<|kg e λbB e=>kg e λaI e=>kg e λcV e=>kg e λb3 e=>kg e λaY e=>QE [1,2,5,6,7] Z Z λz=>cy z 1 Z<|cy z 5 Z<|xP z 7 Z<|QS (j7 (a:=a0) (b:=1) cV)<|Dw z 0 3 8 Z Z Z Z Z Z Z Z ?_ ?_ ?_
 ·
  refine QB Z Z Z Zq Z fG fE jX Z (zs:=[]) aw Z Z λaP=>Q2<|cv 0 [] Z<|rX z 3 8 Z Z Z Z Z Z ?_ ?_;rotate_left
  focus
   refine SX 0 Z Z Z Zq Z Z Z Z Z fG fE b3 λbF=>Q2<|cv 1 [] Z<|xS z 3 Z<|Oo 1 Z Z Z Zq Z Z Z Z Z fG fE bB λbO=>Q2<|cv 1 [] Z<|xS z 4 Z<|sU (sz:=3) (m:=0) gO.pair [] 0 Z (λF w bs=>Z) Z bp Z<|gp [gZ gO [] none,_,_,_] (λ_ h=>h.bagNil gO)<|gp [gT gO 40 3 (.slice (some ⟨aP,0,none⟩) 0 0) ([]:aq Qg),_,_] (λ_ h=>h.treeIn 1 0 Z Z Z Z)<|gp [.own 40 3 QH (.slice (some ⟨aP,0,none⟩) 0 0) ([]:aq Qg),_,_] (λ_ h=>h.letgo Gg 0 Z)<|rW 0 0 Z Z Z Zq Z Z Z Z Z fG se Z Z (a' aI bp) (a' (b' _ aI) bp) (H2:=λaS aT=>(V3 ..)) (λ_ _=>Z) λaS aT=>Q2<|cv 0 [] Z<|xS z 9 Z<|rW 0 1 Z Z Z Zq Z Z Z Z Z fG se Z Z (a' aY bp) (a' (b' _ aY) bp) (H2:=λaU aV=>(V3 ..)) (λ_ _=>Z) λaU aV=>?_
  rotate_right
  focus
   refine Oo 0 Z Z Z Zq Z Z Z Z Z fG fE bB λbO=>Q2<|cv 1 [] Z<|rX z 4 8 Z Z Z Z Z Z ?_ ?_;rotate_left
   focus
    refine SX 1 Z Z Z Zq Z Z Z Z Z fG fE b3 λbF=>Q2<|cv 1 [] Z<|xS z 4 Z<|sU (sz:=3) (m:=0) gO.pair [] 0 Z (λF w bs=>Z) Z bp Z<|gp [gZ gO [] none,_,_,_] (λ_ h=>h.bagNil gO)<|gp [gT gO 40 3 (.slice (some ⟨aP,0,none⟩) 0 0) ([]:aq Qg),_,_] (λ_ h=>h.treeIn 1 0 Z Z Z Z)<|gp [.own 40 3 QH (.slice (some ⟨aP,0,none⟩) 0 0) ([]:aq Qg),_,_] (λ_ h=>h.letgo Gg 0 Z)<|rW 0 1 Z Z Z Zq Z Z Z Z Z fG se Z Z (a' aI bp) (a' (b' _ aI) bp) (H2:=λaS aT=>(V3 ..)) (λ_ _=>Z) λaS aT=>Q2<|cv 0 [] Z ?_
   rotate_right
   focus
    refine sU (sz:=3) (m:=0) gO.pair [] 0 Z (λF w bs=>Z) Z bp Z<|gp [gZ gO [] none,_,_,_] (λ_ h=>h.bagNil gO)<|gp [gT gO 40 3 (.slice (some ⟨aP,0,none⟩) 0 0) ([]:aq Qg),_,_] (λ_ h=>h.treeIn 1 0 Z Z Z Z)<|gp [.own 40 3 QH (.slice (some ⟨aP,0,none⟩) 0 0) ([]:aq Qg),_,_] (λ_ h=>h.letgo Gg 0 Z)<|rW 0 0 Z Z Z Zq Z Z Z Z Z fG se Z Z (a' aI bp) (a' (b' _ aI) bp) (H2:=λaS aT=>(V3 ..)) (λ_ _=>Z) λaS aT=>Q2<|cv 0 [] Z<|xS z 8 Z<|SX 1 Z Z Z Zq Z Z Z Z Z fG fE b3 λbF=>Q2<|cv 1 [] Z ?_
   all_goals
    refine xS z 9 Z<|rW 0 0 Z Z Z Zq Z Z Z Z Z fG se Z Z (a' aY bp) (a' (b' _ aY) bp) (H2:=λaU aV=>(V3 ..)) (λ_ _=>Z) λaU aV=>?_
  all_goals
   refine Q2<|cv 0 [] Z<|xS z 10 Z<|Qs Z Z Z Z Z<|Q2<|cv 0 [] Z<|Qz z Z ?_;have j:=(Zi e).symm;refine QdE 0 Z Z<|pE (.sli 3 QH aU aV ((([]:aq Qg)++(s.take a0))++(s.drop (a0+1)))) (λF w bs=>mu (bs _ (gv (k:=0) Z)))<|Ei (((([]:aq Qg)++(s.take a0))++(s.drop (a0+1))),b2,aU,aV) j [7,6,5,2,1] Z (br [0,5,6,7,8] Z) Z
 ·
  refine Oo 0 Z Z Z Zq Z Z Z Z Z fG fE bB λbO=>Q2<|cv 1 [] Z<|rX z 0 8 Z Z Z Z Z Z ?_ ?_;rotate_left
  focus
   refine SX 1 Z Z Z Zq Z Z Z Z Z fG fE b3 λbF=>Q2<|cv 1 [] Z<|xS z 0 Z<|QB Z Z Z Zq Z fG fE jX Z (zs:=[]) aw Z Z λaP=>Q2<|cv 0 [] Z<|xS z 4 Z<|sU (sz:=3) (m:=0) gO.pair [] 0 Z (λF w bs=>Z) Z bp Z<|gp [gZ gO [] none,_,_,_] (λ_ h=>h.bagNil gO)<|gp [gT gO 40 3 (.slice (some ⟨aP,0,none⟩) 0 0) ([]:aq Qg),_,_] (λ_ h=>h.treeIn 1 0 Z Z Z Z)<|gp [.own 40 3 QH (.slice (some ⟨aP,0,none⟩) 0 0) ([]:aq Qg),_,_] (λ_ h=>h.letgo Gg 0 Z)<|rW 0 1 Z Z Z Zq Z Z Z Z Z fG se Z Z (a' aI bp) (a' (b' _ aI) bp) (H2:=λaS aT=>(V3 ..)) (λ_ _=>Z) λaS aT=>Q2<|cv 0 [] Z ?_
  rotate_right
  focus
   refine QB Z Z Z Zq Z fG fE jX Z (zs:=[]) aw Z Z λaP=>Q2<|cv 0 [] Z<|rX z 4 8 Z Z Z Z Z Z ?_ ?_;rotate_left
   focus
    refine SX 1 Z Z Z Zq Z Z Z Z Z fG fE b3 λbF=>Q2<|cv 1 [] Z<|xS z 4 Z<|sU (sz:=3) (m:=0) gO.pair [] 0 Z (λF w bs=>Z) Z bp Z<|gp [gZ gO [] none,_,_,_] (λ_ h=>h.bagNil gO)<|gp [gT gO 40 3 (.slice (some ⟨aP,0,none⟩) 0 0) ([]:aq Qg),_,_] (λ_ h=>h.treeIn 1 0 Z Z Z Z)<|gp [.own 40 3 QH (.slice (some ⟨aP,0,none⟩) 0 0) ([]:aq Qg),_,_] (λ_ h=>h.letgo Gg 0 Z)<|rW 0 1 Z Z Z Zq Z Z Z Z Z fG se Z Z (a' aI bp) (a' (b' _ aI) bp) (H2:=λaS aT=>(V3 ..)) (λ_ _=>Z) λaS aT=>Q2<|cv 0 [] Z ?_
   rotate_right
   focus
    refine sU (sz:=3) (m:=0) gO.pair [] 0 Z (λF w bs=>Z) Z bp Z<|gp [gZ gO [] none,_,_,_] (λ_ h=>h.bagNil gO)<|gp [gT gO 40 3 (.slice (some ⟨aP,0,none⟩) 0 0) ([]:aq Qg),_,_] (λ_ h=>h.treeIn 1 0 Z Z Z Z)<|gp [.own 40 3 QH (.slice (some ⟨aP,0,none⟩) 0 0) ([]:aq Qg),_,_] (λ_ h=>h.letgo Gg 0 Z)<|rW 0 0 Z Z Z Zq Z Z Z Z Z fG se Z Z (a' aI bp) (a' (b' _ aI) bp) (H2:=λaS aT=>(V3 ..)) (λ_ _=>Z) λaS aT=>Q2<|cv 0 [] Z<|xS z 8 Z<|SX 1 Z Z Z Zq Z Z Z Z Z fG fE b3 λbF=>Q2<|cv 1 [] Z ?_
  all_goals
   refine xS z 9 Z<|rW 0 0 Z Z Z Zq Z Z Z Z Z fG se Z Z (a' aY bp) (a' (b' _ aY) bp) (H2:=λaU aV=>(V3 ..)) (λ_ _=>Z) λaU aV=>Q2<|cv 0 [] Z<|xS z 10 Z<|Qs Z Z Z Z Z<|Q2<|cv 0 [] Z<|Qz z Z ?_;have j:=(Zi e).symm;refine QdE 0 Z Z<|pE (.sli 3 QH aU aV ((([]:aq Qg)++(s.take a0))++(s.drop (a0+1)))) (λF w bs=>mu (bs _ (gv (k:=0) Z)))<|Ei (((([]:aq Qg)++(s.take a0))++(s.drop (a0+1))),b2,aU,aV) j [7,6,5,2,1] Z (br [0,5,6,7,8] Z) Z
 ·
  refine SX 0 Z Z Z Zq Z Z Z Z Z fG fE b3 λbF=>Q2<|cv 1 [] Z<|rX z 0 3 Z Z Z Z Z Z ?_ ?_;rotate_left
  focus
   refine Oo 1 Z Z Z Zq Z Z Z Z Z fG fE bB λbO=>Q2<|cv 1 [] Z<|xS z 0 Z<|QB Z Z Z Zq Z fG fE jX Z (zs:=[]) aw Z Z λaP=>Q2<|cv 0 [] Z ?_
  rotate_right
  focus
   refine QB Z Z Z Zq Z fG fE jX Z (zs:=[]) aw Z Z λaP=>Q2<|cv 0 [] Z<|xS z 3 Z<|Oo 1 Z Z Z Zq Z Z Z Z Z fG fE bB λbO=>Q2<|cv 1 [] Z ?_
  all_goals
   refine xS z 4 Z<|sU (sz:=3) (m:=0) gO.pair [] 0 Z (λF w bs=>Z) Z bp Z<|gp [gZ gO [] none,_,_,_] (λ_ h=>h.bagNil gO)<|gp [gT gO 40 3 (.slice (some ⟨aP,0,none⟩) 0 0) ([]:aq Qg),_,_] (λ_ h=>h.treeIn 1 0 Z Z Z Z)<|gp [.own 40 3 QH (.slice (some ⟨aP,0,none⟩) 0 0) ([]:aq Qg),_,_] (λ_ h=>h.letgo Gg 0 Z)<|rW 0 0 Z Z Z Zq Z Z Z Z Z fG se Z Z (a' aI bp) (a' (b' _ aI) bp) (H2:=λaS aT=>(V3 ..)) (λ_ _=>Z) λaS aT=>Q2<|cv 0 [] Z<|xS z 9 Z<|rW 0 1 Z Z Z Zq Z Z Z Z Z fG se Z Z (a' aY bp) (a' (b' _ aY) bp) (H2:=λaU aV=>(V3 ..)) (λ_ _=>Z) λaU aV=>Q2<|cv 0 [] Z<|xS z 10 Z<|Qs Z Z Z Z Z<|Q2<|cv 0 [] Z<|Qz z Z ?_;have j:=(Zi e).symm;refine QdE 0 Z Z<|pE (.sli 3 QH aU aV ((([]:aq Qg)++(s.take a0))++(s.drop (a0+1)))) (λF w bs=>mu (bs _ (gv (k:=0) Z)))<|Ei (((([]:aq Qg)++(s.take a0))++(s.drop (a0+1))),b2,aU,aV) j [7,6,5,2,1] Z (br [0,5,6,7,8] Z) Z
 refine k5 7 6 5 2 1 Z<|QY<|Qj [0,2] Z Z<|jM (s,b2,a6,a7) e [7,6,5,2,1] [4,5,6,7,8] Z;refine k7 8 7 6 5 2 1 9 Z<|sq<|wP Z<|wM 0 0 (V3 ..) Z fE sV Z ?_;obtain⟨⟨bY,bD⟩,cW,e⟩:=Qw e;refine wC [1] [0,2] Z Ld Z (Kz a5 aH U.fact.id U.fact.ty a8.1 a8.2 U.fact.args _ _ cW) (br [3] Z) Z Z ?_;rintro _ _ _ ⟨rfl,rfl,rfl⟩;refine wP Z<|Qp (sQ bY 0)<|My 91 8 7 6 5 2 1 9 Z<|QK e Z (λe=>?_) λe=>?_;refine k7 8 7 6 5 2 1 9 Z<|Q5<|kg e λbC e=>kg e λaJ e=>kg e λaZ e=>nu (σ:=OA×Nat) (λ_=>True) (λ(aN,aO)=>[(10,.slice aN (((([]:aq Qg)++(s.take a0))++[U.fact]).length) aO),(7,ay (aE:Int)),(6,bg a6 s a7),(5,.pointer (e' pA a5)),(2,ca g2),(1,bg aK l2 aL),(9,ay (a0:Int))]) (λ(aN,aO)=>[.sli 3 QH a6 a7 s,.sli 2 Qc aA aB l0,.sli 5 Qd aC aD l1,.sli 4 QO aK aL l2,tF]) (λ(aN,aO)=>[.own 40 3 QH (.slice aN (((([]:aq Qg)++(s.take a0))++[U.fact]).length) aO) ((([]:aq Qg)++(s.take a0))++[U.fact]),jK a5 bD,.blk g2 [bg aA l0 aB,bg aC l1 aD] 25]) ?_ ?_;refine QE [1,2,5] Z Z λz=>cy z 1 Z<|xM z 5 1 0 (V3 ..) Z fE sV Z<|Dw z 0 3 6 Z Z Z Z Z Z Z Z ?_ ?_ ?_
 ·
  refine QB Z Z Z Zq Z fG fE jX Z (zs:=[]) aw Z Z λaQ=>Q2<|cv 0 [2] Z<|rX z 3 6 Z Z Z Z Z Z ?_ ?_;rotate_left
  focus
   refine QB Z Z Z Zq Z fG fE jX Z (zs:=[ay 0,ay 0,V1]) aw Z Z λbG=>Q2<|cv 0 [] Z<|xS z 3 Z<|Oo 4 Z Z Z Zq Z Z Z Z Z fG fE bC λbP=>Q2<|cv 1 [3] Z<|xS z 4 Z<|sU (sz:=3) (m:=0) gO.pair [] 1 Z (λF w bs=>Z) Z bp Z<|gp [gZ gO [] none,_,_,_,_,_] (λ_ h=>h.bagNil gO)<|gp [_,gT gO 40 3 (.slice (some ⟨aQ,0,none⟩) 0 0) ([]:aq Qg),_,_,_] (λ_ h=>h.treeIn 2 0 Z Z Z Z)<|gp [_,.own 40 3 QH (.slice (some ⟨aQ,0,none⟩) 0 0) ([]:aq Qg),_,_,_] (λ_ h=>h.letgo Gg 1 Z)<|rW 1 0 Z Z Z Zq Z Z Z Z Z fG se Z Z (a' aJ bp) (a' (b' _ aJ) bp) (H2:=λaW aX=>(V5 ..)) (λ_ _=>Z) λaW aX=>Q2<|cv 0 [3] Z ?_
  rotate_right
  focus
   refine Oo 4 Z Z Z Zq Z Z Z Z Z fG fE bC λbP=>Q2<|cv 1 [2] Z<|rX z 4 6 Z Z Z Z Z Z ?_ ?_;rotate_left
   focus
    refine QB Z Z Z Zq Z fG fE jX Z (zs:=[ay 0,ay 0,V1]) aw Z Z λbG=>Q2<|cv 0 [] Z<|xS z 4 Z<|sU (sz:=3) (m:=0) gO.pair [] 1 Z (λF w bs=>Z) Z bp Z<|gp [gZ gO [] none,_,_,_,_,_] (λ_ h=>h.bagNil gO)<|gp [_,gT gO 40 3 (.slice (some ⟨aQ,0,none⟩) 0 0) ([]:aq Qg),_,_,_] (λ_ h=>h.treeIn 2 0 Z Z Z Z)<|gp [_,.own 40 3 QH (.slice (some ⟨aQ,0,none⟩) 0 0) ([]:aq Qg),_,_,_] (λ_ h=>h.letgo Gg 1 Z)<|rW 1 0 Z Z Z Zq Z Z Z Z Z fG se Z Z (a' aJ bp) (a' (b' _ aJ) bp) (H2:=λaW aX=>(V5 ..)) (λ_ _=>Z) λaW aX=>Q2<|cv 0 [3] Z ?_
   rotate_right
   focus
    refine sU (sz:=3) (m:=0) gO.pair [] 0 Z (λF w bs=>Z) Z bp Z<|gp [gZ gO [] none,_,_,_,_] (λ_ h=>h.bagNil gO)<|gp [gT gO 40 3 (.slice (some ⟨aQ,0,none⟩) 0 0) ([]:aq Qg),_,_,_] (λ_ h=>h.treeIn 1 0 Z Z Z Z)<|gp [.own 40 3 QH (.slice (some ⟨aQ,0,none⟩) 0 0) ([]:aq Qg),_,_,_] (λ_ h=>h.letgo Gg 0 Z)<|rW 0 0 Z Z Z Zq Z Z Z Z Z fG se Z Z (a' aJ bp) (a' (b' _ aJ) bp) (H2:=λaW aX=>(V4 ..)) (λ_ _=>Z) λaW aX=>Q2<|cv 0 [2] Z<|xS z 6 Z<|QB Z Z Z Zq Z fG fE jX Z (zs:=[ay 0,ay 0,V1]) aw Z Z λbG=>Q2<|cv 0 [] Z ?_
  all_goals
   refine xS z 7 Z<|B4 [U.fact] 1 0 Z Z Z Zq Z Z Z Z Z (λF w bs=>⟨[ay (U.fact.id),ay (U.fact.ty),bg a8.1 U.fact.args a8.2],[],Z,Z,⟨(a8.1,a8.2),Z,(jf (bs _ (gv (k:=4) Z)) QQ)⟩,Z⟩) fG se Z Z (a' aZ bp) (a' (b' _ aZ) bp) (H2:=λb5 b6=>(V5 ..)) (λ_ _=>Z) λb5 b6=>B8 0 Z Z<|Q2<|cv 0 [2] Z<|xS z 8 Z<|wP Z<|Q2<|cv 0 [] Z<|Qz z Z<|Qj [0,1,3] Z Z<|Ei (b5,b6) trivial [10,7,6,5,2,1,9] Z (br [5,6,7,8,9] Z) Z
 ·
  refine Oo 4 Z Z Z Zq Z Z Z Z Z fG fE bC λbP=>Q2<|cv 1 [1] Z<|rX z 0 6 Z Z Z Z Z Z ?_ ?_;rotate_left
  focus
   refine QB Z Z Z Zq Z fG fE jX Z (zs:=[ay 0,ay 0,V1]) aw Z Z λbG=>Q2<|cv 0 [] Z<|xS z 0 Z<|QB Z Z Z Zq Z fG fE jX Z (zs:=[]) aw Z Z λaQ=>Q2<|cv 0 [3] Z<|xS z 4 Z<|sU (sz:=3) (m:=0) gO.pair [] 0 Z (λF w bs=>Z) Z bp Z<|gp [gZ gO [] none,_,_,_,_,_] (λ_ h=>h.bagNil gO)<|gp [gT gO 40 3 (.slice (some ⟨aQ,0,none⟩) 0 0) ([]:aq Qg),_,_,_,_] (λ_ h=>h.treeIn 1 0 Z Z Z Z)<|gp [.own 40 3 QH (.slice (some ⟨aQ,0,none⟩) 0 0) ([]:aq Qg),_,_,_,_] (λ_ h=>h.letgo Gg 0 Z)<|rW 0 0 Z Z Z Zq Z Z Z Z Z fG se Z Z (a' aJ bp) (a' (b' _ aJ) bp) (H2:=λaW aX=>(V5 ..)) (λ_ _=>Z) λaW aX=>Q2<|cv 0 [3] Z<|xS z 7 Z<|B4 [U.fact] 0 1 Z Z Z Zq Z Z Z Z Z (λF w bs=>⟨[ay (U.fact.id),ay (U.fact.ty),bg a8.1 U.fact.args a8.2],[],Z,Z,⟨(a8.1,a8.2),Z,(jf (bs _ (gv (k:=4) Z)) QQ)⟩,Z⟩) fG se Z Z (a' aZ bp) (a' (b' _ aZ) bp) (H2:=λb5 b6=>(V5 ..)) (λ_ _=>Z) λb5 b6=>B8 1 Z Z ?_
  rotate_right
  focus
   refine QB Z Z Z Zq Z fG fE jX Z (zs:=[]) aw Z Z λaQ=>Q2<|cv 0 [2] Z<|rX z 4 6 Z Z Z Z Z Z ?_ ?_;rotate_left
   focus
    refine QB Z Z Z Zq Z fG fE jX Z (zs:=[ay 0,ay 0,V1]) aw Z Z λbG=>Q2<|cv 0 [] Z<|xS z 4 Z<|sU (sz:=3) (m:=0) gO.pair [] 1 Z (λF w bs=>Z) Z bp Z<|gp [gZ gO [] none,_,_,_,_,_] (λ_ h=>h.bagNil gO)<|gp [_,gT gO 40 3 (.slice (some ⟨aQ,0,none⟩) 0 0) ([]:aq Qg),_,_,_] (λ_ h=>h.treeIn 2 0 Z Z Z Z)<|gp [_,.own 40 3 QH (.slice (some ⟨aQ,0,none⟩) 0 0) ([]:aq Qg),_,_,_] (λ_ h=>h.letgo Gg 1 Z)<|rW 1 0 Z Z Z Zq Z Z Z Z Z fG se Z Z (a' aJ bp) (a' (b' _ aJ) bp) (H2:=λaW aX=>(V5 ..)) (λ_ _=>Z) λaW aX=>Q2<|cv 0 [3] Z ?_
   rotate_right
   focus
    refine sU (sz:=3) (m:=0) gO.pair [] 0 Z (λF w bs=>Z) Z bp Z<|gp [gZ gO [] none,_,_,_,_] (λ_ h=>h.bagNil gO)<|gp [gT gO 40 3 (.slice (some ⟨aQ,0,none⟩) 0 0) ([]:aq Qg),_,_,_] (λ_ h=>h.treeIn 1 0 Z Z Z Z)<|gp [.own 40 3 QH (.slice (some ⟨aQ,0,none⟩) 0 0) ([]:aq Qg),_,_,_] (λ_ h=>h.letgo Gg 0 Z)<|rW 0 0 Z Z Z Zq Z Z Z Z Z fG se Z Z (a' aJ bp) (a' (b' _ aJ) bp) (H2:=λaW aX=>(V4 ..)) (λ_ _=>Z) λaW aX=>Q2<|cv 0 [2] Z<|xS z 6 Z<|QB Z Z Z Zq Z fG fE jX Z (zs:=[ay 0,ay 0,V1]) aw Z Z λbG=>Q2<|cv 0 [] Z ?_
   all_goals
    refine xS z 7 Z<|B4 [U.fact] 1 0 Z Z Z Zq Z Z Z Z Z (λF w bs=>⟨[ay (U.fact.id),ay (U.fact.ty),bg a8.1 U.fact.args a8.2],[],Z,Z,⟨(a8.1,a8.2),Z,(jf (bs _ (gv (k:=4) Z)) QQ)⟩,Z⟩) fG se Z Z (a' aZ bp) (a' (b' _ aZ) bp) (H2:=λb5 b6=>(V5 ..)) (λ_ _=>Z) λb5 b6=>B8 0 Z Z ?_
  all_goals
   refine Q2<|cv 0 [2] Z<|xS z 8 Z<|wP Z<|Q2<|cv 0 [] Z<|Qz z Z<|Qj [0,1,3] Z Z<|Ei (b5,b6) trivial [10,7,6,5,2,1,9] Z (br [5,6,7,8,9] Z) Z
 ·
  refine QB Z Z Z Zq Z fG fE jX Z (zs:=[ay 0,ay 0,V1]) aw Z Z λbG=>Q2<|cv 0 [] Z<|rX z 0 3 Z Z Z Z Z Z ?_ ?_;rotate_left
  focus
   refine Oo 4 Z Z Z Zq Z Z Z Z Z fG fE bC λbP=>Q2<|cv 1 [2] Z<|xS z 0 Z<|QB Z Z Z Zq Z fG fE jX Z (zs:=[]) aw Z Z λaQ=>Q2<|cv 0 [3] Z ?_
  rotate_right
  focus
   refine QB Z Z Z Zq Z fG fE jX Z (zs:=[]) aw Z Z λaQ=>Q2<|cv 0 [3] Z<|xS z 3 Z<|Oo 4 Z Z Z Zq Z Z Z Z Z fG fE bC λbP=>Q2<|cv 1 [3] Z ?_
  all_goals
   refine xS z 4 Z<|sU (sz:=3) (m:=0) gO.pair [] 0 Z (λF w bs=>Z) Z bp Z<|gp [gZ gO [] none,_,_,_,_,_] (λ_ h=>h.bagNil gO)<|gp [gT gO 40 3 (.slice (some ⟨aQ,0,none⟩) 0 0) ([]:aq Qg),_,_,_,_] (λ_ h=>h.treeIn 1 0 Z Z Z Z)<|gp [.own 40 3 QH (.slice (some ⟨aQ,0,none⟩) 0 0) ([]:aq Qg),_,_,_,_] (λ_ h=>h.letgo Gg 0 Z)<|rW 0 0 Z Z Z Zq Z Z Z Z Z fG se Z Z (a' aJ bp) (a' (b' _ aJ) bp) (H2:=λaW aX=>(V5 ..)) (λ_ _=>Z) λaW aX=>Q2<|cv 0 [3] Z<|xS z 7 Z<|B4 [U.fact] 0 1 Z Z Z Zq Z Z Z Z Z (λF w bs=>⟨[ay (U.fact.id),ay (U.fact.ty),bg a8.1 U.fact.args a8.2],[],Z,Z,⟨(a8.1,a8.2),Z,(jf (bs _ (gv (k:=4) Z)) QQ)⟩,Z⟩) fG se Z Z (a' aZ bp) (a' (b' _ aZ) bp) (H2:=λb5 b6=>(V5 ..)) (λ_ _=>Z) λb5 b6=>B8 1 Z Z<|Q2<|cv 0 [2] Z<|xS z 8 Z<|wP Z<|Q2<|cv 0 [] Z<|Qz z Z<|Qj [0,1,3] Z Z<|Ei (b5,b6) trivial [10,7,6,5,2,1,9] Z (br [5,6,7,8,9] Z) Z
 rintro⟨aN,aO⟩ _;try dsimp only
 refine Qa<|bo Z<|wP Z<|kg e λbZ e=>SX 0 Z Z Z Zq Z Z Z Z Z fG fE bZ λdF=>kg e λbL e=>rW 0 0 Z Z Z Zq Z Z Z Z Z fG se Z Z (a' bL bp) (a' (b' _ bL) bp) (H2:=λbM bN=>(V3 ..)) (λ_ _=>Z) λbM bN=>Qs Z Z Z Z Z<|Q2 ?_;have j:=(Zi e).symm;refine QdE 0 Z Z<|pE (.sli 3 QH bM bN (((([]:aq Qg)++(s.take a0))++[U.fact])++(s.drop a0))) (λF w bs=>mu (bs _ (gv (k:=0) Z)))<|Ei ((((([]:aq Qg)++(s.take a0))++[U.fact])++(s.drop a0)),bD,bM,bN) j [7,6,5,2,1] Z (br [0,4,5,6,7] Z) Z;refine k5 7 6 5 2 1 Z<|QY<|Qj [0,2] Z Z<|jM (s,bD,a6,a7) e [7,6,5,2,1] [4,5,6,7,8] Z;rintro⟨a9,aM,aF,aG⟩ j;have e:=QJ jO j;refine sq<|wM 1 0 [_,_] Z mj oQ Z<|wP Z ?_;obtain⟨⟨bQ,bR⟩,c2,e⟩:=Qw e;refine wC [] [0,1] Z a0g Z (@qH N aA aB l0 aC aD l1 aF aG a9 _ _ c2) (br [1,2,0] Z) Z Z ?_;rintro _ _ _ ⟨bS,bT,d1,rfl,rfl,rfl⟩;refine bo Z<|bo Z<|wP Z<|E0 12 11 7 6 5 2 1 Z<|Q5<|kn e λcX e a0z=>cut (σ:=Bool) cX (λb4=>(b4,[(7,ay (aE:Int)),(6,bg aF a9 aG),(5,.pointer (e' pA a5)),(2,ca g2),(1,bg aK l2 aL),(119,.bool b4)],[.sli 3 QH aF aG a9,.sli 2 Qc aA aB l0,.sli 5 Qd aC aD l1,.sli 4 QO aK aL l2,tF],[jK a5 aM,.blk g2 [bg aA l0 aB,bg aC l1 aD] 25])) ?_ ?_;refine Qa<|bo Z<|Qp (SB bR 0)<|wP Z<|fx e (λe=>?_) λe=>?_;refine eU Z<|wO Z<|wP Z<|Q2<|Qj [1,2] Z Z<|jM true e [7,6,5,2,1,119] [0,1,2,3,4] Z;refine wP Z<|kn e λcY c5 e=>wC [1] [0,2] Z GM Z (HG a5 aM _ c5) (br [] Z) Z Z ?_;rintro _ _ _ ⟨bU,bV,d2,rfl,rfl,rfl⟩;refine wP Z<|pK 0 Z λbH _=>?_;subst bH;refine nw 2 Z λc7 _=>?_;subst c7;refine kn e λcZ c8 e=>AE [] [0,1,2,3] [0,2] Z Z Z Zq Z Z a0f Z (@QaQ N bU bV cY bS bT bQ _ c8) (λF w bs hh=>(jf (mu (hh _ (gv (k:=0) Z))) (jf (NU Qb3 (hh _ (gv (k:=1) Z)) (λ_ h=>h) (λ_ h=>h)) QQ))) (λ_ _ _ hR=>by obtain⟨rfl,rfl,rfl⟩:=hR;exact⟨Z,(λ_ h=>uA h)⟩) Z Z Z ?_;rintro _ _ _ ⟨rfl,rfl,rfl⟩;refine bo Z<|Q2<|Qj [1,3] Z Z<|jM (!cZ) e [7,6,5,2,1,119] [0,1,2,3,4] Z;rintro b4 j;have e:=a0z;try rw[j]at e
 refine QK e Z (λe=>?_) λe=>?_;refine k0 Z<|sq<|wP Z<|nr<|Qr<|Q4<|rb<|Q4 ?_;obtain rfl:=(Qu eQ (Qu cw (zs e))).symm;refine dm [] [] results8 Z ⟨Z,Z,Z⟩ Z;refine k5 7 6 5 2 1 Z<|QY<|Q6<|Qy<|Qa<|bo Z<|kg e λd0 e=>Qp (j7 (a:=aE) (b:=1) d0)<|Qs Z Z Z Z Z<|Q2<|mc (aE+1,a9,aM,aF,aG) (QJ cw (zs e)) [7,6,5,2,1] [0,1,2,3,4] Z;refine k0 Z<|gW<|Q7<|Q7<|Qv<|Qj [] Z Z<|jn () (Qu cw (zs e)) [] [4] Z;rintro _ j;have e:=QJ eQ j;refine sq<|wP Z<|nr ?_;obtain rfl:=Zi e;refine dm [] [] results8 Z ⟨Z,Z,Z⟩ Z
end
section
open Go Go.RowKit
abbrev RC:=(aq Bool)->(aq V)->cq->Int->Int->(aq Qq)->(aq kW)->(aq Qg)->(aq Int)->Int->(aq Qb)->Int->Int->bf ((Int×(aq Qb))⊕Unit)
variable {S:lO}{I:aq Bool->aq V->Prop}{conds:aq Qq}{facts:aq Qg}{k M:Nat}
theorem RI (ok:OkS S I conds facts) {rc:RC} {c:Qq} (kb:c∈conds) (h3:c.kind≠3) (h2:c.kind≠2) {cs:aq Qq} {hs:aq Bool} {vs:aq V} (hI:I hs vs) {ids:aq Int}
   (a0M:ids.length<=100000) {acts:aq kW} {a2:cq} {a3 a4 ri:Int} (hk:k<=100000) (hM:9223372036855775808<=M) (ZN:facts.length<=100000) (B:Nat)
   (hrc:∀f∈facts,∀p,S.mt c hs vs f=some p->I p.1 p.2->∀(left:Nat) (out:aq Qb),out.length+left<=B->
     rc p.1 p.2 a2 a3 a4 conds acts facts (ids++[f.id]) ((left:Nat):Int) out ri ((k+1:Nat):Int)=some (if 1+jk S facts cs p.1 p.2<=left then .inl (((left-(1+jk S facts cs p.1 p.2):Nat):Int),out++(goN S facts cs p.1 p.2 (ids++[f.id])).map (kS ri))else .inr ())):
   ∀ (m i fuel:Nat) (hj:aq Bool) (vj:aq V) (ij:aq Int) (left:Nat) (out:aq Qb),i+m=facts.length->m<fuel->out.length+left<=B->
     ∃ M5 vj' ij',fp (SF M facts c hs vs ids ((k:Nat):Int) rc a2 a3 a4 conds acts ri) fuel (i,hj,vj,ij,((left:Nat):Int),out)=
       some (if((facts.drop i).map (ud S facts c cs hs vs)).sum<=left then .inl (M5,vj',ij',((left-((facts.drop i).map (ud S facts c cs hs vs)).sum:Nat):Int),out++((facts.drop i).flatMap (CD S facts c cs hs vs ids)).map (kS ri))else .inr (.inr ())):=by
 intro m;induction m with
 | zero=>
   intro i fuel hj vj ij left out him ZO _;obtain⟨fuel,rfl⟩:∃q,fuel=q+1:=⟨fuel-1,au⟩
   refine⟨hj,vj,ij,?_⟩;rw[pJ (o:=.inl (hj,vj,ij,((left:Nat):Int),out)) (by unfold SF;simp only;rw[if_neg fh]),l' au];simp
 | succ m ih=>
   intro i fuel hj vj ij left out him ZO hB;obtain⟨fuel,rfl⟩:∃q,fuel=q+1:=⟨fuel-1,au⟩
   have hi:i<facts.length:=au
   have kB:facts[i]∈facts:=o' hi;obtain⟨a,b,hm,hp⟩:=ok.mt M hM c kb h3 h2 facts[i] kB hs vs hI;have hd:facts.drop i=facts[i]::facts.drop (i+1):=i' hi;rw[hd,List.map_cons,List.sum_cons,List.flatMap_cons];cases IF:S.mt c hs vs facts[i]with
   | none=>
     have e1:ud S facts c cs hs vs facts[i]=0:=by unfold ud;rw[IF]
     have e2:CD S facts c cs hs vs ids facts[i]=[]:=by unfold CD;rw[IF]
     rw[e1,e2,h!,j'];obtain⟨x,y,z,hx⟩:=ih (i+1) fuel hj vj ij left out au au hB;refine⟨x,y,z,?_⟩;rw[Gh (s':=(i+1,hj,vj,ij,((left:Nat):Int),out)),hx];unfold SF;simp only;rw[cg hi];unfold G';rw[c' hi,Q1,hm,Q1];simp only[IF,Option.isSome_none];rw[if_pos Ev,lH,QC au]
   | some p=>
     obtain⟨xX,hpI⟩:=hp p IF;have e1:ud S facts c cs hs vs facts[i]=1+jk S facts cs p.1 p.2:=by unfold ud;rw[IF]
     have e2:CD S facts c cs hs vs ids facts[i]=goN S facts cs p.1 p.2 (ids++[facts[i].id]):=by unfold CD;rw[IF]
     have a3b:I p.1 p.2:=by rw[xX];exact hpI
     have hr:=hrc facts[i] kB p IF a3b left out hB;rw[e1,e2];have ha:a=p.1:=by rw[xX]
     have hb:b=p.2:=by rw[xX]
     have U:G' M facts i c hs vs hj vj ij ((left:Nat):Int) out ids ((k:Nat):Int) rc a2 a3 a4 conds acts ri=
        if 1+jk S facts cs p.1 p.2<=left then some (.inl (p.1,p.2,ids++[facts[i].id],((left-(1+jk S facts cs p.1 p.2):Nat):Int),out++(goN S facts cs p.1 p.2 (ids++[facts[i].id])).map (kS ri)))else some (.inr (.inr (.inr (.inr ())))):=by
       unfold G';rw[c' hi,Q1,hm,Q1];simp only[IF,Option.isSome_some];rw[if_neg bh,QC au,QC fh,QC au,p' (h' _),ha,hb,show((k:Nat):Int)+1=((k+1:Nat):Int)from by omega,hr,Q1];by_cases hle:1+jk S facts cs p.1 p.2<=left;· rw[if_pos hle,if_pos hle]
       · rw[if_neg hle,if_neg hle]
     by_cases hle:1+jk S facts cs p.1 p.2<=left
     · rw[if_pos hle]at U;have hlen:=uD (S:=S) (facts:=facts) cs p.1 p.2 (ids++[facts[i].id]);obtain⟨x,y,z,hx⟩:=ih (i+1) fuel p.1 p.2 (ids++[facts[i].id]) (left-(1+jk S facts cs p.1 p.2)) (out++(goN S facts cs p.1 p.2 (ids++[facts[i].id])).map (kS ri)) au au fh;refine⟨x,y,z,?_⟩;rw[Gh (s':=(i+1,p.1,p.2,ids++[facts[i].id],((left-(1+jk S facts cs p.1 p.2):Nat):Int),out++(goN S facts cs p.1 p.2 (ids++[facts[i].id])).map (kS ri))),hx]
       ·by_cases h4:((facts.drop (i+1)).map (ud S facts c cs hs vs)).sum<=left-(1+jk S facts cs p.1 p.2);· rw[if_pos h4,if_pos au,List.map_append,A',Q']
        · rw[if_neg h4,if_neg au]
       ·unfold SF;simp only;rw[cg hi,U,lH,QC au]
     · rw[if_neg hle]at U;refine⟨hj,vj,ij,?_⟩;rw[pJ (o:=.inr (.inr ())),if_neg au];unfold SF;simp only;rw[cg hi,U,B5]
theorem KH {left:Nat} (hl:left<=1000000000000000):Q5w M ((k:Nat):Int) ((left:Nat):Int)=if 0<k/\left=0 then some (.inr (.inr ()))else some (.inl ((left-(if 0<k then 1 else 0):Nat):Int)):=by
 unfold Q5w;by_cases hk:0<k
 ·rw[cg hk,QC au];by_cases U:left=0;· rw[if_pos (by simp[U]),if_pos ⟨hk,U⟩]
  · rw[if_neg fh,if_neg (λh=>U h.2),if_pos hk,show((left:Nat):Int)-1=((left-1:Nat):Int)from by omega]
 · rw[ct hk,if_neg (λh=>hk h.1),if_neg hk,Nat.sub_zero]
theorem a1C (ok:OkS S I conds facts)(AO:conds.length<=1000)(ZN:facts.length<=100000)(acts:aq kW)(a2:cq)(a3 a4 ri:Int):
   ∀ (j N k:Nat) (hs:aq Bool) (vs:aq V) (ids:aq Int) (left:Nat) (out:aq Qb),k+j=conds.length->9223372036855775808+j<N->I hs vs->ids.length<=1000+k->out.length+left<=4000000000000->
     OX N hs vs a2 a3 a4 conds acts facts ids ((left:Nat):Int) out ri ((k:Nat):Int)=
       some (if(if 0<k then 1 else 0)+jk S facts (conds.drop k) hs vs<=left then .inl (((left-((if 0<k then 1 else 0)+jk S facts (conds.drop k) hs vs):Nat):Int),out++(goN S facts (conds.drop k) hs vs ids).map (kS ri))else .inr ()):=by
 intro j;induction j with
 | zero=>
   intro N k hs vs ids left out Fi hN hI a0M hB;obtain⟨M,rfl⟩:∃q,N=q+1:=⟨N-1,au⟩
   show Uw M (OX M) hs vs a2 a3 a4 conds acts facts ids ((left:Nat):Int) out ri ((k:Nat):Int)=_;unfold Uw;rw[KH au,l' au];have hv:=ok.len hs vs hI;have e0:jk S facts [] hs vs=0:=by rw[jk]
   have p0:0<k->(if 0<k then 1 else 0)=1:=λh=>if_pos h;have p1:¬0<k->(if 0<k then 1 else 0)=0:=λh=>if_neg h;rw[e0,Nat.add_zero];generalize (if 0<k then 1 else 0)=pre at p0 p1⊢;by_cases h0:0<k/\left=0;· rw[if_pos h0,B5,if_neg (by have:=p0 h0.1;omega)]
   · have hp:pre<=left:=by
       by_cases hk:0<k
       · have:=p0 hk;omega
       · have:=p1 hk;omega
     rw[if_neg h0,lH,if_pos fh,if_pos hp];unfold Q9r Q7i;rw[QC au,QC au,QC fh,Q1,Q1];simp[goN,kS]
 | succ j ih=>
   intro N k hs vs ids left out Fi hN hI a0M hB;obtain⟨M,rfl⟩:∃q,N=q+1:=⟨N-1,au⟩
   show Uw M (OX M) hs vs a2 a3 a4 conds acts facts ids ((left:Nat):Int) out ri ((k:Nat):Int)=_;unfold Uw;have hk:k<conds.length:=au
   have kB:conds[k]∈conds:=o' hk;have hd:conds.drop k=conds[k]::conds.drop (k+1):=i' hk;rw[KH au];by_cases h0:0<k/\left=0;· rw[if_pos h0,B5,if_neg (by rw[if_pos h0.1];omega)]
   rw[if_neg h0,lH,if_neg fh,QC au,show((k:Nat):Int).toNat=k from by omega,c' hk,Q1];have hp:(if 0<k then 1 else 0)<=left:=by split<;>omega
   generalize gh:(if 0<k then 1 else 0)=pre at hp⊢;have IE:((k:Nat):Int)+1=((k+1:Nat):Int):=au
   have XO:∀n:Nat,(if 0<n+1 then 1 else 0)=1:=λn=>if_pos (Nat.succ_pos n);by_cases U:conds[k].kind=3
   · obtain⟨x,n,s,e,he,DT⟩:=ok.ev M au conds[k] kB U hs vs hI;rw[cg U,he,Q1]
     have hb:(if(e==0)=true then(if(x==1)=true then some (n !=0)else some false)else some false)=some (S.ev conds[k] vs):=by
       rw[DT];cases(e==0)<;>cases(x==1)<;>rfl
     simp only;rw[hb,Q1];have eC:jk S facts (conds.drop k) hs vs=if S.ev conds[k] vs then 1+jk S facts (conds.drop (k+1)) hs vs else 0:=by rw[hd,To U]
     have eG:goN S facts (conds.drop k) hs vs ids=if S.ev conds[k] vs then goN S facts (conds.drop (k+1)) hs vs ids else[]:=by rw[hd,go3 U]
     rw[eC,eG];cases hT:S.ev conds[k] vs with
     | true=>
       have hr:=ih M (k+1) hs vs ids (left-pre) out au au hI au au;rw[XO]at hr;rw[if_pos rfl,QC au,IE,hr,Q1];simp only[if_true];by_cases hle:1+jk S facts (conds.drop (k+1)) hs vs<=left-pre;· rw[if_pos hle,if_pos au,Q']
       · rw[if_neg hle,if_neg au]
     | false=>
       rw[if_neg bh,if_pos fh];simp
   · rw [ct U];by_cases h2:conds[k].kind=2
     · rw[cg h2,ok.sm M au conds[k] kB h2 hs vs hI,Q1];have eC:jk S facts (conds.drop k) hs vs=if S.sm conds[k] hs vs then 0 else 1+jk S facts (conds.drop (k+1)) hs vs:=by rw[hd,Tm U h2]
       have eG:goN S facts (conds.drop k) hs vs ids=if S.sm conds[k] hs vs then[]else goN S facts (conds.drop (k+1)) hs vs ids:=by rw[hd,go2 U h2]
       rw[eC,eG];cases hT:S.sm conds[k] hs vs with
       | false=>
         have hr:=ih M (k+1) hs vs ids (left-pre) out au au hI au au;rw[XO]at hr;rw[if_pos (show(!false)=true from rfl),QC au,IE,hr,Q1];simp only[Bool.false_eq_true,if_false];by_cases hle:1+jk S facts (conds.drop (k+1)) hs vs<=left-pre;· rw[if_pos hle,if_pos au,Q']
         · rw[if_neg hle,if_neg au]
       | true=>
         rw[if_neg bh];simp only[if_true];rw[if_pos au];simp
     · rw[ct h2];have eC:jk S facts (conds.drop k) hs vs=(facts.map (ud S facts conds[k] (conds.drop (k+1)) hs vs)).sum:=by rw[hd,Tl U h2]
       have eG:goN S facts (conds.drop k) hs vs ids=facts.flatMap (CD S facts conds[k] (conds.drop (k+1)) hs vs ids):=by rw[hd,go1 U h2]
       rw[eC,eG]
       obtain ⟨x,y,z,hx⟩:=RI ok kB U h2 (cs:=conds.drop (k+1)) hI (ids:=ids) au (acts:=acts) (a2:=a2) (a3:=a3) (a4:=a4) (ri:=ri) (k:=k) (M:=M) au au ZN 4000000000000 (rc:=OX M) (λf _ p _ hpI a1o a3v hB2=>by
         have hr:=ih M (k+1) p.1 p.2 (ids++[f.id]) a1o a3v au au hpI fh hB2;rw[XO]at hr;exact hr) facts.length 0 M hs vs ids (left-pre) out au au au
       rw[S']at hx;rw[hx];by_cases hle:(facts.map (ud S facts conds[k] (conds.drop (k+1)) hs vs)).sum<=left-pre;· rw[if_pos hle,lH,if_pos au,Q']
       · rw[if_neg hle,B5,if_neg au]
end
section
open Go Go.RowKit
variable {N:Nat}{types:aq Q9}{rules:aq Q8}{facts:aq Qg}
theorem Vg (hN:9223372036854775808+2000000<=N) (hr:∀r∈rules,yX r.conds facts/\r.conds.length<=1000)(hf:facts.length<=1000)(Xh:rules.length<=1000):
  UG N types rules facts []=some (if nN facts rules<=4096 then .inr (wc facts rules 0)else .inl ()):=by
 have key:∀(m i fuel left:Nat) (out:aq Qb),i+m=rules.length->m<fuel->left<=4096->out.length<=4096+i->
    out.length+left<=4096+i->fp (P4 N rules facts) fuel (i,((left:Nat):Int),out)=some (if nN facts (rules.drop i)<=left then .inl (out++wc facts (rules.drop i) i)else .inr (.inl ())):=by
  intro m;induction m with
  | zero=>
    intro i fuel left out hi ZO h1 h2 h3;obtain⟨fuel,rfl⟩:∃q,fuel=q+1:=⟨fuel-1,au⟩
    obtain rfl:i=rules.length:=au
    rw[pJ (o:=.inl out) (by unfold P4;simp only;rw[if_neg bh]),List.drop_length];simp[nN,wc]
  | succ m ih=>
    intro i fuel left out hi ZO h1 h2 h3;obtain⟨fuel,rfl⟩:∃q,fuel=q+1:=⟨fuel-1,au⟩
    have h:i<rules.length:=au
    obtain⟨hL,AO⟩:=hr _ (o' h);obtain⟨hn,hI⟩:=zT N rules[i].vars;have hon:=a1C (RX hL) AO au rules[i].acts rules[i].name rules[i].salience rules[i].vars ((i:Nat):Int) rules[i].conds.length N 0 (j9 rules[i].vars).1 (j9 rules[i].vars).2 [] left out au au hI bh au;simp only[Nat.lt_irrefl,if_false,h!,S']at hon;have Rr:OX N (j9 rules[i].vars).1 (j9 rules[i].vars).2 rules[i].name rules[i].salience rules[i].vars rules[i].conds rules[i].acts facts ([]:aq Int) ((left:Nat):Int) out ((i:Nat):Int) 0=some (if lR facts rules[i]<=left then .inl (((left-lR facts rules[i]:Nat):Int),out++(TD facts rules[i]).map (kS ((i:Nat):Int)))else .inr ()):=hon;rw[i' h,nN,wc];have hg:=GS facts rules[i];by_cases hc:lR facts rules[i]<=left
    ·rw [if_pos hc]at Rr
     rw [Gh (s':=(i+1,((left-lR facts rules[i]:Nat):Int),out++(TD facts rules[i]).map (kS ((i:Nat):Int)))) (by
      unfold P4;simp only;rw[cg h,c' h,Q1,hn,Q1,Rr,Q1];simp only;rw[QC au]),ih (i+1) fuel (left-lR facts rules[i]) _ au au au fh fh]
     by_cases U:nN facts (rules.drop (i+1))<=left-lR facts rules[i];· rw[if_pos U,if_pos au,A']
     · rw[if_neg U,if_neg au]
    ·rw [if_neg hc]at Rr
     rw [pJ (o:=.inr (.inl ())) (by
      unfold P4;simp only;rw[cg h,c' h,Q1,hn,Q1,Rr,Q1]),if_neg au]
 unfold UG;have hk:=key rules.length 0 N 4096 [] au au au bh bh;rw[S',j']at hk;rw[show((4096:Nat):Int)=(4096:Int)from rfl]at hk;rw[hk];by_cases U:nN facts rules<=4096;· rw[if_pos U,if_pos U,lH]
 · rw[if_neg U,if_neg U,B5]
theorem Jm (hN:9223372036854775808+2000000<=N) (hr:∀r∈rules,ki r/\yX r.conds facts)(hf:facts.length<=1000)(ha:∀f∈facts,f.args.length<=4398046510976):
   Q6W N types rules facts=some (if A9 types rules facts=true then(if nN facts rules<=4096 then(wc facts rules 0,0)else([],204))else([],2)):=by
 unfold Q6W A9;rw[Q9t au (λr h=>J0 (hr r h).1),Q1];cases hR:DC types rules with
 |false=>rfl
 | true=>
   rw[if_neg bh,L6 au au ha,Q1,Q1,W'];cases hF:sT types 0 facts with
   |false=>rfl
   | true=>
     obtain⟨h64,h8⟩:=Qda hR;rw[if_neg bh,if_pos rfl,Vg hN (λr h=>⟨(hr r h).2,by have:=h8 r h;omega⟩) hf au,Q1];by_cases U:nN facts rules<=4096;· rw[if_pos U,if_pos U]
     · rw[if_neg U,if_neg U]
end
section
open Go Go.RowKit
variable {x a b n id:Int}
theorem Jh:DC nE jv=true:=by
 have h:P5 9223372036855854808 nE jv=some true:=aw
 have h2:=Q9t (N:=9223372036855854808) (types:=nE) (rules:=jv) bp (λr hr=>by
  rw[d'.1 hr]
  exact ⟨λc hc=>by
   rcases f'.1 hc with rfl|hc;· exact⟨bp,bp⟩
   · rw[d'.1 hc];exact⟨bp,bp⟩,λa U=>by
   rcases f'.1 U with rfl|U;· decide
   · rw[d'.1 U];decide⟩)
 rw[h]at h2;exact(Option.some.inj h2).symm
theorem K1 (h:0<=x/\x<=255):ql .u8 x:=by
 have U:IntKind.min .u8=0:=bp
 have e2:IntKind.max .u8=255:=bp
 unfold ql;rw[U,e2];exact h
theorem mR (h:-9223372036854775808<=x/\x<=9223372036854775807):ql .i64 x:=by
 have U:IntKind.min .i64=-9223372036854775808:=bp
 have e2:IntKind.max .i64=9223372036854775807:=bp
 unfold ql;rw[U,e2];exact h
theorem vZ:wZ zV:=⟨K1 bp,mR bp,bp⟩
theorem Hm (h:-9223372036854775808<=n/\n<=9223372036854775807):wZ ⟨1,n,⟨#[]⟩⟩:=⟨K1 (show(0:Int)<=1/\(1:Int)<=255 by decide),mR h,by show(0:Nat)<=_;omega⟩
theorem om {k o:Int} {v:V} (hk:0<=k/\k<=255)(hv:wZ v)(hx:-9223372036854775808<=x/\x<=9223372036854775807)(U:0<=o/\o<=255) {l:aq Q3} (hl:l.length<=100)(h:∀y∈l,db y):db ⟨k,v,x,o,l⟩:=
 .mk _ (K1 hk) hv (mR hx) (K1 U) (by show l.length<=_;omega) h
theorem Ug:db zE:=om bp vZ bp bp bp (λy hy=>by cases hy)
theorem Y1:sX nE jv where
 right:=Jh
 ok:=λr hr=>by
  rw[d'.1 hr];refine⟨bp,mR bp,mR bp,⟨bp,λc hc=>?_⟩,⟨bp,λa U=>?_⟩⟩
  ·rcases f'.1 hc with rfl|hc
   ·refine⟨K1 bp,mR bp,⟨bp,λa U=>?_⟩,Ug⟩;rcases f'.1 U with rfl|U;· exact⟨K1 bp,mR bp,vZ⟩
    · rw[d'.1 U];exact⟨K1 bp,mR bp,Hm bp⟩
   ·rw[d'.1 hc];refine⟨K1 bp,mR bp,⟨bp,λa U=>?_⟩,Ug⟩;rcases f'.1 U with rfl|U;· exact⟨K1 bp,mR bp,vZ⟩
    · rw[d'.1 U];exact⟨K1 bp,mR bp,vZ⟩
  ·rcases f'.1 U with rfl|U
   ·refine ⟨K1 bp,mR bp,mR bp,bp,λe he=>?_⟩;rcases f'.1 he with rfl|he;· exact om bp vZ bp bp bp (λy hy=>by cases hy)
    ·rw[d'.1 he];refine om bp vZ bp bp bp λy hy=>?_
     rcases f'.1 hy with rfl|hy;· exact om bp vZ bp bp bp (λy hy=>by cases hy)
     ·rw[d'.1 hy];exact om bp (Hm bp) bp bp bp (λy hy=>by cases hy)
   ·rw[d'.1 U];exact⟨K1 bp,mR bp,mR bp,bp,λe he=>by cases he⟩
 light:=λr hr=>by
  rw[d'.1 hr];refine⟨λc hc=>?_,λa U=>?_⟩
  ·rcases f'.1 hc with rfl|hc;· exact⟨bp,bp⟩
   · rw[d'.1 hc];exact⟨bp,bp⟩
  ·rcases f'.1 U with rfl|U;· decide
   · rw[d'.1 U];decide
def af (id a b:Int):Qg:=⟨id,0,[⟨1,a,⟨#[]⟩⟩,⟨1,b,⟨#[]⟩⟩]⟩
theorem yl:r8 ⟨1,n,⟨#[]⟩⟩=true:=by
 unfold r8;exact @decide_eq_true _ (Classical.propDecidable _) (.inl ⟨rfl,rfl⟩)
theorem KA (h:0<id/\id<=1099511627776):AM nE 0 (af id a b)=true:=by
 unfold AM;have U:decide (0<(af id a b).id/\(af id a b).id<=1099511627776)=true:=decide_eq_true h;rw[U,W'];have e:wb nE (af id a b).ty (((af id a b).args.length:Nat):Int)=true:=rfl;rw[e,W'];show(List.all [_,_] r8)=true;rw[e!,e!,List.all_nil,yl,yl];rfl
theorem PG (ha:eM a)(hb:eM b):Kb [⟨1,a,⟨#[]⟩⟩,⟨1,b,⟨#[]⟩⟩]:=⟨by show 2<=_;omega,λv U=>by
 rcases f'.1 U with rfl|U;· exact⟨ha,by show 0<=_;omega⟩
 · rw[d'.1 U];exact⟨hb,by show 0<=_;omega⟩⟩
theorem Ky {facts:aq Qg} (h:0<id/\id<=1099511627776)(ha:eM a)(hb:eM b)(hl:facts.length<=1000000)(hn:(facts.any λg=>decide (g.id=id))=false)(hs:nN (mz (af id a b) facts) jv<=4096):
  kq NB (.net nE jv facts) id 0 [⟨1,a,⟨#[]⟩⟩,⟨1,b,⟨#[]⟩⟩]=some (0,.net nE jv (mz (af id a b) facts)):=by
 unfold kq;simp only;rw[if_pos ⟨h' _,hl,PG ha hb⟩]
 have e:nR nE jv facts (af id a b)=(mz (af id a b) facts,0):=by
  unfold nR;have U:(facts.any λg=>decide (g.id=(af id a b).id))=false:=hn;rw[if_pos (KA h),U,if_neg bh,if_pos hs]
 show some ((nR nE jv facts (af id a b)).2,fW.net nE jv (nR nE jv facts (af id a b)).1)=_;rw[e]
theorem a3B:nN [af 1 1 1] jv=2:=aw
theorem a3C:nN [af 1 1 1,af 2 1 2] jv=3:=aw
theorem a3D:nN [af 2 1 2] jv=0:=aw
theorem a09:wc [af 1 1 1] jv 0=[⟨0,[1,1]⟩]:=aw
theorem a0a:wc [af 1 1 1,af 2 1 2] jv 0=[⟨0,[1,1]⟩,⟨0,[1,2]⟩]:=aw
theorem a0b:wc [af 2 1 2] jv 0=[]:=aw
theorem KD:ο NB=some true:=by
 have h1:newN NB nE jv=some (.net nE jv []):=if_pos ⟨h' _,Y1⟩;have U:kq NB (.net nE jv []) 1 0 [⟨1,1,⟨#[]⟩⟩,⟨1,1,⟨#[]⟩⟩]=some (0,.net nE jv [af 1 1 1]):=Ky bp (by unfold eM;decide) (by unfold eM;decide) bp rfl (by show nN [af 1 1 1] jv<=4096;rw[a3B];decide)
 have h3:Gw NB (.net nE jv [af 1 1 1])=some [⟨0,[1,1]⟩]:=by
  unfold Gw;simp only;rw[if_pos (h' _),a09]
 have h4:kq NB (.net nE jv [af 1 1 1]) 2 0 [⟨1,1,⟨#[]⟩⟩,⟨1,2,⟨#[]⟩⟩]=some (0,.net nE jv [af 1 1 1,af 2 1 2]):=Ky bp (by unfold eM;decide) (by unfold eM;decide) bp rfl (by show nN [af 1 1 1,af 2 1 2] jv<=4096;rw[a3C];decide)
 have h5:Gw NB (.net nE jv [af 1 1 1,af 2 1 2])=some [⟨0,[1,1]⟩,⟨0,[1,2]⟩]:=by
  unfold Gw;simp only;rw[if_pos (h' _),a0a]
 have h6:Kq NB (.net nE jv [af 1 1 1,af 2 1 2]) 1=some (0,.net nE jv [af 2 1 2]):=by
  unfold Kq;simp only;rw[if_pos ⟨h' _,bp⟩]
  have e:Gq jv [af 1 1 1,af 2 1 2] 1=([af 2 1 2],0):=by
   unfold Gq;rw[if_pos Ev];exact if_pos (by show nN [af 2 1 2] jv<=4096;rw[a3D];decide)
  rw[e]
 have h7:Gw NB (.net nE jv [af 2 1 2])=some []:=by
  unfold Gw;simp only;rw[if_pos (h' _),a0b]
 have h8:Kq NB (.net nE jv [af 2 1 2]) 1=some (6,.net nE jv [af 2 1 2]):=by
  unfold Kq;simp only;rw[if_pos ⟨h' _,bp⟩]
  have e:Gq jv [af 2 1 2] 1=([af 2 1 2],6):=by
   unfold Gq;exact if_neg bp
  rw[e]
 unfold ο J';rw[h1,Q1,Q1,U,Q1];simp only;rw[h3,Q1,Q1,h4,Q1];simp only;rw[h5,Q1,h6,Q1];simp only;unfold Q5J;simp only[h7,h8,Cl,Q1];rfl
theorem J7 {N:Nat} (hN:9223372036854775808<=N) {l:aq QU} (hl:l.length<=140737488351232)(ha:∀d∈l,d.fact.args.length<=4398046511104):∃b,χ N l=some b/\(b=true->l.length<=40/\∀d∈l,d.fact.args.length<=20/\∀v∈d.fact.args,v.s.size<=100):=by
 have inner:∀i,i<l.length->∀d,l[i]? =some d->∃o,fp (YS N l i) N 0=some o/\(o=.inl ()/\(∀v∈d.fact.args,v.s.size<=100)\/o=.inr (.inr (.inr false))):=by
  intro i hi d hd;refine HY (f:=YS N l i) (λj=>j<=d.fact.args.length/\∀v∈d.fact.args.take j,v.s.size<=100) (λj=>d.fact.args.length-j) _ (λj hj=>?_) N 0 ⟨B' _,bh⟩ (by have:=ha d (r' hd);omega);obtain⟨h1,h2⟩:=hj;unfold YS;rw[hd,Q1];by_cases cj:j<d.fact.args.length
  ·rw [cg cj,Q1,c' cj,Q1];by_cases hs:100<d.fact.args[j].s.size
   ·rw[cg hs];exact .inr ⟨_,rfl,.inr rfl⟩
   ·rw [ct hs,QC (by have:=ha d (r' hd);omega)];refine .inl ⟨_,rfl,⟨au,λv U=>?_⟩,au⟩;rw[E',c' cj]at U;rcases u'.1 U with U|U;· exact h2 v U
    ·have:v=d.fact.args[j]:=by simpa using U
     rw[this];omega
  ·rw[ct cj];refine .inr ⟨_,rfl,.inl ⟨rfl,?_⟩⟩;rw[p' au]at h2;exact h2
 have outer:∃o,fp (YR N l) N 0=some o/\(o=.inl ()/\(∀d∈l,d.fact.args.length<=20/\∀v∈d.fact.args,v.s.size<=100)\/o=.inr false):=by
  refine HY (f:=YR N l) (λi=>i<=l.length/\∀d∈l.take i,d.fact.args.length<=20/\∀v∈d.fact.args,v.s.size<=100) (λi=>l.length-i) _ (λi hi=>?_) N 0 ⟨B' _,bh⟩ au;obtain⟨h1,h2⟩:=hi;unfold YR;by_cases cj:i<l.length
  ·have hd:=c' cj;rw[cg cj,hd,Q1];by_cases h20:20<l[i].fact.args.length
   ·rw[cg h20,B5];exact .inr ⟨_,rfl,.inr rfl⟩
   ·rw [ct h20];obtain⟨o,ho,hr⟩:=inner i cj _ hd;rw[ho];rcases hr with⟨rfl,U⟩|rfl
    ·rw [lH,QC au];refine .inl ⟨_,rfl,⟨au,λd BL=>?_⟩,au⟩;rw[E',hd]at BL;rcases u'.1 BL with BL|BL;· exact h2 d BL
     ·have:d=l[i]:=by simpa using BL
      rw[this];exact⟨au,U⟩
    ·rw[B5];exact .inr ⟨_,rfl,.inr rfl⟩
  ·rw[ct cj];refine .inr ⟨_,rfl,.inl ⟨rfl,?_⟩⟩;rw[p' au]at h2;exact h2
 obtain⟨o,ho,hr⟩:=outer;unfold χ;rw[ho];rcases hr with⟨rfl,U⟩|rfl
 ·rw[lH];exact⟨_,rfl,λh=>⟨by simpa using h,U⟩⟩
 ·rw[B5];exact⟨_,rfl,λh=>by cases h⟩
end
section
open Go Go.RowKit
theorem RT {R:P9} (hR:Q7V R)(hl:∀r∈R.rules,ki r):newN NB R.types R.rules=some (if DC R.types R.rules=true then .net R.types R.rules []else .nil):=by
 have L:∀r∈R.rules,(∀c∈r.conds,c.args.length<=1000/\nodes c.test<=1000)/\∀a∈r.acts,pM a.exprs<=1000000:=λr U=>⟨λc hc=>⟨by have:=((hl r U).1 c hc).1;omega,by have:=((hl r U).1 c hc).2;omega⟩,λa ha=>by have:=(hl r U).2 a ha;unfold pQ at this;omega⟩
 by_cases h:DC R.types R.rules=true
 ·rw[if_pos h];exact if_pos ⟨h' _,h,hR.2.2,L⟩
 ·rw[if_neg h];unfold newN;rw[if_neg λhh=>h hh.2.right,Q9t bp λr U=>⟨λc hc=>⟨((L r U).1 c hc).1,by have:=((L r U).1 c hc).2;omega⟩,(L r U).2⟩,if_pos];cases e:DC R.types R.rules with
  |true=>exact absurd e h
  |false=>rfl
theorem Bq {S:lO}:∀{cs:aq Qq} {hs:aq Bool} {vs:aq V},jk S [] cs hs vs<=cs.length
 |[],_,_=>h' _
 | c ::cs,hs,vs=>by
   have U:=Bq (S:=S) (cs:=cs) (hs:=hs) (vs:=vs);rw[jk,q'];split
   ·split;· omega
    · omega
   ·split
    ·split;· omega
     · omega
    · exact B' _
theorem sum_nil:∀{rs:aq Q8},(∀r∈rs,r.conds.length<=8)->nN [] rs<=8*rs.length
 |[],_=>h' _
 | r::rs,h=>by
   have h1:=sum_nil (rs:=rs) λx U=>h x (t' _ U);have h2:=h r k';have h3:lR [] r<=r.conds.length:=Bq;rw[nN,q'];omega
theorem IU {N:Nat} {l:aq Int} (U:l.length<N)(hl:l.length<=9223372036854775807):θ N l l=some true:=by
 unfold θ;rw[if_neg bh,y0 l.length ?_ ?_ U,lH]
 ·intro i hi;unfold Χ;rw[cg hi,c' hi,Q1,Q1,if_neg bh,QC au]
 ·unfold Χ;rw[if_neg bh]
theorem Jn {N:Nat} {l:aq Qb} (U:∀t∈l,t.ids.length<=8)(h9:8<N)(hN:l.length<N)(hl:l.length<=9223372036854775807):ξ N l l=some true:=by
 unfold ξ;rw[if_neg bh,y0 l.length ?_ ?_ hN,lH]
 ·intro i hi;unfold Ν Q4B;have h:=U _ (o' hi);rw[cg hi,c' hi,Q1,Q1,if_pos bh,IU au au,Q1,Q1,if_neg bh,QC au]
 ·unfold Ν;rw[if_neg bh]
section
variable {ts:aq Q9} {rs:aq Q8} {F:aq Qg} {f:Qg} {id:Int}
theorem Ha:∀{l r:aq Qg},(∀g∈l,g.id<f.id)->(∀g∈r,f.id<g.id)->mz f (l++r)=l++f::r
 |[],[],_,_=>rfl
 |[],g::r,_,h=>by rw[j',mz,if_pos (h g k')];rfl
 | g::l,r,h,U=>by
   rw[List.cons_append,mz,if_neg (by have:=h g k';omega),Ha (λx hx=>h x (t' _ hx)) U];rfl
theorem a02 (hR:tR F)(hl:F.length<=1000000)(d:QU):∃k,fp (YN NB F d) NB 0=some k/\k<=F.length/\(∀g∈F.take k,g.id<d.fact.id)/\∀g∈F.drop k,d.fact.id<=g.id:=by
 refine HY (f:=YN NB F d) (λi=>i<=F.length/\∀g∈F.take i,g.id<d.fact.id) (λi=>F.length-i) _ (λi hi=>?_) NB 0 ⟨B' _,λg U=>by cases U⟩ (by show F.length-0<9223372036860000000;omega);obtain⟨h1,h2⟩:=hi;unfold YN;by_cases cj:i<F.length
 ·rw [cg cj,c' cj,Q1,Q1];by_cases hb:F[i].id<d.fact.id
  ·rw [cg hb,QC au];refine .inl ⟨_,rfl,⟨au,λg U=>?_⟩,au⟩;rw[E',c' cj]at U;rcases u'.1 U with U|U;· exact h2 g U
   ·have:g=F[i]:=by simpa using U
    rw[this];exact hb
  ·rw[ct hb];refine .inr ⟨_,rfl,h1,h2,λg U=>?_⟩;have hp:=List.Pairwise.sublist (b! i F) hR;rw[i' cj]at U hp;rcases f'.1 U with rfl|U;· omega
   ·have:=(a!.1 hp).1 g U;omega
 ·rw[ct cj,Q1,if_neg bh];exact .inr ⟨_,rfl,h1,h2,λg U=>by rw[l' au]at U;cases U⟩
structure Ui (ts:List Q9) (rs:List Q8) (k:Nat) (F:List Qg) (x:fW):Prop where
 net:x=.net ts rs F
 ris:tR F
 right:sT ts 0 F=true
 len:F.length<=k
 few:nN F rs<=4096
 ok:∀g∈F,oy g
theorem XB {R:P9} (hR:Q7V R) (hq:∀r∈R.rules,ki r) (hr:DC R.types R.rules=true) {l:aq QU} (hl:l.length<=40) (ok:∀d∈l,Q4R d):
  ∃o,fp (YM NB l R.types R.rules) NB (0,[],.net R.types R.rules [])=some o/\o=.inl ():=by
 obtain⟨h64,h8⟩:=Qda hr;refine HY (f:=YM NB l R.types R.rules) (λs=>s.1<=l.length/\Ui R.types R.rules s.1 s.2.1 s.2.2) (λs=>l.length-s.1) _ (λs hs=>?_) NB _ ⟨B' _,rfl,List.Pairwise.nil,rfl,h' _,by have:=sum_nil h8;show nN [] R.rules<=4096;omega,λg U=>by cases U⟩ (by show l.length-0<9223372036860000000;omega);obtain⟨i,F,x⟩:=s;obtain⟨g1,hB⟩:=hs;simp only at g1 hB;obtain⟨rfl,b1,b2,b3,b4,b5⟩:=hB;unfold YM;simp only;by_cases hi:i<l.length
 ·left;have hd:=(ok _ (o' hi)).2;obtain⟨k,k0,k1,k2,k3⟩:=a02 b1 au l[i];rw[cg hi,c' hi,Q1,k0,Q1]
  have key:∃F' x',Q3d NB l i (.net R.types R.rules F) l[i] F k=some (.inl (F',x'))/\Ui R.types R.rules (i+1) F' x':=by
   unfold Q3d;rw[c' hi,Q1];have hF:F=F.take k++F.drop k:=(M' k F).symm;have stay:Ui R.types R.rules (i+1) F (.net R.types R.rules F):=⟨rfl,b1,b2,au,b4,b5⟩
   have tl:(F.take k).length=k:=by rw[List.length_take];omega
   have dl:(F.drop k).length=F.length-k:=c!;cases hdr:l[i].drop with
   | true=>
     rw[if_pos rfl];unfold Kq;simp only;rw[if_pos ⟨h' _,au⟩,Q1];simp only;unfold Gq;by_cases ha:(F.any λg=>decide (g.id=l[i].fact.id))=true
     ·rw [if_pos ha];obtain⟨g,U,he⟩:=d!.1 ha;have he:g.id=l[i].fact.id:=by simpa using he
      have hgd:g∈F.drop k:=by
       rw[hF]at U;rcases u'.1 U with U|U;· have:=k2 g U;omega
       · exact U
      have hk:k<F.length:=by
       rcases Nat.lt_or_ge k F.length with h|h;· exact h
       · rw[l' h]at hgd;cases hgd
      have hp:=List.Pairwise.sublist (b! k F) b1;have ry:=i' hk;have hk3:=k3 F[k] (by rw[ry];exact k');rw[ry]at hp hgd;have TP:=(a!.1 hp).1
      have hke:F[k].id=l[i].fact.id:=by
       rcases f'.1 hgd with rfl|h;· exact he
       · have:=TP g h;omega
      have lD:jm l[i].fact.id F=F.take k++F.drop (k+1):=by
       conv=>lhs;rw[hF,ry]
       unfold jm;rw[List.filter_append,List.filter_cons_of_neg (du hke),T'.2 (λg U=>decide_eq_true (by have:=k2 g U;omega)),T'.2 (λg U=>decide_eq_true (by have:=TP g U;omega))]
      by_cases hs:nN (jm l[i].fact.id F) R.rules<=4096
      ·rw[if_pos hs];simp only;rw[if_pos (show((0:Nat)==0)=true from rfl),if_neg fh,c' hk,Q1,Q1,ct hke,QC au,QC (by rw[tl];simp;omega),QC au,QC au,QC (by rw[j',tl,c!];omega)];refine⟨_,_,rfl,?_⟩;rw[j',<-lD];exact⟨rfl,b1.del,mH b2,a' (List.length_filter_le _ _) au,hs,λg U=>b5 g (List.mem_filter.1 U).1⟩
      ·rw[if_neg hs];simp only;rw[if_neg bp];exact⟨_,_,rfl,stay⟩
     ·rw[if_neg ha];simp only;rw[if_neg bp];exact⟨_,_,rfl,stay⟩
   | false=>
     rw[if_neg bh];unfold kq;simp only;rw[if_pos ⟨h' _,au,⟨by have:=hd.2.2.1;omega,λv hv=>MF (hd.2.2.2 v hv)⟩⟩,Q1];simp only;rw[show(⟨l[i].fact.id,l[i].fact.ty,l[i].fact.args⟩:Qg)=l[i].fact from rfl];unfold nR;by_cases hf:AM R.types 0 l[i].fact=true
     ·rw [if_pos hf];by_cases ha:(F.any λg=>decide (g.id=l[i].fact.id))=true
      ·rw[if_pos ha];exact⟨_,_,if_neg bh,stay⟩
      ·rw [if_neg ha];by_cases hs:nN (mz l[i].fact F) R.rules<=4096
       ·rw [if_pos hs];have hn:∀g∈F,g.id≠l[i].fact.id:=λg U e=>ha (d!.2 ⟨g,U,decide_eq_true e⟩)
        have ID:mz l[i].fact F=F.take k++l[i].fact::F.drop k:=by
         conv=>lhs;rw[hF]
         exact Ha k2 λg U=>by
          have h1:=k3 g U;have h2:=hn g (List.mem_of_mem_drop U);omega
        refine⟨mz l[i].fact F,.net R.types R.rules (mz l[i].fact F),?_,rfl,b1.ins hn,mI b2 hf hn,by rw[uQ];omega,hs,λg U=>?_⟩
        ·rw[if_pos (show((0:Nat)==0)=true from rfl),QC au,QC (by rw[tl];simp;omega),QC (by rw[j',tl];simp;omega),QC au,QC (by rw[j',List.length_append,tl,dl];simp;omega),j',A',ID];rfl
        ·rcases Qd4.1 U with rfl|U;· exact hd
         · exact b5 g U
       ·rw[if_neg hs];exact⟨_,_,if_neg bh,stay⟩
     ·rw[if_neg hf];exact⟨_,_,if_neg bh,stay⟩
  obtain⟨F',x',e1,hB'⟩:=key;rw[e1,lH];simp only;obtain⟨rfl,c1,c2,c3,c4,c5⟩:=hB';have a3i:=Jm (N:=NB) bp (types:=R.types) (rules:=R.rules) (facts:=F') (λr hrm=>⟨hq r hrm,IZ (hq r hrm) (hR.2.2 r hrm) au c5⟩) au (λf hf=>(c5 f hf).2.2.1);have hrt:A9 R.types R.rules F'=true:=by unfold A9;rw[hr,c2];rfl
  have ZN:=xJ F' R.rules 0;have hNB:NB=9223372036860000000:=rfl;rw[a3i,if_pos hrt,if_pos c4,Q1];simp only;unfold Gw;simp only;rw[if_neg bp,if_pos (h' _),Q1,Jn (λt ht=>Ir h8 ht) bp au au,Q1,Q1,if_neg bh,QC au];exact⟨_,rfl,⟨by show i+1<=_;omega,rfl,c1,c2,c3,c4,c5⟩,by show l.length-(i+1)<l.length-i;omega⟩
 ·rw[ct hi];exact .inr ⟨_,rfl,rfl⟩
end
theorem xd (R:P9)(hR:Q7V R)(l:aq QU)(hl:l.length<=140737488351232/\∀d∈l,Q4R d):Q3T NB R.types R.rules l=some true:=by
 obtain⟨b,hb,M9⟩:=Mu (N:=NB) bp hR;unfold Q3T;rw[KD,Q1,if_neg bh,hb,Q1];cases b with
 |false=>rfl
 | true=>
   obtain⟨p,hp,U⟩:=J7 (N:=NB) bp (l:=l) au (λd hd=>by have:=(hl.2 d hd).2.2.2.1;omega);rw[if_neg bh,hp,Q1,Q1];cases p with
   |false=>rfl
   | true=>
     rw[if_neg bh,RT hR (M9 rfl),Q1];by_cases hr:DC R.types R.rules=true
     ·rw[if_pos hr];rw[if_neg (show¬(fW.net R.types R.rules []).isNil=true from nofun)];obtain⟨o,e,rfl⟩:=XB hR (M9 rfl) hr (U rfl).1 hl.2;rw[e,lH]
     ·rw[if_neg hr];rfl
end
end Go.Proofs.YtocfkfhdcnjklaaGreatDoor
