import Derived.Test.YtocfkfhdcnjklaaGreatDoorNaivR
import Derived.Test.YtocfkfhdcnjklaaGreatDoorYW1
import Derived.LoopN
open Option renaming map->a',map_eq_some_iff->B'
open List renaming mem_singleton->b',getElem?_eq_getElem->c',mem_cons->d',mem_cons_self->f',mem_append->j',mem_of_getElem?->l',mem_cons_of_mem->n',getElem_mem->o',take_of_length_le->q',length_cons->r',mem_append_left->t',take_add_one->u',length_singleton->C',mem_append_right->D',pairwise_cons->G',any_eq_true->K',all_cons->O'
open Nat renaming le_refl->e',eq_of_beq_eq_true->k',zero_le->p',mod_eq_of_lt->x',le_trans->A',sub_add_cancel->I',add_mod_right->J',not_lt_zero->L',beq->P'
open Bool renaming and_eq_true->g',true_and->M'
open Int renaming tmod->i',toNat_of_nonneg->E'
namespace Go.Proofs.YtocfkfhdcnjklaaGreatDoor
section
open Go Go.RowKit Classical
inductive db where
 |nil
 |zero
 |net (ts:List Qa) (rules:List Q9) (facts:List Qo)
variable {R R':Value->List Fact->List Fact->Prop}{w:World}{f:FuncId}{args:List Value}
def db.isNil:db->Bool
 | .nil=>true
 |_=>false
def RZ:List Value:=[.slice none 0 0,.slice none 0 0,.map none,.map none,.int .i64 0]
def B2 (o:Option Nat)(x:db)(N F:ep)(w:World):Prop:=match o,x with
 |none,.nil=>True
 |some a,.zero=>(Fact.blk a RZ 85).op N F w
 |some a,.net ts rules facts=>∃s,z6 ts rules facts a s/\nM gg s N F w
 |_,_=>False
theorem B2.good {o:Option Nat} {x:db} {N N' F G:ep} {w U:World} (hN:∀k,N k->N' k)(ha:ia N w U)(hF:∀k,F k->G k)(hb:ia F w U)(h:B2 o x N F w):B2 o x N' G U:=by
 cases o with
 |none=>cases x<;>exact h
 | some a=>cases x with
   |nil=>exact h
   |zero=>exact⟨hN _ h.1,(ha a h.1).trans h.2⟩
   | net ts rules facts=>
     obtain⟨s,h1,h2⟩:=h;exact⟨s,h1,h2.good hN ha hF hb⟩
def ix (o:Option Nat)(x:db):Fact:=.duo (λN F w=>B2 o x N F w) B2.good
theorem B2.isNil {o:Option Nat} {x:db} {N F:ep} {w:World} (h:B2 o x N F w):(a' pA o).isNone=x.isNil:=by
 cases o<;>cases x<;>first|rfl|exact h.elim
theorem oP {C:Ctx} {e:Ending} (h:tD C R e w)(hR:∀v bo Hr,R v bo Hr->Ql C bo Hr w->∃wX U,R' v wX U/\Ql C wX U w):tD C R' e w:=by
 obtain⟨v,bo,Hr,h1,h2,h3⟩:=h;obtain⟨wX,U,h4,h5⟩:=hR v bo Hr h2 h3;exact⟨v,wX,U,h1,h4,h5⟩
theorem sZ {P:Program} {Φ:List Fact} {K:Fact} {p:Qc->Prop} (hK:∀N F w,K.op N F w->∃s,p s/\(Q3 gg s).op N F w)(h:∀s,p s->QD P f args Φ [Q3 gg s] R)
  (hR:∀C v U Hr w,R v U Hr->Ql C U Hr w->∃wX NP,R' v wX NP/\Ql C wX NP w):QD P f args Φ [K] R':=λF N w hF eo hH gj F2=>by
 obtain⟨s,h1,h2⟩:=hK _ _ _ (hH 0 K rfl)
 have hc:=h s h1 F N w hF eo (λi q hi=>by
  cases i with
  |zero=>cases hi;exact h2
  |succ i=>simp at hi) gj F2
 exact hc.mono λe w' hr=>oP hr λv U Hr=>hR _ v U Hr w'
theorem CP {P:Program} {Φ:List Fact} (h:QD P f args Φ [Q3 gg (λ_=>none)] R)
  (hR:∀C v U Hr w,R v U Hr->Ql C U Hr w->∃wX NP,R' v wX NP/\Ql C wX NP w):QD P f args Φ [] R':=λF N w hF eo _ _ _=>by
 have hc:=h F (λ_ _=>False) w hF eo (λi q hi=>by
  cases i with
  | zero=>
    cases hi;exact⟨λ_ _=>False,λ_ _ h=>h.elim,λ_ _ _ _ h=>h.elim,λa o h=>by cases h⟩
  |succ i=>simp at hi) (λ_ _ _ h=>h.elim) (λ_ _ _ _ _ _ h=>h.elim)
 have e:(λk=>∃i,i<[Q3 gg (λ_=>none)].length/\(λ(_:Nat) (_:Nat)=>False) i k)=(λk=>∃i,i<([]:List Fact).length/\N i k):=by
  funext k;refine propext ⟨λ⟨_,_,h⟩=>h.elim,λ⟨_,h,_⟩=>absurd h (L' _)⟩
 rw[e]at hc;exact hc.mono λe w' hr=>oP hr λv U Hr=>hR _ v U Hr w'
theorem uI {C:Ctx} {a:Nat} {ts:List Qa} {rules:List Q9} {facts:List Qo} {s:Qc} {H:List Fact} {Φ:List Fact} {k:Nat} (h:Ql C Φ H w)(hk:H[k]? =some (Q3 gg s))(U:z6 ts rules facts a s):Ql C Φ (H.set k (ix (some a) (.net ts rules facts))) w:=
 h.as_ k hk λ_ _ hp=>⟨s,U,hp⟩
abbrev NB:Nat:=9223372036860000000
def JR (l:List V):Prop:=l.length<=4398046511104/\∀v∈l,qp v
noncomputable def newN (N:Nat)(ts:List Qa)(rules:List Q9):Option db:=
 if NB<=N/\sG ts rules then some (.net ts rules [])
 else if Si N ts rules=some false then some .nil
 else none
noncomputable def Gi (N:Nat)(x:db)(id ty:Int)(l:List V):Option (Nat×db):=match x with
 | .net ts rules facts=>if NB<=N/\facts.length<=1000000/\JR l then some ((kE ts rules facts ⟨id,ty,l⟩).2,.net ts rules (kE ts rules facts ⟨id,ty,l⟩).1)else none
 |_=>none
noncomputable def Jn (N:Nat)(x:db)(id:Int):Option (Nat×db):=match x with
 | .net ts rules facts=>if NB<=N/\facts.length<=1000000 then some ((AJ rules facts id).2,.net ts rules (AJ rules facts id).1)else none
 |_=>none
noncomputable def Em (N:Nat)(x:db):Option (List Qy):=match x with
 | .net _ rules facts=>if NB<=N then some (Bb facts rules 0)else none
 |_=>none
def rp (_:Nat)(x:db):Option Nat:=match x with
 | .net _ _ facts=>some facts.length
 |_=>none
theorem H3 {N:Nat} (h:NB<=N):B0+4000000<=N:=A' bf h
section
variable {N:Nat} {o:Option Nat} {x y:db}
variable {k:Nat}{ts:List Qa}{rules:List Q9}{facts:List Qo}{id:Int}
theorem WD {a:Option Nat} {M F:ep} {w:World} (h:(ix a (.net ts rules facts)).op M F w):∃b,a=some b/\∃s,z6 ts rules facts b s/\(Q3 gg s).op M F w:=by
 cases a with
 |none=>exact h.elim
 |some b=>exact⟨b,rfl,h⟩
theorem QcN {P:Program} {f:FuncId} {args:Option Nat->List Value} {Φ:List Fact} {R:Option Nat->Value->List Fact->List Fact->Prop} (h:∀b,o=some b->QD P f (args o) Φ [ix o (.net ts rules facts)] (R o)):QD P f (args o) Φ [ix o (.net ts rules facts)] (R o):=λF M w hF eo hH gj U=>by
 obtain⟨b,e,_⟩:=WD (hH 0 _ rfl);exact h b e F M w hF eo hH gj U
theorem a1v {bu ej:Option Addr} {bx ei:Nat} {U:List Qa} {l1:List Q9} (h:newN N U l1=some x):QD Tryz.prog 13 [.agg #[.slice bu U.length bx,.slice ej l1.length ei]] [.sli 2 Qd bu bx U,.sli 5 Qe ej ei l1,tF] [] (λv bo Hr=>∃o:Option Nat,v=.pointer (a' pA o)/\bo=[]/\Hr=[ix o x]):=by
 unfold newN at h;split at h
 ·rename_i hc;cases h;refine CP (pr N bu bx U ej ei l1 (λ_=>none) (λq=>∃a,q.1=some a/\z6 U l1 [] a q.2) (WG (H3 hc.1) hc.2 λa s' hn=>⟨a,rfl,hn⟩)) ?_;rintro C v bo Hr w ⟨o0,o1,⟨a,h1,h2⟩,rfl,rfl,rfl⟩ hh;subst h1;exact⟨[],[ix (some a) (.net U l1 [])],⟨some a,rfl,rfl,rfl⟩,uI hh (k:=0) rfl h2⟩
 ·split at h
  ·rename_i hc;cases h;refine CP (pr N bu bx U ej ei l1 (λ_=>none) (λq=>q.1=none) ?_) ?_
   ·unfold Yd;exact Qk hc (kU rfl rfl)
   ·rintro C v bo Hr w ⟨o0,o1,h1,rfl,rfl,rfl⟩ hh;have h1:o0=none:=h1;subst h1;exact⟨[],[ix none .nil],⟨none,rfl,rfl,rfl⟩,hh.as_ 0 rfl λ_ _ _=>trivial⟩
  · cases h
theorem a02 {ty:Int} {p:Option Addr} {c:Nat} {l:List V} (h:Gi N x id ty l=some (k,y)):QD Tryz.prog 20 [.pointer (a' pA o),.agg #[.int .i64 id,.int .i64 ty,.slice p l.length c]] [.sli 3 dw p c l] [ix o x] (λv U Hr=>v=.int .i64 ((k:Nat):Int)/\U=[]/\Hr=[ix o y]):=by
 unfold Gi at h;split at h
 ·rename_i ts rules facts;split at h
  ·rename_i hc;cases h;refine QcN (args:=λo=>[.pointer (a' pA o),.agg #[.int .i64 id,.int .i64 ty,.slice p l.length c]]) (R:=λo v U Hr=>v=.int .i64 _/\U=[]/\Hr=[ix o _]) λa e=>?_
   subst e;refine sZ (p:=z6 ts rules facts a) (λ_ _ _ h=>h) (λs hs=>qB N a id ty p c l s (λq=>q.1=(kE ts rules facts ⟨id,ty,l⟩).2/\z6 ts rules (kE ts rules facts ⟨id,ty,l⟩).1 a q.2) (Uu (f:=⟨id,ty,l⟩) (H3 hc.1) hs hc.2.1 hc.2.2.1 hc.2.2.2 λs' hn=>⟨rfl,hn⟩)) ?_;rintro C v U Hr w ⟨o0,o1,⟨h1,h2⟩,rfl,rfl,rfl⟩ hh;have h1:o0=_:=h1;subst h1;exact⟨[],_,⟨rfl,rfl,rfl⟩,uI hh (k:=0) rfl h2⟩
  · cases h
 · cases h
theorem UM (h:Jn N x id=some (k,y)):QD Tryz.prog 18 [.pointer (a' pA o),.int .i64 id] [] [ix o x] (λv U Hr=>v=.int .i64 ((k:Nat):Int)/\U=[]/\Hr=[ix o y]):=by
 unfold Jn at h;split at h
 ·rename_i ts rules facts;split at h
  ·rename_i hc;cases h;refine QcN (args:=λo=>[.pointer (a' pA o),.int .i64 id]) (R:=λo v U Hr=>v=.int .i64 _/\U=[]/\Hr=[ix o _]) λa e=>?_
   subst e;refine sZ (p:=z6 ts rules facts a) (λ_ _ _ h=>h) (λs hs=>pq N a id s (λq=>q.1=(AJ rules facts id).2/\z6 ts rules (AJ rules facts id).1 a q.2) (Pq (H3 hc.1) hs hc.2 λs' hn=>⟨rfl,hn⟩)) ?_;rintro C v U Hr w ⟨o0,o1,⟨h1,h2⟩,rfl,rfl,rfl⟩ hh;have h1:o0=_:=h1;subst h1;exact⟨[],_,⟨rfl,rfl,rfl⟩,uI hh (k:=0) rfl h2⟩
  · cases h
 · cases h
theorem a1T {l:List Qy} (h:Em N x=some l):QD Tryz.prog 27 [.pointer (a' pA o)] [] [ix o x] (λv U Hr=>∃(p:Option Addr)(c:Nat)(n:Nat),v=.slice p n c/\U=[]/\Hr=[.own 101 2 QY (.slice p n c) l,ix o x]):=by
 unfold Em at h;split at h
 ·rename_i ts rules facts;split at h
  ·rename_i hc;cases h;refine QcN (args:=λo=>[.pointer (a' pA o)]) (R:=λo v U Hr=>∃(p:Option Addr) (c:Nat) (n:Nat),v=.slice p n c/\U=[]/\Hr=[.own 101 2 QY (.slice p n c) _,ix o _]) λa e=>?_
   subst e;refine sZ (p:=z6 ts rules facts a) (R:=λv U Hr=>∃s,z6 ts rules facts a s/\∃(p:Option Addr) (c:Nat) (n:Nat),v=.slice p n c/\U=[]/\Hr=[.own 101 2 QY (.slice p n c) (Bb facts rules 0),Q3 gg s]) (λ_ _ _ h=>h) (λs hs=>?_) ?_
   ·intro F M w hF eo hH gj F2;refine(QcV N a s (λl=>l=Bb facts rules 0) (Xy (H3 hc) hs rfl) F M w hF eo hH gj F2).mono λe w' hr=>oP hr ?_
    rintro v U Hr ⟨o2,o0,o1,o3,rfl,rfl,rfl,rfl⟩ hh;exact⟨_,_,⟨s,hs,o0,o1,o3,rfl,rfl,rfl⟩,hh⟩
   ·rintro C v U Hr w ⟨s,hs,p,c,n,rfl,rfl,rfl⟩ hh;exact⟨[],_,⟨p,c,n,rfl,rfl,rfl⟩,uI hh (k:=1) rfl hs⟩
  · cases h
 · cases h
theorem a1m (h:rp N x=some k):QD Tryz.prog 25 [.pointer (a' pA o)] [] [ix o x] (λv U Hr=>v=.int .i64 ((k:Nat):Int)/\U=[]/\Hr=[ix o x]):=by
 unfold rp at h;split at h
 ·rename_i ts rules facts;cases h;refine QcN (args:=λo=>[.pointer (a' pA o)]) (R:=λo v U Hr=>v=.int .i64 _/\U=[]/\Hr=[ix o _]) λa e=>?_
  subst e;refine sZ (p:=z6 ts rules facts a) (R:=λv U Hr=>∃s,z6 ts rules facts a s/\v=.int .i64 ((facts.length:Nat):Int)/\U=[]/\Hr=[Q3 gg s]) (λ_ _ _ h=>h) (λs hs=>?_) ?_
  ·intro F M w hF eo hH gj F2;refine(qC NB a s (λl=>l=facts.length) (Wz hs rfl) F M w hF eo hH gj F2).mono λe w' hr=>oP hr ?_
   rintro v U Hr ⟨o0,rfl,rfl,rfl,rfl⟩ hh;exact⟨_,_,⟨s,hs,rfl,rfl,rfl⟩,hh⟩
  ·rintro C v U Hr w ⟨s,hs,rfl,rfl,rfl⟩ hh;exact⟨[],_,⟨rfl,rfl,rfl⟩,uI hh (k:=0) rfl hs⟩
 · cases h
theorem Me (bu:Option Addr)(bx:Nat)(U:List Qa)(ej:Option Addr)(ei:Nat)(l1:List Q9)(x:db)(h:newN N U l1=some x):QD Tryz.prog 13 [.agg #[.slice bu U.length bx,.slice ej l1.length ei]] [.sli 2 Qd bu bx U,.sli 5 Qe ej ei l1,tF] [] (λv bo Hr=>∃o:Option Nat,v=.pointer (a' pA o)/\bo=[]/\Hr=[ix o x]):=a1v h
theorem Bf (o:Option Nat)(x:db)(id ty:Int)(p:Option Addr)(c:Nat)(l:List V)(k:Nat)(y:db)(h:Gi N x id ty l=some (k,y)):QD Tryz.prog 20 [.pointer (a' pA o),.agg #[.int .i64 id,.int .i64 ty,.slice p l.length c]] [.sli 3 dw p c l] [ix o x] (λv U Hr=>v=.int .i64 ((k:Nat):Int)/\U=[]/\Hr=[ix o y]):=a02 h
theorem ED (o:Option Nat)(x:db)(id:Int)(k:Nat)(y:db)(h:Jn N x id=some (k,y)):QD Tryz.prog 18 [.pointer (a' pA o),.int .i64 id] [] [ix o x] (λv U Hr=>v=.int .i64 ((k:Nat):Int)/\U=[]/\Hr=[ix o y]):=UM h
theorem Dd (o:Option Nat)(x:db)(l:List Qy)(h:Em N x=some l):QD Tryz.prog 27 [.pointer (a' pA o)] [] [ix o x] (λv U Hr=>∃(p:Option Addr)(c:Nat)(n:Nat),v=.slice p n c/\U=[]/\Hr=[.own 101 2 QY (.slice p n c) l,ix o x]):=a1T h
theorem M9 (o:Option Nat)(x:db)(k:Nat)(h:rp N x=some k):QD Tryz.prog 25 [.pointer (a' pA o)] [] [ix o x] (λv U Hr=>v=.int .i64 ((k:Nat):Int)/\U=[]/\Hr=[ix o x]):=a1m h
end
section
variable {P:Program} {C:Ctx} {n:FD} {Q:Exit->Act->World->Prop} {Φ H:List Fact} {S:List (Nat×Value)} {o:Option Nat} {x:db}
theorem Rm {w:World} (h:Ql C Φ H w) {k:Nat} (hk:H[k]? =some (ix o x)):(a' pA o).isNone=x.isNil:=by
 obtain⟨F,M,hi⟩:=h;exact B2.isNil (hi.owns k _ hk)
theorem QcR {ops:Array Oper} {rest:List Oper} (k:Nat)(hk:H[k]? =some (ix o x))(next:(a' pA o).isNone=x.isNil->WL P C n Q Φ H S ops rest):WL P C n Q Φ H S ops rest:=
 λa w U hw=>next (Rm hw hk) a w U hw
theorem UO {P:Program} {t e:Nat} (U:qy P t=some e)(n:Nat)(a b:Option Addr)(h:(a.isNone||b.isNone)=true)(w:World):(Op.equalIn (n+1) t (.pointer a) (.pointer b)).run P w=.ok (a.isNone&&b.isNone) w:=by
 cases a<;>cases b<;>simp at h<;>simp[Op.equalIn,run_underlying (D5 U)]
theorem a0e {P:Program} {t e:Nat} (ht:qy P t=some e)(x y:Operand)(a b:Option Addr)(h:(a.isNone||b.isNone)=true)(w:World):(do eqGuard .eql t x y (.pointer a) (.pointer b);binOp .eql t (.pointer a) (.pointer b):Sem Value).run P w=.ok (.bool (a.isNone&&b.isNone)) w:=by
 rw[Sem.run_bind,show(eqGuard .eql t x y (.pointer a) (.pointer b)).run P w=.ok () w from rfl,Result.andThen_ok];have U:=UO ht 9999 a b h w;simp only[binOp];simp[Op.equal,Op.maxDepth,U]
end
end
section
open Go Go.RowKit
def zV:V:=⟨0,0,⟨#[]⟩⟩
def zE:Q4:=⟨0,zV,0,0,[]⟩
def nF:List Qa:=[⟨⟨#[112]⟩,2⟩]
def jR:List Q9:=[⟨⟨#[114]⟩,0,2,[⟨1,0,[⟨2,0,zV⟩,⟨4,0,⟨1,1,⟨#[]⟩⟩⟩],zE⟩,⟨1,0,[⟨3,0,zV⟩,⟨2,1,zV⟩],zE⟩],[⟨1,0,0,[⟨2,zV,1,0,[]⟩,⟨3,zV,0,1,[⟨2,zV,0,0,[]⟩,⟨1,⟨1,1,⟨#[]⟩⟩,0,0,[]⟩]⟩]⟩,⟨2,0,1,[]⟩]⟩]
noncomputable section
def rdS (hp:dq)(sz n:Nat):SV->Option (List SV)
 | .v (.slice none 0 0)=>match n with
   |0=>some []
   |_=>none
 | .sl g 0 len 0 true=>match mc hp g with
   | some (.row cs m Ot _)=>match P' m len&&(P' len n&&P' Ot sz)with
     |true=>some cs
     |false=>none
   |_=>none
 |_=>none
def Kq {α:Type} (f:List SV->α->Bool)(sz:Nat):List SV->List α->Bool
 |cs,[]=>cs.isEmpty
 |cs,y::l=>P' (cs.take sz).length sz&&(f (cs.take sz) y&&Kq f sz (cs.drop sz) l)
def wo {α:Type} (hp:dq)(f:List SV->α->Bool)(sz:Nat)(x:SV)(l:List α):Bool:=match rdS hp sz l.length x with
 |some cs=>Kq f sz cs l
 |none=>false
def ra (k:IntKind)(z:Int):SV->Bool
 | .v (.int U z')=>decide (U=k)&&decide (z'=z)
 |_=>false
def UN (s:ByteArray):SV->Bool
 | .v (.string s')=>s'.data.toList==s.data.toList
 |_=>false
def fType:List SV->Qa->Bool
 |[a,b],y=>UN y.name a&&ra .i64 y.fields b
 |_,_=>false
def UR:List SV->gS->Bool
 |[a,b,c,d,e],y=>ra .u8 y.k a&&(ra .i64 y.var b&&(ra .u8 y.v.k c&&(ra .i64 y.v.n d&&UN y.v.s e)))
 |_,_=>false
def Bx (hp:dq):Nat->List SV->Q4->Bool
 |m+1,[a,b,c,d,e,f,g],y=>ra .u8 y.kind a&&(ra .u8 y.value.k b&&(ra .i64 y.value.n c&&(UN y.value.s d&&(ra .i64 y.var e&&(ra .u8 y.op f&&wo hp (Bx hp m) 7 g y.kids)))))
 |_,_,_=>false
def KK (hp:dq):List SV->Qv->Bool
 |[k,t,a,b,c,d,e,f,g,h],y=>ra .u8 y.kind k&&(ra .i64 y.type t&&(wo hp UR 5 a y.args&&(ra .u8 y.test.kind b&&(ra .u8 y.test.value.k c&&(ra .i64 y.test.value.n d&&(UN y.test.value.s e&&(ra .i64 y.test.var f&&(ra .u8 y.test.op g&&wo hp (Bx hp 5) 7 h y.test.kids))))))))
 |_,_=>false
def UQ (hp:dq):List SV->vZ->Bool
 |[k,t,w,e],y=>ra .u8 y.kind k&&(ra .i64 y.type t&&(ra .i64 y.which w&&wo hp (Bx hp 5) 7 e y.exprs))
 |_,_=>false
def KL (hp:dq):List SV->Q9->Bool
 |[n,s,v,c,a],y=>UN y.name n&&(ra .i64 y.salience s&&(ra .i64 y.vars v&&(wo hp (KK hp) 10 c y.conds&&wo hp (UQ hp) 4 a y.acts)))
 |_,_=>false
def Kr:Option (SV×dq×Nat)->Bool
 |some (.tup [.agg [ts,rs],.agg [e,a]],hp,_)=>wo hp fType 2 ts nF&&(wo hp (KL hp) 5 rs jR&&(ra .i64 0 e&&ra .i64 0 a))
 |_=>false
end
section
variable {ρ:Env} {E:List Value} {hp:dq} {Hr:List Fact} {F:ep} {w:World}
variable {cs:List SV}{vs:List Value}{x:SV}{v:Value}{sz:Nat}{α:Type}{R:fq α}{l:List α}
theorem sE {k:IntKind} {z:Int} (h:ra k z x=true)(U:x.den ρ E=some v):v=.int k z:=by
 unfold ra at h;split at h
 ·simp only[g',decide_eq_true_eq]at h;obtain⟨rfl,rfl⟩:=h;cases U;rfl
 · cases h
theorem o9 {s:ByteArray} (h:UN s x=true)(U:x.den ρ E=some v):v=.string s:=by
 unfold UN at h;split at h
 ·rename_i s'
  have h1:s'=s:=by
   obtain⟨⟨a⟩⟩:=s;obtain⟨⟨b⟩⟩:=s';simp at h;rw[h]
  cases U;rw[h1]
 · cases h
theorem Br:∀{a b:List SV} {vs:List Value},SV.dens ρ E (a++b)=some vs->∃u x,vs=u++x/\SV.dens ρ E a=some u/\SV.dens ρ E b=some x/\u.length=a.length
 |[],b,vs,h=>⟨[],vs,rfl,rfl,h,rfl⟩
 | y::a,b,vs,h=>by
   obtain⟨v,ws,rfl,h1,U⟩:=QI h;obtain⟨u,x,rfl,h3,h4,h5⟩:=Br U;exact⟨v::u,x,rfl,Eb h1 h3,h4,by rw[r',h5,r']⟩
theorem Bo {α:Type} {f:List SV->α->Bool} {sz:Nat} {R:List Value->α->Prop} (hf:∀cs vs y,f cs y=true->SV.dens ρ E cs=some vs->R vs y):∀{l:List α} {cs:List SV} {vs:List Value},Kq f sz cs l=true->SV.dens ρ E cs=some vs->hY sz R vs l
 | [],cs,vs,h,U=>by
   unfold Kq at h;cases cs with
   |nil=>cases U;exact rfl
   |cons=>cases h
 | y::l,cs,vs,h,U=>by
   unfold Kq at h;simp only[g']at h;rw[<-List.take_append_drop sz cs]at U;obtain⟨u,x,rfl,h1,h2,h3⟩:=Br U;exact⟨u,x,rfl,by rw[h3];exact k' h.1,hf _ _ _ h.2.1 h1,Bo hf h.2.2 h2⟩
theorem RG {e b n cap:Nat} {xs:List Value} (h:(A7 e sz b n cap xs).p F w)(hn:n=l.length)(hx:hY sz (R.p F w) xs l):(Fact.sli sz R (some ⟨b,0,none⟩) cap l).p F w:=by
 obtain⟨hF,ho⟩:=h;have U:=ho;rcases ho.2 with⟨h0,_⟩|⟨g,a06,cur,hv,hb,hg,AQ,mn,sQ,hU⟩
 · cases h0
 ·cases hv;subst hn;refine⟨_,_,cap,xs,rfl,rfl,AQ,mn,hx,λ_=>⟨b,0,rfl,hF,λj u hj=>?_⟩⟩;have:=U.cells (g:=b) rfl j u hj;rwa [show(⟨b,0,none⟩:Addr).add j=⟨b,0+j,none⟩from by unfold Addr.add;split<;>simp_all]at this
theorem Sr {f:List SV->α->Bool} (hd:jQ ρ E hp Hr)(eo:∀φ∈Hr,φ.p F w)(hf:∀cs vs y,f cs y=true->SV.dens ρ E cs=some vs->R.p F w vs y)(h:wo hp f sz x l=true)(hx:x.den ρ E=some v):
  ∃p c,v=.slice p l.length c/\(Fact.sli sz R p c l).p F w:=by
 unfold wo at h;split at h
 ·rename_i cs U;unfold rdS at U;split at U
  ·split at U
   ·rename_i hl;cases U;cases l with
    | nil=>
      cases hx;exact⟨none,0,rfl,vd⟩
    |cons y l=>cases hl
   · cases U
  ·rename_i g len;split at U
   ·rename_i vS m Ot ty hg;split at U
    · rename_i hb;cases U;simp only[g']at hb;obtain⟨e1,e2,e3⟩:=hb;have e1:=k' e1;have e2:=k' e2;have e3:=k' e3;obtain⟨k,φ,h1,h2,_⟩:=OM hd hg;obtain⟨b,cap,vs,h3,h4,rfl⟩:=h2;have hp:=eo _ (l' h1);simp only[SV.den,h3,Option.map_some,Option.some.injEq]at hx;subst hx;subst e3;refine⟨some ⟨b,0,none⟩,cap,?_,RG hp an (Bo hf h h4)⟩;rw[<-e2];simp
    · cases U
   · cases U
  · cases U
 · cases h
theorem I9 {y:Qa} (h:fType cs y=true)(U:SV.dens ρ E cs=some vs):Qd.p F w vs y:=by
 unfold fType at h;split at h
 ·simp only[g']at h;obtain⟨_,_,rfl,h1,U⟩:=QI U;obtain⟨_,_,rfl,h2,U⟩:=QI U;cases U;rw[o9 h.1 h1,sE h.2 h2];exact⟨(),rfl,QF⟩
 · cases h
theorem KJ {y:gS} (h:UR cs y=true)(U:SV.dens ρ E cs=some vs):jt.p F w vs y:=by
 unfold UR at h;split at h
 ·simp only[g']at h;obtain⟨_,_,rfl,h1,U⟩:=QI U;obtain⟨_,_,rfl,h2,U⟩:=QI U;obtain⟨_,_,rfl,h3,U⟩:=QI U;obtain⟨_,_,rfl,h4,U⟩:=QI U;obtain⟨_,_,rfl,h5,U⟩:=QI U;cases U;rw[sE h.1 h1,sE h.2.1 h2,sE h.2.2.1 h3,sE h.2.2.2.1 h4,o9 h.2.2.2.2 h5];exact⟨(),rfl,QF⟩
 · cases h
theorem pZ (hd:jQ ρ E hp Hr)(eo:∀φ∈Hr,φ.p F w):∀(m:Nat) {cs:List SV} {vs:List Value} {y:Q4},Bx hp m cs y=true->SV.dens ρ E cs=some vs->Qj.p F w vs y
 |0,cs,vs,y,h,_=>by cases h
 | m+1,cs,vs,y,h,U=>by
   unfold Bx at h;split at h
   ·rename_i m' a b c d e f g y' hm;cases hm;simp only[g']at h;obtain⟨_,_,rfl,h1,U⟩:=QI U;obtain⟨_,_,rfl,h2,U⟩:=QI U;obtain⟨_,_,rfl,h3,U⟩:=QI U;obtain⟨_,_,rfl,h4,U⟩:=QI U;obtain⟨_,_,rfl,h5,U⟩:=QI U;obtain⟨_,_,rfl,h6,U⟩:=QI U;obtain⟨_,_,rfl,h7,U⟩:=QI U;cases U;obtain⟨p,cc,rfl,hs⟩:=Sr (R:=Qj) hd eo (λcs vs y=>pZ hd eo m (cs:=cs) (vs:=vs) (y:=y)) h.2.2.2.2.2.2 h7;rw[sE h.1 h1,sE h.2.1 h2,sE h.2.2.1 h3,o9 h.2.2.2.1 h4,sE h.2.2.2.2.1 h5,sE h.2.2.2.2.2.1 h6];exact oO (p,cc) rfl (jm hs QF)
   · cases h
theorem I7 (hd:jQ ρ E hp Hr)(eo:∀φ∈Hr,φ.p F w) {y:Qv} (h:KK hp cs y=true)(U:SV.dens ρ E cs=some vs):yU.p F w vs y:=by
 unfold KK at h;split at h
 ·simp only[g']at h;obtain⟨_,_,rfl,h1,U⟩:=QI U;obtain⟨_,_,rfl,h2,U⟩:=QI U;obtain⟨_,_,rfl,h3,U⟩:=QI U;obtain⟨_,_,rfl,h4,U⟩:=QI U;obtain⟨_,_,rfl,h5,U⟩:=QI U;obtain⟨_,_,rfl,h6,U⟩:=QI U;obtain⟨_,_,rfl,h7,U⟩:=QI U;obtain⟨_,_,rfl,h8,U⟩:=QI U;obtain⟨_,_,rfl,h9,U⟩:=QI U;obtain⟨_,_,rfl,h10,U⟩:=QI U;cases U;obtain⟨a1,a2,a3,a4,a5,a6,a7,a8,a9,js⟩:=h;obtain⟨p,cc,rfl,hs⟩:=Sr (R:=jt) hd eo (λ_ _ _=>KJ) a3 h3;obtain⟨q,cd,rfl,ht⟩:=Sr (R:=Qj) hd eo (λcs vs y=>pZ hd eo 5 (cs:=cs) (vs:=vs) (y:=y)) js h10;rw[sE a1 h1,sE a2 h2,sE a4 h4,sE a5 h5,sE a6 h6,o9 a7 h7,sE a8 h8,sE a9 h9];exact⟨((p,cc),(q,cd)),rfl,jm hs (jm ht QF)⟩
 · cases h
theorem KI (hd:jQ ρ E hp Hr)(eo:∀φ∈Hr,φ.p F w) {y:vZ} (h:UQ hp cs y=true)(U:SV.dens ρ E cs=some vs):vL.p F w vs y:=by
 unfold UQ at h;split at h
 ·simp only[g']at h;obtain⟨_,_,rfl,h1,U⟩:=QI U;obtain⟨_,_,rfl,h2,U⟩:=QI U;obtain⟨_,_,rfl,h3,U⟩:=QI U;obtain⟨_,_,rfl,h4,U⟩:=QI U;cases U;obtain⟨p,cc,rfl,hs⟩:=Sr (R:=Qj) hd eo (λcs vs y=>pZ hd eo 5 (cs:=cs) (vs:=vs) (y:=y)) h.2.2.2 h4;rw[sE h.1 h1,sE h.2.1 h2,sE h.2.2.1 h3];exact⟨(p,cc),rfl,jm hs QF⟩
 · cases h
theorem I8 (hd:jQ ρ E hp Hr)(eo:∀φ∈Hr,φ.p F w) {y:Q9} (h:KL hp cs y=true)(U:SV.dens ρ E cs=some vs):Qe.p F w vs y:=by
 unfold KL at h;split at h
 ·simp only[g']at h;obtain⟨_,_,rfl,h1,U⟩:=QI U;obtain⟨_,_,rfl,h2,U⟩:=QI U;obtain⟨_,_,rfl,h3,U⟩:=QI U;obtain⟨_,_,rfl,h4,U⟩:=QI U;obtain⟨_,_,rfl,h5,U⟩:=QI U;cases U;obtain⟨p,cc,rfl,hs⟩:=Sr (R:=yU) hd eo (λ_ _ _=>I7 hd eo) h.2.2.2.1 h4;obtain⟨q,cd,rfl,ht⟩:=Sr (R:=vL) hd eo (λ_ _ _=>KI hd eo) h.2.2.2.2 h5;rw[o9 h.1 h1,sE h.2.1 h2,sE h.2.2.1 h3];exact⟨((p,cc),(q,cd)),rfl,jm hs (jm ht QF)⟩
 · cases h
end
theorem Ie {C:Ctx} {w:World}:∀{H Φ:List Fact},Ql C Φ H w->∃Φ',Ql C Φ' [] w/\∀φ∈H,φ∈Φ'
 |[],Φ,h=>⟨Φ,h,λφ bj=>by cases bj⟩
 | φ::H,Φ,h=>by
   have h1:=h.freeze 0 rfl (H':=H) rfl;obtain⟨F,N,hi⟩:=h1;obtain⟨Φ',h2,h3⟩:=uj (H:=H) (Φ:=φ::Φ) ⟨F,N,hi⟩
   exact ⟨Φ',h2.1,λψ U=>by
    rcases d'.1 U with rfl|U;· exact h2.2 _ f'
    · exact h3 ψ U⟩
where
 uj {C:Ctx} {w:World}:∀{H Φ:List Fact},Ql C Φ H w->∃Φ',(Ql C Φ' [] w/\∀φ∈Φ,φ∈Φ')/\∀φ∈H,φ∈Φ'
  |[],Φ,h=>⟨Φ,⟨h,λ_ h=>h⟩,λφ bj=>by cases bj⟩
  | φ::H,Φ,h=>by
    have h1:=h.freeze 0 rfl (H':=H) rfl;obtain⟨Φ',⟨h2,h3⟩,h4⟩:=uj h1
    exact ⟨Φ',⟨h2,λψ U=>h3 ψ (n' _ U)⟩,λψ U=>by
     rcases d'.1 U with rfl|U;· exact h3 _ f'
     · exact h4 ψ U⟩
theorem MQ:Kr (Kp Tryz.prog 1000 50 32 [.v (.string ⟨#[102,97,99,116,32,112,40,97,44,32,98,41,59,32,114,117,108,101,32,114,32,123,32,112,40,63,120,44,32,49,41,59,32,112,40,63,120,44,32,63,121,41,59,32,61,62,32,97,115,115,101,114,116,32,112,40,63,121,44,32,63,120,32,43,32,49,41,59,32,114,101,116,114,97,99,116,32,50,59,32,125]⟩)] [] 0 (2^200))=true:=aq
theorem MP:QD Tryz.prog 32 [.string ⟨#[102,97,99,116,32,112,40,97,44,32,98,41,59,32,114,117,108,101,32,114,32,123,32,112,40,63,120,44,32,49,41,59,32,112,40,63,120,44,32,63,121,41,59,32,61,62,32,97,115,115,101,114,116,32,112,40,63,121,44,32,63,120,32,43,32,49,41,59,32,114,101,116,114,97,99,116,32,50,59,32,125]⟩] [] [] (λv bo Hr=>∃(p0:Option Addr)(c0:Nat)(p1:Option Addr)(c1:Nat),v=.tuple #[.agg #[.slice p0 nF.length c0,.slice p1 jR.length c1],.agg #[.int .i64 0,.int .i64 0]]/\bo=[.sli 2 Qd p0 c0 nF,.sli 5 Qe p1 c1 jR]/\Hr=[]):=by
 have ht:=MQ;unfold Kr at ht;split at ht
 ·rename_i ts rs e a hp lo he;simp only[g']at ht;have hc:=Bk (P:=Tryz.prog) [] 1000 50 32 _ [] 0 _ _ _ _ he (λ_=>none) _ [] Kk trivial (λ_ _ _=>rfl);intro F N w hF eo hH bp uo;refine(hc F N w hF eo hH bp uo).mono ?_;rintro en w' ⟨x,bo,Hr,rfl,⟨rfl,ck,_,U,e3,_⟩,hw⟩;obtain⟨Φ',YJ,j6⟩:=Ie hw;obtain⟨F',N',hi⟩:=YJ;have LY:∀φ∈Hr,φ.p F' w':=λφ bj=>hi.facts φ (j6 φ bj)
  simp only[SV.den,B']at U;obtain⟨vs,U,rfl⟩:=U;obtain⟨v1,_,rfl,g1,U⟩:=QI U;obtain⟨v2,_,rfl,g2,U⟩:=QI U;cases U;simp only[SV.den,B']at g1 g2;obtain⟨us,g1,rfl⟩:=g1;obtain⟨u1,_,rfl,k1,g1⟩:=QI g1;obtain⟨u2,_,rfl,k2,g1⟩:=QI g1;cases g1;obtain⟨us,g2,rfl⟩:=g2;obtain⟨u3,_,rfl,k3,g2⟩:=QI g2;obtain⟨u4,_,rfl,k4,g2⟩:=QI g2;cases g2;obtain⟨p0,c0,rfl,s0⟩:=Sr (R:=Qd) e3 LY (λ_ _ _=>I9) ht.1 k1;obtain⟨p1,c1,rfl,s1⟩:=Sr (R:=Qe) e3 LY (λ_ _ _=>I8 e3 LY) ht.2.1 k2;rw[sE ht.2.2.1 k3,sE ht.2.2.2 k4];exact⟨_,_,_,rfl,⟨p0,c0,p1,c1,rfl,rfl,rfl⟩,F',N',{hi with facts:=λφ bj=>jm s0 (jm s1 QF) φ bj}⟩
 · cases ht
end
section
open Go.RowKit
noncomputable def Zl (_:Nat)(_:Int)(_:Int)(_:Int):Option (Unit):=
 some ()
noncomputable def Q5n (N:Nat)(s:Nat)(z:Nat)(a0:Nat)(a3:List Qy)(U:List Qy)(h:db):Option (Bool):=
 if (s==0)=true then(
  if (z==0)=true then(
   if (a0==0)=true then(
    if (a3.length==1)=true then(
     if (U.length==2)=true then(
      Qf (U[1]?) λa4=>
      if (a4.ids.length==2)=true then(
       Qf (U[1]?) λa5=>
       Qf (a5.ids[1]?) λa6=>
       if (a6==2)=true then(
        Qf (Em N h) λa7=>
        if (a7.length==0)=true then(
         Qf (rp N h) λa8=>
         if (a8==1)=true then(
          Qf (Jn N h 1) λ(a2,_)=>
          some (a2==6)
         )else(
          some false
         )
        )else(
         some false
        )
       )else(
        some false
       )
      )else(
       some false
      )
     )else(
      some false
     )
    )else(
     some false
    )
   )else(
    some false
   )
  )else(
   some false
  )
 )else(
  some false
 )
noncomputable def Ze (N:Nat):Option (Bool):=
 Qf (newN N nF jR) λa4=>
 Qf (Zl N 1 1 1) λ_=>
 Qf (Gi N a4 1 0 [(⟨1,1,(⟨#[]⟩:ByteArray)⟩:V),(⟨1,1,(⟨#[]⟩:ByteArray)⟩:V)]) λ(z,h)=>
 Qf (Em N h) λa5=>
 Qf (Zl N 2 1 2) λ_=>
 Qf (Gi N h 2 0 [(⟨1,1,(⟨#[]⟩:ByteArray)⟩:V),(⟨1,2,(⟨#[]⟩:ByteArray)⟩:V)]) λ(a0,s)=>
 Qf (Em N s) λa6=>
 Qf (Jn N s 1) λ(U,a2)=>
 Qf (Q5n N z a0 U a5 a6 a2
 ) λa3=>
 some a3
noncomputable def Zv (_:Nat)(z:Int)(h:Int):Option (Int):=
 if (decide (h<1))=true then(
  some 0
 ) else(
  gd (h≠0)<|
  Qf (
   if (decide ((i' z h)<0))=true then(
    gd (-9223372036854775808<=(i' z h)+h/\(i' z h)+h<=9223372036854775807)<|
    some ((i' z h)+h)
   )else(
    some (i' z h)
   )
  ) λs=>
  some s
 )
noncomputable def Z4 (_:Nat)(U:List Int)(l1:List Int):Nat->Option (Nat⊕(Unit⊕Bool)):=λh=>
 if (decide (h<U.length))=true then(
  Qf (U[h]?) λs=>
  Qf (l1[h]?) λz=>
  if (s !=z)=true then(
   some (.inr (.inr false))
  )else(
   gd (h+1<=9223372036854775807)<|
   some (.inl (h+1))
  )
 )else(
  some (.inr (.inl ()))
 )
noncomputable def Zk (N:Nat)(h:List Int)(s:List Int):Option (Bool):=
 if (h.length !=s.length)=true then(
  some false
 ) else(
  jw (
   fz (Z4 N h s) N 0
  ) λ_=>
  some true
 )
noncomputable def Q4a (N:Nat)(s:Int)(z:List Int)(a2:Int)(l3:List Int):Option (Bool):=
 if (s==a2)=true then(
  Qf (Zk N z l3) λh=>
  some h
 )else(
  some false
 )
noncomputable def Z8 (N:Nat)(U:List Qy)(l1:List Qy):Nat->Option (Nat⊕(Unit⊕Bool)):=λh=>
 if (decide (h<U.length))=true then(
  Qf (U[h]?) λs=>
  Qf (l1[h]?) λz=>
  Qf (Q4a N s.rule s.ids z.rule z.ids) λa0=>
  if (!a0)=true then(
   some (.inr (.inr false))
  )else(
   gd (h+1<=9223372036854775807)<|
   some (.inl (h+1))
  )
 )else(
  some (.inr (.inl ()))
 )
noncomputable def Z6 (N:Nat)(h:List Qy)(s:List Qy):Option (Bool):=
 if (h.length !=s.length)=true then(
  some false
 ) else(
  jw (
   fz (Z8 N h s) N 0
  ) λ_=>
  some true
 )
noncomputable def Q3Y (N:Nat)(s:List Qa)(z:List Q9)(l2:List Qo)(l3:List Qo):Option (Bool):=
 Qf (Zf N s z) λh=>
 if (!h)=true then(
  some true
 ) else(
  if (decide (25<l2.length))=true then(
   some true
  )else(
   some (decide (15<l3.length))
  )
 )
noncomputable def Q3Z (N:Nat)(l2:List Qo)(z:Nat)(a2:db)(h:Nat)(s:List Qo)(a0:Int->Option Bool):Option (((List Qo)×Nat×(Int->Option Bool)×db)⊕((Nat×(List Qo)×Nat×(Int->Option Bool)×db)⊕((Nat×(Int->Option Bool)×db×(List Qo))⊕Bool))):=
 Qf (l2[z]?) λa7=>
 Qf (TL N [(⟨false,a7⟩:QS)]) λa8=>
 if (!a8)=true then(
  some (.inr (.inr (.inr true)))
 ) else(
  Qf (l2[z]?) λa3=>
  Qf (Gi N a2 a3.id a3.ty a3.args) λ(a4,U)=>
  if (a4==0)=true then(
   Qf (l2[z]?) λa5=>
   gd (-9223372036854775808<=a5.id/\a5.id<=9223372036854775807)<|
   gd (h<9223372036854775807)<|
   Qf (l2[z]?) λa6=>
   gd (s.length+[a6].length<=3518437208883)<|
   some (.inl (s++[a6],h+1,λq=>if q=a5.id then some true else a0 q,U))
  )else(
   some (.inl (s,h,a0,U))
  )
 )
noncomputable def XJ (N:Nat)(l2:List Qo):(Nat×(List Qo)×Nat×(Int->Option Bool)×db)->Option ((Nat×(List Qo)×Nat×(Int->Option Bool)×db)⊕((Nat×(Int->Option Bool)×db×(List Qo))⊕Bool)):=λ(h,s,z,a0,U)=>
 if (decide (h<l2.length))=true then(
  jw (Q3Z N l2 h U z s a0
  ) λ(a2,a3,a4,a5)=>
  gd (h+1<=9223372036854775807)<|
  some (.inl (h+1,a2,a3,a4,a5))
 )else(
  some (.inr (.inl (z,a0,U,s)))
 )
noncomputable def Q40 (N:Nat)(l3:List Qo)(s:Nat)(z:Int->Option Bool)(a0:Bool)(h:db):Option ((Bool×db)⊕((Nat×Bool×db)⊕((db×Bool)⊕Bool))):=
 Qf (l3[s]?) λa5=>
 Qf (TL N [(⟨false,a5⟩:QS)]) λa6=>
 if (!a6)=true then(
  some (.inr (.inr (.inr true)))
 ) else(
  Qf (l3[s]?) λa4=>
  gd (-9223372036854775808<=a4.id/\a4.id<=9223372036854775807)<|
  if (!((z a4.id).getD false))=true then(
   if a0=true then(
    some (.inl (true,h))
   )else(
    Qf (l3[s]?) λU=>
    Qf (Gi N h U.id U.ty U.args) λ(a2,a3)=>
    some (.inl (a2==204,a3))
   )
  )else(
   some (.inl (a0,h))
  )
 )
noncomputable def XK (N:Nat)(l3:List Qo)(z:Int->Option Bool):(Nat×Bool×db)->Option ((Nat×Bool×db)⊕((db×Bool)⊕Bool)):=λ(h,U,s)=>
 if (decide (h<l3.length))=true then(
  jw (Q40 N l3 h z U s
  ) λ(a2,a0)=>
  gd (h+1<=9223372036854775807)<|
  some (.inl (h+1,a2,a0))
 )else(
  some (.inr (.inl (s,U)))
 )
noncomputable def Q41 (N:Nat)(a4:Bool)(z:db)(s:Nat)(a0:Int)(h:List Qo):Option (db×Bool):=
 if a4=true then(
  some (z,true)
 )else(
  gd (-9223372036854775808<=(s:Int)+a0/\(s:Int)+a0<=9223372036854775807)<|
  gd ((h.length:Int)≠0)<|
  gd (0<=i' ((s:Int)+a0) (h.length:Int))<|
  Qf (h[(i' ((s:Int)+a0) (h.length:Int)).toNat]?) λU=>
  Qf (Gi N z U.id U.ty U.args) λ(a2,a3)=>
  some (a3,a2 !=0)
 )
noncomputable def XL (N:Nat)(h:List Qo)(a3:Int):(Nat×db×Bool)->Option ((Nat×db×Bool)⊕(db×Bool)):=λ(s,z,U)=>
 if (decide (s<h.length))=true then(
  Qf (Q41 N U z s a3 h
  ) λ(a0,a2)=>
  gd (s+1<=9223372036854775807)<|
  some (.inl (s+1,a0,a2))
 )else(
  some (.inr (z,U))
 )
noncomputable def Q3M (N:Nat)(l3:List Qo)(z:Nat)(s:Int->Option Bool)(a0:Bool)(h:db):Option (db×Bool):=
 Qf (l3[z]?) λU=>
 gd (-9223372036854775808<=U.id/\U.id<=9223372036854775807)<|
 if (!((s U.id).getD false))=true then(
  if a0=true then(
   some (h,true)
  )else(
   Qf (l3[z]?) λa4=>
   Qf (Jn N h a4.id) λ(a2,a3)=>
   some (a3,a2==204)
  )
 )else(
  some (h,a0)
 )
noncomputable def XM (N:Nat)(l3:List Qo)(a0:Int->Option Bool):(Nat×db×Bool)->Option ((Nat×db×Bool)⊕(db×Bool)):=λ(h,s,U)=>
 if (decide (h<l3.length))=true then(
  Qf (Q3M N l3 h a0 U s
  ) λ(z,a2)=>
  gd (h+1<=9223372036854775807)<|
  some (.inl (h+1,z,a2))
 )else(
  some (.inr (s,U))
 )
noncomputable def Q3n (N:Nat)(l0:List Qa)(l1:List Q9)(l2:List Qo)(l3:List Qo)(a4:Int):Option (Bool):=
 Qf (Ze N) λaK=>
 if (!aK)=true then(
  some false
 ) else(
  Qf (Q3Y N l0 l1 l2 l3
  ) λa3=>
  if a3=true then(
   some true
  ) else(
   Qf (newN N l0 l1) λa5=>
   Qf (newN N l0 l1) λU=>
   Qf (
    if a5.isNil=true then(
     some true
    )else(
     some U.isNil
    )
   ) λa7=>
   if a7=true then(
    gd ((a5.isNil||U.isNil)=true)<|
    some (a5.isNil&&U.isNil)
   ) else(
    jw (
     fz (XJ N l2) N (0,[],0,λ_=>none,a5)
    ) λ(_,s,a0,h)=>
    jw (
     fz (XK N l3 s) N (0,false,U)
    ) λ(a1,a8)=>
    gd (h.length+1<=9223372036854775807)<|
    Qf (Zv N a4 ((h.length+1:Nat):Int)) λaC=>
    Qf (
     fz (XL N h aC) N (0,a1,a8)
    ) λ(a2,a9)=>
    Qf (
     fz (XM N l3 s) N (0,a2,a9)
    ) λ(z,aA)=>
    if aA=true then(
     some true
    ) else(
     Qf (rp N a0) λaD=>
     Qf (rp N z) λaE=>
     if (aD==aE)=true then(
      Qf (Em N a0) λaF=>
      Qf (Em N z) λaG=>
      Qf (Z6 N aF aG) λaH=>
      some aH
     )else(
      some false
     )
    )
   )
  )
 )
end
section
open Tryz
open Go.RowKit
set_option maxRecDepth 100000
set_option maxHeartbeats 4000000
variable {N bx ei:Nat}{a0 a1 a2:Int}{o0:Bool}{bu ej:OA}{l1:List Int}
theorem Q8p (e:Zl N a0 a1 a2=some ()):QD prog 29 [ao a0,ao a1,ao a2] [tF] [] (λv p q=>∃o0,R0 (.agg #[ao a0,ao 0,.slice (some ⟨o0,0,none⟩) 2 2]) [] [.blk o0 [bc 1,ao a1,.string EB,bc 1,ao a2,.string EB] 63] v p q):=by
 unfold Zl at e;refine Qp func29 Z ntmps29 Z (S:=V3 ..) Z λC=>sq<|QP Z Z Z Zq Z Bc Z λg6=>nt<|sq<|ay Z<|mC Z Z Z Zq Z lu El Z (out:=V3 ..) Z<|wP Z<|mC Z Z Z Zq Z lu El Z (out:=V3 ..) Z<|tz Z Z Z Zq Z pL fc lu Z (zs:=[bc 0,ao 0,.string EB,bc 0,ao 0,.string EB]) aq Z (out:=V6 ..) Z λg12=>mC Z Z Z Zq Z Bc a1I Z (out:=V3 ..) Z<|wS 1 0 Z jr (all':=V3 ..) Z (H':=[_,_]) Z<|dz 6 Z<|Qm ?_
 have g:=(Zi e).symm;refine tA (Hr:=[_]) [0] results29 (nD 1 Z Z jr vR Z Z) ⟨g12,Z,Z,Z⟩ (bh [] Z) Z Z (.inl Z)
theorem Qba (e:Ze N=some o0):QD prog 9 [] [tF] [] (R0 (.bool o0) [] []):=by
 unfold Ze at e;refine Qp func9 Z ntmps9 Z (S:=[]) Z λC=>sq<|wP Z<|nk0 Z<|sq<|wC [] [] Z a0l Z MP (bh [] Z) Z (H':=[]) Z ?_
 rintro _ _ _ ⟨aX,aY,a7,a8,rfl,rfl,rfl⟩;refine ay Z<|wP Z<|QP Z Z Z Zq Z a1P Z λg1=>QP Z Z Z Zq Z a1S Z λg2=>wS 1 0 Z vv (all':=[_,_]) Z (H':=[_,_]) Z<|wS 0 0 Z a1O (all':=[_,_]) Z (H':=[_,_]) Z<|dz 1 Z<|sq<|wM 1 0 [_,_] Z vv yt Z<|kn e λaZ aE e=>wC [] [0,1] Z KP Z (Me aX aY nF a7 a8 jR _ aE) (bh [0,1,2] Z) Z (H':=[_,_]) Z ?_
 rintro _ _ _ ⟨h,rfl,rfl,rfl⟩;refine wP Z<|dz 3 Z<|sq<|wP Z<|kn e λ_ aF e=>?_
 try dsimp only at e
 refine c1 [] [0,1,2] Z SJ aF Q8p [2] (V3 ..) Z λa0=>K9 (sz:=3) (m:=2) dw ([(⟨1,1,EB⟩:V),(⟨1,1,EB⟩:V)]) 0 Z (λF w U=>⟨[bc 1,ao 1,.string EB],[bc 1,ao 1,.string EB],Z,Z,⟨(),Z,QF⟩,⟨[bc 1,ao 1,.string EB],[],Z,Z,⟨(),Z,QF⟩,Z⟩⟩) Z bf (H':=V4 ..) Z<|OQ 0 Z (H':=V3 ..) Z<|P3 (.sli 3 dw (some ⟨a0,0,none⟩) 2 ([(⟨1,1,EB⟩:V),(⟨1,1,EB⟩:V)])) (λF w U=>vN (U _ (iZ (k:=0) Z))) ?_;obtain⟨⟨a9,a1⟩,aG,e⟩:=Qz e;try dsimp only at e
 refine wC [0] [1,2] Z BB Z (Bf h aZ 1 0 (some ⟨a0,0,none⟩) 2 [(⟨1,1,EB⟩:V),(⟨1,1,EB⟩:V)] _ _ aG) (bh [0] Z) Z (H':=[_,_]) Z ?_;rintro _ _ _ ⟨rfl,rfl,rfl⟩;refine wP Z<|dp 4 3 Z<|sq<|wP Z<|kn e λb1 aH e=>wC [0] [1,2] Z BC Z (Dd h a1 _ aH) (bh [] Z) Z (H':=[_,_]) Z ?_;rintro _ _ _ ⟨b2,b3,b4,rfl,rfl,rfl⟩;refine rM 0 Z λaI _=>wN Z jN<|Qn (kV aI)<|wP Z<|gR 5 4 3 Z<|sq<|wP Z<|kn e λ_ aJ e=>?_;try dsimp only at e
 refine c1 [] [0,1,2,3] Z SJ aJ Q8p [4] (V4 ..) Z λa2=>K9 (sz:=3) (m:=2) dw ([(⟨1,1,EB⟩:V),(⟨1,2,EB⟩:V)]) 0 Z (λF w U=>⟨[bc 1,ao 1,.string EB],[bc 1,ao 2,.string EB],Z,Z,⟨(),Z,QF⟩,⟨[bc 1,ao 2,.string EB],[],Z,Z,⟨(),Z,QF⟩,Z⟩⟩) Z bf (H':=V5 ..) Z<|OQ 0 Z (H':=V4 ..) Z<|P3 (.sli 3 dw (some ⟨a2,0,none⟩) 2 ([(⟨1,1,EB⟩:V),(⟨1,2,EB⟩:V)])) (λF w U=>vN (U _ (iZ (k:=0) Z))) ?_;obtain⟨⟨aA,a3⟩,aK,e⟩:=Qz e;try dsimp only at e
 refine wC [1] [0,2,3] Z BB Z (Bf h a1 2 0 (some ⟨a2,0,none⟩) 2 [(⟨1,1,EB⟩:V),(⟨1,2,EB⟩:V)] _ _ aK) (bh [0] Z) Z (H':=V3 ..) Z ?_;rintro _ _ _ ⟨rfl,rfl,rfl⟩;refine wP Z<|ib 6 5 4 3 Z<|sq<|wP Z<|kn e λb5 aL e=>wC [0] [1,2,3] Z BC Z (Dd h a3 _ aL) (bh [] Z) Z (H':=V3 ..) Z ?_;rintro _ _ _ ⟨b6,b7,b8,rfl,rfl,rfl⟩;refine wP Z<|mu 7 6 5 4 3 Z<|sq<|wP Z ?_;obtain⟨⟨aB,s⟩,aM,e⟩:=Qz e;try dsimp only at e
 refine wC [1] [0,2,3,4] Z KQ Z (ED h a3 1 _ _ aM) (bh [] Z) Z (H':=V4 ..) Z ?_;rintro _ _ _ ⟨rfl,rfl,rfl⟩;refine wP Z<|lT 8 7 6 5 4 3 Z<|Q6<|kn e λaN e bw=>?_;unfold Q5n at e;refine cut (σ:=Bool) aN (λz=>(z,[(0,.bool z)],[tF],[])) ?_ ?_;refine Qb<|ay Z<|Qn (rK a9 0)<|wP Z ?_;refine fo e (λe=>?_) λe=>?_;refine ay Z<|Qn (rK aA 0)<|ay Z ?_;refine fo e (λe=>?_) λe=>?_;refine ay Z<|Qn (rK aB 0)<|ay Z ?_;refine fo e (λe=>?_) λe=>?_;refine ay Z<|Qn (rK b1.length 1)<|ay Z ?_;refine fo e (λe=>?_) λe=>?_;refine wP Z<|rM 1 Z λaO _=>wN Z jN<|Qn (kV aO)<|wP Z<|Qn (rK b5.length 2)<|ay Z ?_;refine fo e (λe=>?_) λe=>?_;refine wP Z<|kn e λaP a5 e=>Gd 1 1 Z Z Z Zq Z Z Z Z Z (lN a5) jN nz λbK aQ=>?_;subst aQ;refine wF Z Yo<|JU Zm 1 1 1 Z Z Z Zq Z Z Z a5 yz yv (v:=λaC=>aw aC.1 aP.ids aC.2) (λ_=>Z) (λ_=>Z) λaC _=>wN Z zb<|wP Z<|Qn (rK aP.ids.length 2)<|ay Z ?_;refine fo e (λe=>?_) λe=>?_;refine wP Z<|kn e λb9 a6 e=>J6 1 1 Z Z Z Zq Z Z Z Z Z (lN a6) jN nz<|wF Z Yo<|JU Zm 1 1 1 Z Z Z Zq Z Z Z a6 yz yv (v:=λaD=>aw aD.1 b9.ids aD.2) (λ_=>Z) (λ_=>Z) λaD _=>kn e λbL aR e=>wI 0 1 Z aR zb dh λbM bN bI bA=>jV Ya 1 Z λbO aS _=>?_;subst aS;refine jZ 0 0 [_] Z dh dx Z<|ay Z<|wP Z ?_;refine fo e (λe=>?_) λe=>?_;refine wP Z<|kn e λbB aT e=>wC [0] [1,2,3,4] Z BC Z (Dd h s _ aT) (bh [] Z) Z (H':=V4 ..) Z ?_;rintro _ _ _ ⟨bC,bD,bF,rfl,rfl,rfl⟩;refine rM 0 Z λaU _=>wN Z jN<|Qn (kV aU)<|wP Z<|Qn (rK bB.length 0)<|ay Z ?_;refine fo e (λe=>?_) λe=>?_;refine wP Z<|kn e λbG aV e=>wC [1] [0,2,3,4,5] Z KS Z (M9 h s _ aV) (bh [] Z) Z (H':=V5 ..) Z ?_;rintro _ _ _ ⟨rfl,rfl,rfl⟩;refine wP Z<|Qn (rK bG 1)<|ay Z ?_;refine fo e (λe=>?_) λe=>?_;refine wP Z ?_;obtain⟨⟨a4,bH⟩,aW,e⟩:=Qz e;try dsimp only at e
 refine wC [0] [1,2,3,4,5] Z KQ Z (ED h s 1 _ _ aW) (bh [] Z) Z (H':=V5 ..) Z ?_;rintro _ _ _ ⟨rfl,rfl,rfl⟩;refine wP Z<|Qn (rK a4 6)<|ay Z<|Q2<|Qh [] Z (H':=[]) Z ?_;refine jM (a4==6) e [0] [10] Z;refine ew Z<|wO Z<|ay Z<|Q2<|Qh [] Z (H':=[]) Z ?_;refine jM false e [0] [10] Z;refine ew Z<|wO Z<|ay Z<|ew Z<|wO Z<|ay Z<|Q2<|Qh [] Z (H':=[]) Z ?_;refine jM false e [0] [10] Z;refine eh Z<|ay Z<|ew Z<|wO Z<|ay Z<|ew Z<|wO Z<|ay Z<|Q2<|Qh [] Z (H':=[]) Z ?_;refine jM false e [0] [10] Z;refine eh Z<|ew Z<|wO Z<|ay Z<|eh Z<|ay Z<|ew Z<|wO Z<|ay Z<|ew Z<|wO Z<|ay Z<|Q2<|Qh [] Z (H':=[]) Z ?_;refine jM false e [0] [7] Z;refine eh Z<|ew Z<|ay Z<|eh Z<|ew Z<|wO Z<|ay Z<|eh Z<|ay Z<|ew Z<|wO Z<|ay Z<|ew Z<|wO Z ?_;refine ay Z<|Q2<|Qh [] Z (H':=[]) Z ?_;refine jM false e [0] [6] Z;refine ew Z<|wO Z<|ay Z<|eh Z<|ew Z<|ay Z<|eh Z<|ew Z<|wO Z<|ay Z<|eh Z<|ay Z<|ew Z<|wO Z ?_;refine ay Z<|ew Z<|wO Z<|ay Z<|Q2<|Qh [] Z (H':=[]) Z ?_;refine jM false e [0] [6] Z;refine ew Z<|ay Z<|ew Z<|wO Z<|ay Z<|eh Z<|ew Z<|ay Z<|eh Z<|ew Z<|wO Z<|ay Z<|eh Z<|ay Z ?_;refine ew Z<|wO Z<|ay Z<|ew Z<|wO Z<|ay Z<|Q2<|Qh [] Z (H':=[]) Z ?_;refine jM false e [0] [6] Z;refine ew Z<|ay Z<|ew Z<|ay Z<|ew Z<|wO Z<|ay Z<|eh Z<|ew Z<|ay Z<|eh Z<|ew Z<|wO Z<|ay Z ?_;refine eh Z<|ay Z<|ew Z<|wO Z<|ay Z<|ew Z<|wO Z<|ay Z<|Q2<|Qh [] Z (H':=[]) Z ?_;refine jM false e [0] [6] Z;refine ew Z<|ay Z<|ew Z<|ay Z<|ew Z<|ay Z<|ew Z<|wO Z<|ay Z<|eh Z<|ew Z<|ay Z<|eh Z<|ew Z ?_;refine wO Z<|ay Z<|eh Z<|ay Z<|ew Z<|wO Z<|ay Z<|ew Z<|wO Z<|ay Z<|Q2<|Qh [] Z (H':=[]) Z ?_;refine jM false e [0] [6] Z;rintro z g;try dsimp only at g⊢
 have e:=bw;try rw[g]at e
 refine Qm ?_;obtain rfl:=Zi e;refine ct [] [] results9 Z ⟨Z,Z,Z⟩ Z
theorem QcF {o0:Int} (e:Zv N a0 a1=some o0):QD prog 28 [ao a0,ao a1] [] [] (R0 (ao o0) [] []):=by
 unfold Zv at e;refine Qp func28 Z ntmps28 Z (S:=[_,_]) Z λC=>sq<|wP Z<|dp 0 1 Z<|Q6<|sq<|ay Z<|gR 6 0 1 Z ?_
 refine QO e Z (λe=>?_) λe=>?_;refine k0 Z<|sq<|wP Z<|nr<|Q5 ?_;obtain rfl:=Zi e;refine ct [] [] results28 Z ⟨Z,Z,Z⟩ Z;refine k2 0 1 Z<|kt<|sq<|ay Z<|kg e λhg9 e=>sF Z Z Z Zq Z Z Z (Hb hg9)<|Qq (S':=V4 ..) Z Z Z Z Z<|dp 0 1 Z<|Q6<|kn e λae e bw=>?_;refine cut (σ:=Int) ae (λab=>(ab,[(0,ao ab)],[],[])) ?_ ?_;refine sq<|ay Z<|gR 11 0 1 Z ?_;refine QO e Z (λe=>?_) λe=>?_;refine k2 0 1 Z<|Qb<|ay Z<|wP Z<|kg e λU e=>Qn (i64_in U)<|Qq (S':=V4 ..) Z Z Z Z Z<|Q2 ?_;refine jM ((i' a0 a1)+a1) e [0] [] Z;refine k1 0 Z<|QV ?_;refine jM (i' a0 a1) e [0] [] Z;rintro ab g;try dsimp only at g⊢
 have e:=bw;try rw[g]at e
 refine sq<|ay Z<|dz 4 Z<|Qm ?_;obtain rfl:=Zi e;refine ct [] [] results28 Z ⟨Z,Z,Z⟩ Z
theorem QaL {U:List Int} (e:Zk N U l1=some o0):QD prog 106 [aw bu U bx,aw ej l1 ei] [.sli 1 jv bu bx U,.sli 1 jv ej ei l1] [] (R0 (.bool o0) [] []):=by
 unfold Zk at e;refine Qp func106 Z ntmps106 Z (S:=[_,_]) Z λC=>sq<|wP Z<|dp 0 1 Z<|Q6<|sq<|wP Z<|wN Z zb<|wP Z<|wN Z zb<|wP Z<|Qn (S4 U.length l1.length)<|gR 10 0 1 Z ?_
 refine QO e Z (λe=>?_) λe=>?_;refine k0 Z<|sq<|wP Z<|nr<|Q5 ?_;obtain rfl:=Zi e;refine ct [] [] results106 Z ⟨Z,Z,Z⟩ Z;refine k2 0 1 Z<|kt<|Q6<|ks e λae e bw=>?_;refine cut (σ:=Unit) ae (λ_=>(.inl (),[],[],[])) ?_ ?_;refine sq<|wP Z<|nt<|Qi<|pM (σ:=Nat) (Z4 N U l1) (λaa=>(aa,[(5,ao (aa:Int)),(0,aw bu U bx),(1,aw ej l1 ei)],[.sli 1 jv bu bx U,.sli 1 jv ej ei l1],[])) 0 e [5,0,1] [0,1] Z λaa mu1 bu1 e cn=>?_;unfold Z4 at e;try dsimp only at e⊢
 refine Q6<|sq<|ay Z<|wN Z zb<|wP Z<|Qn (jP aa U.length)<|ib 14 5 0 1 Z ?_;refine QO e Z (λe=>?_) λe=>?_;refine k3 5 0 1 Z<|kt<|Q6<|Qi<|Q6<|kn e λx19 a2T e=>kn e λx23 a2U e=>QK [0,1,2,3,4,5,6,7,8] Z Z λz=>cw z 0 Z<|xI z 2 0 aa Z a2T zb dh λb19 q19 a3v a3s=>K0 Ya 1 Z λr19 a2g _=>?_;subst a2g;refine xL z 3 0 0 [_] Z dh dx Z<|cw z 4 Z<|xI z 6 3 aa Z a2U zb dh λb23 q23 a3w a3t=>K0 Ya 1 Z λr23 a2h _=>?_;subst a2h;refine xL z 7 0 0 [_] Z dh dx Z<|xP z 8 Z<|QE z Z<|Qw<|k4 25 5 0 1 Z ?_;refine QO e Z (λe=>?_) λe=>?_;refine k0 Z<|sq<|wP Z<|nr<|Qr<|Q5<|rb<|Q5 ?_;obtain rfl:=(Qx bw (Qx cn (zs e))).symm;refine ct [] [] results106 Z ⟨Z,Z,Z⟩ Z;refine k3 5 0 1 Z<|QV<|Q7<|Qw<|Qb<|ay Z<|kg e λa2x e=>Qn (jz (a:=aa) (b:=1) a2x)<|Qq (S':=V4 ..) Z Z Z Z Z<|Q2 ?_;refine pN (aa+1) (QR cn (zs e)) [5,0,1] [4,5] Z;refine k0 Z<|iT<|Q8<|Q8<|Qt ?_;refine jn () (Qx cn (zs e)) [] [] Z;rintro _ g;try dsimp only at g⊢
 have e:=QR bw g;try dsimp only at e
 refine sq<|wP Z<|nr ?_;obtain rfl:=Zi e;refine ct [] [] results106 Z ⟨Z,Z,Z⟩ Z
theorem Qag {l3:List Int} (e:Q4a N a0 l1 a2 l3=some o0):QD prog 64 [.agg #[ao a0,aw bu l1 bx],.agg #[ao a2,aw ej l3 ei]] [.sli 1 jv bu bx l1,.sli 1 jv ej ei l3] [] (R0 (.bool o0) [] []):=by
 unfold Q4a at e;refine Qp func64 Z ntmps64 Z (S:=[_,_]) Z λC=>sq<|wB Z λg2=>wB Z λg3=>wP Z<|dp 3 2 Z<|sq<|wF Z CY<|wD 1 0 Z dh dx Z<|wF Z CY<|wD 0 0 Z dh dx Z<|ay Z ?_
 refine fo e (λe=>?_) λe=>?_;refine wF Z Yo<|wD 1 1 Z yz yv Z<|wF Z Yo<|wD 0 1 Z yz yv Z<|kn e λv15 U e=>c0 [] [0,1] Z UY U QaL [0,1] [_,_] Z<|ay Z<|dz 4 Z<|Qm ?_;obtain rfl:=Zi e;refine ct [] [] results64 Z ⟨Z,Z,Z⟩ Z;refine eh Z<|wO Z<|ay Z<|dz 4 Z<|Qm ?_;obtain rfl:=Zi e;refine ct [] [] results64 Z ⟨Z,Z,Z⟩ Z
theorem Qa8 {N:Nat} {bu:OA} {bx:Nat} {U:List Qy} {ej:OA} {ei:Nat} {l1:List Qy} {o0:Bool} (e:Z6 N U l1=some o0):QD prog 26 [aw bu U bx,aw ej l1 ei] [.sli 2 QY bu bx U,.sli 2 QY ej ei l1] [] (R0 (.bool o0) [] []):=by
 unfold Z6 at e;refine Qp func26 Z ntmps26 Z (S:=[_,_]) Z λC=>sq<|wP Z<|dp 0 1 Z<|Q6<|sq<|wP Z<|wN Z jN<|wP Z<|wN Z jN<|wP Z<|Qn (S4 U.length l1.length)<|gR 10 0 1 Z ?_
 refine QO e Z (λe=>?_) λe=>?_;refine k0 Z<|sq<|wP Z<|nr<|Q5 ?_;obtain rfl:=Zi e;refine ct [] [] results26 Z ⟨Z,Z,Z⟩ Z;refine k2 0 1 Z<|kt<|Q6<|ks e λs e bw=>?_;refine cut (σ:=Unit) s (λ_=>(.inl (),[],[],[])) ?_ ?_;refine sq<|wP Z<|nt<|Qi<|pM (σ:=Nat) (Z8 N U l1) (λh=>(h,[(5,ao (h:Int)),(0,aw bu U bx),(1,aw ej l1 ei)],[.sli 2 QY bu bx U,.sli 2 QY ej ei l1],[])) 0 e [5,0,1] [0,1] Z λh aA aB e cn=>?_;unfold Z8 at e;try dsimp only at e⊢
 refine Q6<|sq<|ay Z<|wN Z jN<|wP Z<|Qn (jP h U.length)<|ib 14 5 0 1 Z ?_;refine QO e Z (λe=>?_) λe=>?_;refine k3 5 0 1 Z<|kt<|Q6<|Qi<|Q6<|kn e λaC a0 e=>kn e λaD a1 e=>kn e λaE a2 e=>QK [0,1,2,3,4,5,6,7,9] Z Z λz=>cw z 0 Z<|xI z 2 0 h Z a0 jN nz λaF aG a8 a6=>K0 Zm 1 Z λaH a3 _=>?_;subst a3;refine xL z 3 1 0 [_,_] Z nz MV Z<|cw z 4 Z<|xI z 6 4 h Z a1 jN nz λaI aJ a9 a7=>K0 Zm 1 Z λaK a4 _=>?_;subst a4;refine xL z 7 1 0 [_,_] Z nz MV Z<|xS z 8 Z<|c0 [] [] Z a0s a2 Qag [3,0] [] Z<|Q2<|cv 0 [] Z<|xP z 9 Z<|QE z Z<|Qw<|k4 26 5 0 1 Z ?_;refine QO e Z (λe=>?_) λe=>?_;refine k0 Z<|sq<|wP Z<|nr<|Qr<|Q5<|rb<|Q5 ?_;obtain rfl:=(Qx bw (Qx cn (zs e))).symm;refine ct [] [] results26 Z ⟨Z,Z,Z⟩ Z;refine k3 5 0 1 Z<|QV<|Q7<|Qw<|Qb<|ay Z<|kg e λa5 e=>Qn (jz (a:=h) (b:=1) a5)<|Qq (S':=V4 ..) Z Z Z Z Z<|Q2 ?_;refine pN (h+1) (QR cn (zs e)) [5,0,1] [6,7] Z;refine k0 Z<|iT<|Q8<|Q8<|Qt ?_;refine jn () (Qx cn (zs e)) [] [] Z;rintro _ g;try dsimp only at g⊢
 have e:=QR bw g;try dsimp only at e
 refine sq<|wP Z<|nr ?_;obtain rfl:=Zi e;refine ct [] [] results26 Z ⟨Z,Z,Z⟩ Z
theorem Q9p (N:Nat)(bN:OA)(bO:Nat)(l0:List Qa)(bP:OA)(bQ:Nat)(l1:List Q9)(bB:OA)(bC:Nat)(l2:List Qo)(a9:OA)(U:Nat)(l3:List Qo)(a4:Int)(o0:Bool)(e:Q3n N l0 l1 l2 l3 a4=some o0):QD prog 6 [.agg #[aw bN l0 bO,aw bP l1 bQ],aw bB l2 bC,aw a9 l3 U,ao a4] [.sli 2 Qd bN bO l0,.sli 5 Qe bP bQ l1,.sli 3 QL bB bC l2,.sli 3 QL a9 U l3,tF] [] (R0 (.bool o0) [] []):=by
 unfold Q3n at e;refine Qp func6 Z ntmps6 Z (S:=V4 ..) Z λC=>sq<|wB Z λg4=>wP Z<|ib 4 1 2 3 Z<|Q6<|sq<|kn e λfP dM e=>c0 [] [0] Z a2l dM Qba [4] [_] Z<|wP Z<|mu 20 4 1 2 3 Z ?_
 refine QO e Z (λe=>?_) λe=>?_;refine k0 Z<|sq<|wP Z<|nr<|Q5 ?_;obtain rfl:=Zi e;refine ct [] [] results6 Z ⟨Z,Z,Z⟩ Z;refine k4 4 1 2 3 Z<|kt<|Q6<|Q6<|kn e λdN e bw=>?_;unfold Q3Y at e;refine cut (σ:=Bool) dN (λbF=>(bF,[(4,bs g4),(1,aw bB l2 bC),(2,aw a9 l3 U),(3,ao a4),(33,.bool bF)],[.sli 2 Qd bN bO l0,.sli 5 Qe bP bQ l1,.sli 3 QL bB bC l2,.sli 3 QL a9 U l3,tF],[.blk g4 [aw bN l0 bO,aw bP l1 bQ] 25])) ?_ ?_;refine Qb<|wM 0 0 [_,_] Z vv yt Z<|kn e λfQ dO e=>wC [] [0] Z a0i Z (@Qbb N bN bO l0 bP bQ l1 _ dO) (bh [0,1,4] Z) Z (H':=[_]) Z ?_;rintro _ _ _ ⟨rfl,rfl,rfl⟩;refine ay Z ?_;refine fo e (λe=>?_) λe=>?_;refine ew Z<|wO Z<|ay Z<|ew Z<|wO Z<|wP Z<|Q2 ?_;refine jM true e [4,1,2,3,33] [0,1,2,3,4] Z;refine wP Z<|wN Z qY<|wP Z<|Qn (Oy l2.length 25)<|ay Z ?_;refine fo e (λe=>?_) λe=>?_;refine ew Z<|wO Z<|wP Z<|Q2 ?_;refine jM true e [4,1,2,3,33] [0,1,2,3,4] Z;refine wP Z<|wN Z qY<|wP Z<|Qn (Oy l3.length 15)<|wP Z<|Q2 ?_;refine jM (decide (15<l3.length)) e [4,1,2,3,33] [0,1,2,3,4] Z;rintro bF g;try dsimp only at g⊢
 have e:=bw;try rw[g]at e
 refine QO e Z (λe=>?_) λe=>?_;refine k0 Z<|sq<|wP Z<|nr<|Q5 ?_;obtain rfl:=Zi e;refine ct [] [] results6 Z ⟨Z,Z,Z⟩ Z;refine k4 4 1 2 3 Z<|kt<|Q6<|kn e λc8 dP e=>kn e λbG dQ e=>QK [0,2] Z Z λz=>xM z 0 0 0 [_,_] Z vv yt Z<|xM z 2 0 0 [_,_] Z vv yt Z<|xS z 1 Z<|wC [] [0] Z KP Z (Me bN bO l0 bP bQ l1 _ dP) (bh [0,1,4] Z) Z (H':=[_]) Z ?_;rintro _ _ _ ⟨a1,rfl,rfl,rfl⟩;refine Q2<|cv 0 [1] Z<|xS z 3 Z<|wC [] [0,1] Z KP Z (Me bN bO l0 bP bQ l1 _ dQ) (bh [0,1,4] Z) Z (H':=[_,_]) Z ?_;rintro _ _ _ ⟨s,rfl,rfl,rfl⟩;refine Q2<|cv 0 [2] Z<|xS z 4 Z<|wP Z<|Q2<|cv 0 [2] Z<|xS z 5 Z<|wP Z<|Q2<|cv 0 [] Z<|QE z Z<|Qw<|k5 10 9 1 2 3 Z<|Q6 ?_;refine Q6<|kn e λdR e ez=>?_;refine cut (σ:=Bool) dR (λbH=>(bH,[(10,.pointer (a' pA s)),(9,.pointer (a' pA a1)),(1,aw bB l2 bC),(2,aw a9 l3 U),(3,ao a4),(43,.bool bH)],[.sli 3 QL bB bC l2,.sli 3 QL a9 U l3,tF],[ix s bG,ix a1 c8])) ?_ ?_;refine Qb<|wP Z<|sF Z Z Z Zq Z Z Z (EG Hl _ _ _)<|QcR 1 Z λcQ=>Qn (v':=.bool (c8.isNil)) (by rw[cQ])<|wP Z ?_;refine fo e (λe=>?_) λe=>?_;refine ew Z<|wP Z<|Q2<|Qh [0,1] Z (H':=[_,_]) Z ?_;refine jM true e [10,9,1,2,3,43] [2,3,4] Z;refine wP Z<|sF Z Z Z Zq Z Z Z (EG Hl _ _ _)<|QcR 0 Z λcR=>Qn (v':=.bool (bG.isNil)) (by rw[cR])<|wP Z<|Q2<|Qh [0,1] Z (H':=[_,_]) Z ?_;refine jM bG.isNil e [10,9,1,2,3,43] [2,3,4] Z;rintro bH g;try dsimp only at g⊢
 have e:=ez;try rw[g]at e
 refine QO e Z (λe=>?_) λe=>?_;refine k2 10 9 Z<|sq<|ay Z<|kg e λdS e=>QcR 1 Z λbZ=>QcR 0 Z λc2=>sF Z Z Z Zq Z Z Z (a0e Hl _ _ _ _ (by rw[bZ,c2];exact dS))<|Qn (v':=.bool (c8.isNil&&bG.isNil)) (by rw[bZ,c2])<|wP Z<|dz 8 Z<|Qm<|Q5 ?_;obtain rfl:=Zi e;refine ct [] [] results6 Z ⟨Z,Z,Z⟩ Z;refine k5 10 9 1 2 3 Z<|kt<|sq<|G4 3 4 (DM lW) Z Z Z Zq Z λaC=>wP Z<|lT 11 10 9 1 2 3 Z<|sq<|wP Z<|nt<|Q6<|ks e λdT e iC=>?_;refine cut (σ:=Nat×(Int->Option Bool)×db×(List Qo)×OA×Nat×Nat) dT (λ(a8,a0,a7,a2,a3,a5,a6)=>(.inl (a8,a0,a7,a2),[(11,.map (some aC)),(10,.pointer (a' pA s)),(9,.pointer (a' pA a1)),(2,aw a9 l3 U),(3,ao a4),(12,.slice a3 a6 a5)],[.sli 3 QL a9 U l3,tF],[mapF prog 3 4 (DM lW) aC a8 a0,ix s bG,ix a1 a7,.own 40 3 QL (.slice a3 a6 a5) a2])) ?_ ?_;refine sq<|wP Z<|nt<|Qi<|ON 40 3 QL<|pM (σ:=Nat×(List Qo)×Nat×(Int->Option Bool)×db×OA×Nat×Nat) (XJ N l2) (λ(aD,aB,aE,aF,b2,aJ,aK,aL)=>((aD,aB,aE,aF,b2),[(13,ao (aD:Int)),(12,.slice aJ aL aK),(11,.map (some aC)),(10,.pointer (a' pA s)),(9,.pointer (a' pA a1)),(1,aw bB l2 bC),(2,aw a9 l3 U),(3,ao a4)],[.sli 3 QL bB bC l2,.sli 3 QL a9 U l3,tF],[.own 40 3 QL (.slice aJ aL aK) aB,mapF prog 3 4 (DM lW) aC aE aF,ix s bG,ix a1 b2])) (0,[],0,λ_=>none,c8,none,0,0) e [13,12,11,10,9,1,2,3] [0,1,2] Z λs_ fR fS e cn=>?_;obtain⟨aD,aB,aE,aF,b2,aJ,aK,aL⟩:=s_;unfold XJ at e;try dsimp only at e⊢
 refine Q6<|sq<|ay Z<|wN Z qY<|wP Z<|Qn (jP aD l2.length)<|Rp 51 13 12 11 10 9 1 2 3 Z ?_;refine QO e Z (λe=>?_) λe=>?_;refine k8 13 12 11 10 9 1 2 3 Z<|kt<|Q6<|ks e λdU e kp=>?_;unfold Q3Z at e;refine cut (σ:=(List Qo)×Nat×(Int->Option Bool)×db×OA×Nat×Nat) dU (λ(aR,aS,aT,b3,aU,aV,aW)=>(.inl (aR,aS,aT,b3),[(13,ao (aD:Int)),(12,.slice aU aW aV),(11,.map (some aC)),(10,.pointer (a' pA s)),(9,.pointer (a' pA a1)),(1,aw bB l2 bC),(2,aw a9 l3 U),(3,ao a4)],[.sli 3 QL bB bC l2,.sli 3 QL a9 U l3,tF],[.own 40 3 QL (.slice aU aW aV) aR,mapF prog 3 4 (DM lW) aC aS aT,ix s bG,ix a1 b3])) ?_ ?_;refine Qi<|Q6<|sq<|ay Z<|kn e λbR dV e=>wI 0 aD Z dV qY jr λfT fU f9 eX=>jV Dx 1 Z λc9 dW _=>?_;subst dW;refine jZ 1 0 (V3 ..) Z jr vR Z<|mC Z Z Z Zq Z Ho Tq Z (out:=V4 ..) Z<|tz Z Z Z Zq Z vp D6 Ho Z (zs:=[.bool false,ao 0,ao 0,V1]) aq Z (out:=V4 ..) Z λdX=>K9 (sz:=4) (m:=1) Oz ([(⟨false,bR⟩:QS)]) 0 Z (λF w bj=>⟨[.bool false,ao (bR.id),ao (bR.ty),aw c9.1 bR.args c9.2],[],Z,Z,⟨(c9.1,c9.2),Z,(jm (bj _ (iZ (k:=0) Z)) QF)⟩,Z⟩) Z bf (H':=V5 ..) Z<|kn e λfV dY e=>pH [] [0,1,2,3,4] [0] Z Z Z Zq Z Z SI Z (@Q7T N (some ⟨dX,0,none⟩) 1 [(⟨false,bR⟩:QS)] _ dY) (λF w bj hh=>(jm (vN (hh _ (iZ (k:=0) Z))) (jm (bj _ (iZ (k:=5) Z)) QF))) (λ_ _ _ hR=>by obtain⟨rfl,rfl,rfl⟩:=hR;exact⟨Z,(λ_ h=>Qcj h)⟩) Z Z (H':=V5 ..) Z ?_;rintro _ _ _ ⟨rfl,rfl,rfl⟩;refine wP Z<|Rp 61 13 12 11 10 9 1 2 3 Z ?_;refine QO e Z (λe=>?_) λe=>?_;refine k0 Z<|sq<|wP Z<|nr<|rb<|Q5<|rb<|Q5 ?_;obtain rfl:=(Qx iC (Qx cn (Qx kp (zs e)))).symm;refine ct [] [] results6 Z ⟨Z,Z,Z⟩ Z;refine k8 13 12 11 10 9 1 2 3 Z<|kt<|sq<|ay Z<|wP Z<|kn e λcS dZ e=>wI 3 aD Z dZ qY jr λfW fX fA eY=>jV Dx 1 Z λe0 e1 _=>?_;subst e1;refine jZ 1 0 (V3 ..) Z jr vR Z ?_;obtain⟨⟨cT,bS⟩,e2,e⟩:=Qz e;try dsimp only at e
 refine wC [4] [0,1,2,3] Z BB Z (Bf a1 b2 cS.id cS.ty e0.1 e0.2 cS.args _ _ e2) (bh [0] Z) Z (H':=V4 ..) Z ?_;rintro _ _ _ ⟨rfl,rfl,rfl⟩;refine wP Z<|Qn (rK cT 0)<|Rp 68 13 12 11 10 9 1 2 3 Z ?_;refine QO e Z (λe=>?_) λe=>?_;refine k8 13 12 11 10 9 1 2 3 Z<|sq<|ay Z<|wP Z<|kn e λe3 e4 e=>wI 6 aD Z e4 qY jr λfY fZ fB eZ=>jV Dx 1 Z λg0 e5 _=>?_;subst e5;refine wF Z HK<|jZ 1 0 [_] Z dh dx Z<|kg e λcA e=>kg e λcB e=>Ay (E:=(DM lW)) (u:=true) 3 Z Z Z Z Z Z Z Xn N5 cB cA trivial (H':=[ix a1 bS,.own 42 4 Oz (.slice (some ⟨dX,0,none⟩) ([(⟨false,bR⟩:QS)].length) 1) ([(⟨false,bR⟩:QS)]),.own 40 3 QL (.slice aJ aL aK) aB,mapF prog 3 4 (DM lW) aC (aE+1) (λq=>if q=e3.id then some true else aF q),ix s bG]) Z<|Tj 13 12 11 10 9 1 2 3 Z<|Qb<|ay Z<|wP Z<|kn e λbW e6 e=>wI 9 aD Z e6 qY jr λg1 g2 fC f0=>jV Dx 1 Z λcC e7 _=>?_;subst e7;refine jZ 1 0 (V3 ..) Z jr vR Z<|tz Z Z Z Zq Z qY jr Bc Z (zs:=[ao 0,ao 0,V1]) aq Z (out:=V3 ..) Z λg3=>kg e λcN e=>HG [bW] 3 0 Z Z Z Zq Z Z Z Z Z (λF w bj=>⟨[ao (bW.id),ao (bW.ty),aw cC.1 bW.args cC.2],[],Z,Z,⟨(cC.1,cC.2),Z,(jm (bj _ (iZ (k:=0) Z)) QF)⟩,Z⟩) qY Na Z Z (A' cN bf) (A' (Nat.mul_le_mul_right _ cN) bf) (H2:=λe8 e9=>(V6 ..)) (λ_ _=>Z) λe8 e9=>Jl 0 Z (H':=V5 ..) Z<|Qq (S':=Pb ..) Z Z Z Z Z<|Q2<|Q7<|Qh [2,3,4,0] Z (H':=V4 ..) Z ?_;refine jM (aB++[bW],aE+1,λq=>if q=e3.id then some true else aF q,bS,e8,e9,(aB++[bW]).length) e [13,12,11,10,9,1,2,3] [12,13,14] Z;refine k8 13 12 11 10 9 1 2 3 Z<|QV<|Q7<|Qh [2,3,4,0] Z (H':=V4 ..) Z ?_;refine jM (aB,aE,aF,bS,aJ,aK,aL) e [13,12,11,10,9,1,2,3] [6,7,8] Z;rintro⟨aR,aS,aT,b3,aU,aV,aW⟩ g;try dsimp only at g⊢
 have e:=QR kp g;try dsimp only at e
 refine Qb<|ay Z<|kg e λeA e=>Qn (jz (a:=aD) (b:=1) eA)<|Qq (S':=V9 ..) Z Z Z Z Z<|Q2 ?_;refine pN (aD+1,aR,aS,aT,b3,aU,aV,aW) (QR cn (zs e)) [13,12,11,10,9,1,2,3] [0,1,2] Z;refine k6 12 11 10 9 2 3 Z<|iT<|Q8<|Q8<|Qt<|Qh [1,2,3,0] Z (H':=V4 ..) Z ?_;refine jn (aE,aF,b2,aB,aJ,aK,aL) (Qx cn (zs e)) [11,10,9,2,3,12] [1,2] Z;rintro⟨a8,a0,a7,a2,a3,a5,a6⟩ g;try dsimp only at g⊢
 have e:=QR iC g;try dsimp only at e
 refine sq<|wP Z<|nt<|Q6<|ks e λeB e og=>?_;refine cut (σ:=db×Bool) eB (λ(aX,b5)=>(.inl (aX,b5),[(11,.map (some aC)),(10,.pointer (a' pA s)),(9,.pointer (a' pA a1)),(2,aw a9 l3 U),(3,ao a4),(12,.slice a3 a6 a5),(14,.bool b5)],[.sli 3 QL a9 U l3,tF],[mapF prog 3 4 (DM lW) aC a8 a0,ix s aX,ix a1 a7,.own 40 3 QL (.slice a3 a6 a5) a2])) ?_ ?_;refine sq<|wP Z<|nt<|Qi<|pM (σ:=Nat×Bool×db) (XK N l3 a0) (λ(aI,b9,aG)=>((aI,b9,aG),[(15,ao (aI:Int)),(14,.bool b9),(11,.map (some aC)),(10,.pointer (a' pA s)),(9,.pointer (a' pA a1)),(2,aw a9 l3 U),(3,ao a4),(12,.slice a3 a6 a5)],[.sli 3 QL a9 U l3,tF],[mapF prog 3 4 (DM lW) aC a8 a0,ix s aG,ix a1 a7,.own 40 3 QL (.slice a3 a6 a5) a2])) (0,false,bG) e [15,14,11,10,9,2,3,12] [0,1] Z λs_ g5 g6 e oh=>?_;obtain⟨aI,b9,aG⟩:=s_;unfold XK at e;try dsimp only at e⊢
 refine Q6<|sq<|ay Z<|wN Z qY<|wP Z<|Qn (jP aI l3.length)<|Rp 85 15 14 11 10 9 2 3 12 Z ?_;refine QO e Z (λe=>?_) λe=>?_;refine k8 15 14 11 10 9 2 3 12 Z<|kt<|Q6<|ks e λeC e GG=>?_;unfold Q40 at e;refine cut (σ:=Bool×db) eC (λ(b6,aY)=>(.inl (b6,aY),[(15,ao (aI:Int)),(14,.bool b6),(11,.map (some aC)),(10,.pointer (a' pA s)),(9,.pointer (a' pA a1)),(2,aw a9 l3 U),(3,ao a4),(12,.slice a3 a6 a5)],[.sli 3 QL a9 U l3,tF],[mapF prog 3 4 (DM lW) aC a8 a0,ix s aY,ix a1 a7,.own 40 3 QL (.slice a3 a6 a5) a2])) ?_ ?_;refine Qi<|Q6<|sq<|ay Z<|kn e λc3 eD e=>wI 0 aI Z eD qY jr λg7 g8 fD f1=>jV Dx 1 Z λcD eE _=>?_;subst eE;refine jZ 1 0 (V3 ..) Z jr vR Z<|mC Z Z Z Zq Z Ho Tq Z (out:=V4 ..) Z<|tz Z Z Z Zq Z vp D6 Ho Z (zs:=[.bool false,ao 0,ao 0,V1]) aq Z (out:=V4 ..) Z λf2=>K9 (sz:=4) (m:=1) Oz ([(⟨false,c3⟩:QS)]) 0 Z (λF w bj=>⟨[.bool false,ao (c3.id),ao (c3.ty),aw cD.1 c3.args cD.2],[],Z,Z,⟨(cD.1,cD.2),Z,(jm (bj _ (iZ (k:=0) Z)) QF)⟩,Z⟩) Z bf (H':=V5 ..) Z<|kn e λg9 eF e=>pH [] [0,1,2,3,4] [0] Z Z Z Zq Z Z SI Z (@Q7T N (some ⟨f2,0,none⟩) 1 [(⟨false,c3⟩:QS)] _ eF) (λF w bj hh=>(jm (vN (hh _ (iZ (k:=0) Z))) (jm (bj _ (iZ (k:=4) Z)) QF))) (λ_ _ _ hR=>by obtain⟨rfl,rfl,rfl⟩:=hR;exact⟨Z,(λ_ h=>Qcj h)⟩) Z Z (H':=V5 ..) Z ?_;rintro _ _ _ ⟨rfl,rfl,rfl⟩;refine wP Z<|Rp 95 15 14 11 10 9 2 3 12 Z ?_;refine QO e Z (λe=>?_) λe=>?_;refine k0 Z<|sq<|wP Z<|nr<|rb<|Q5<|rb<|Q5 ?_;obtain rfl:=(Qx og (Qx oh (Qx GG (zs e)))).symm;refine ct [] [] results6 Z ⟨Z,Z,Z⟩ Z;refine k8 15 14 11 10 9 2 3 12 Z<|kt<|sq<|ay Z<|wP Z<|kn e λeG eH e=>wI 3 aI Z eH qY jr λgA gB fE f3=>jV Dx 1 Z λgC eI _=>?_;subst eI;refine wF Z HK<|jZ 1 0 [_] Z dh dx Z<|kg e λcU e=>yG (E:=(DM lW)) 1 Z Z Z Zq Z Z Z Z RN Xn N5 cU (v:=.bool ((a0 eG.id).getD false)) (by cases(a0 eG.id)<;>rfl)<|wP Z<|Rp 103 15 14 11 10 9 2 3 12 Z ?_;refine QO e Z (λe=>?_) λe=>?_;refine k8 15 14 11 10 9 2 3 12 Z<|Qb<|ay Z ?_;refine fo e (λe=>?_) λe=>?_;refine eh Z<|ew Z<|wO Z<|wP Z<|Qq (S':=V17 ..) Z Z Z Z Z<|Q2<|Q7<|Qh [1,2,3,4] Z (H':=V4 ..) Z ?_;refine jM (true,aG) e [15,14,11,10,9,2,3,12] [6,7] Z;refine ay Z<|wP Z<|kn e λc5 cV e=>wI 6 aI Z cV qY jr λfF fG f4 eS=>jV Dx 1 Z λcO cW _=>?_;subst cW;refine jZ 1 0 (V3 ..) Z jr vR Z ?_;obtain⟨⟨bT,cE⟩,cX,e⟩:=Qz e;try dsimp only at e
 refine wC [2] [0,1,3,4] Z BB Z (Bf s aG c5.id c5.ty cO.1 cO.2 c5.args _ _ cX) (bh [0] Z) Z (H':=V4 ..) Z ?_;rintro _ _ _ ⟨rfl,rfl,rfl⟩;refine wP Z<|Qn (rK bT 204)<|wP Z<|Qq (S':=V17 ..) Z Z Z Z Z<|Q2<|Q7<|Qh [2,0,3,4] Z (H':=V4 ..) Z ?_;refine jM (bT==204,cE) e [15,14,11,10,9,2,3,12] [9,10] Z;refine k8 15 14 11 10 9 2 3 12 Z<|QV<|Q7<|Qh [1,2,3,4] Z (H':=V4 ..) Z ?_;refine jM (b9,aG) e [15,14,11,10,9,2,3,12] [6,7] Z;rintro⟨b6,aY⟩ g;try dsimp only at g⊢
 have e:=QR GG g;try dsimp only at e
 refine Qb<|ay Z<|kg e λeJ e=>Qn (jz (a:=aI) (b:=1) eJ)<|Qq (S':=V9 ..) Z Z Z Z Z<|Q2 ?_;refine pN (aI+1,b6,aY) (QR oh (zs e)) [15,14,11,10,9,2,3,12] [0,1] Z;refine k7 14 11 10 9 2 3 12 Z<|iT<|Q8<|Q8<|Qt ?_;refine jn (aG,b9) (Qx oh (zs e)) [11,10,9,2,3,12,14] [0,1] Z;rintro⟨aX,b5⟩ g;try dsimp only at g⊢
 have e:=QR og g;try dsimp only at e
 refine sq<|ay Z<|rM 3 Z λcY _=>wN Z qY<|Qn (kV cY)<|wP Z<|kg e λcZ e=>Qn (jz (a:=a2.length) (b:=1) cZ)<|kn e λbL d0 e=>c0 [] [0,1,2,3] Z a0k d0 QcF [] (V4 ..) Z<|wP Z<|JF 16 11 10 9 2 12 14 Z<|Q6<|kn e λeK e Lo=>?_;refine cut (σ:=db×Bool) eK (λ(aZ,b7)=>((aZ,b7),[(11,.map (some aC)),(10,.pointer (a' pA s)),(9,.pointer (a' pA a1)),(2,aw a9 l3 U),(14,.bool b7)],[.sli 3 QL a9 U l3,tF],[mapF prog 3 4 (DM lW) aC a8 a0,ix s aZ,ix a1 a7])) ?_ ?_;refine sq<|wP Z<|nt<|Qi<|pM (σ:=Nat×db×Bool) (XL N a2 bL) (λ(aO,aM,bI)=>((aO,aM,bI),[(17,ao (aO:Int)),(16,ao bL),(11,.map (some aC)),(10,.pointer (a' pA s)),(9,.pointer (a' pA a1)),(2,aw a9 l3 U),(12,.slice a3 a6 a5),(14,.bool bI)],[.sli 3 QL a9 U l3,tF],[mapF prog 3 4 (DM lW) aC a8 a0,ix s aM,ix a1 a7,.own 40 3 QL (.slice a3 a6 a5) a2])) (0,aX,b5) e [17,16,11,10,9,2,12,14] [0,1] Z λs_ gD gE e Lp=>?_;obtain⟨aO,aM,bI⟩:=s_;unfold XL at e;try dsimp only at e⊢
 refine Q6<|sq<|ay Z<|rM 3 Z λd1 _=>wN Z qY<|Qn (kV d1)<|wP Z<|Qn (jP aO a2.length)<|Rp 122 17 16 11 10 9 2 12 14 Z ?_;refine QO e Z (λe=>?_) λe=>?_;refine k8 17 16 11 10 9 2 12 14 Z<|kt<|Q6<|kn e λeL e a0D=>?_;unfold Q41 at e;refine cut (σ:=db×Bool) eL (λ(b1,b8)=>((b1,b8),[(17,ao (aO:Int)),(16,ao bL),(11,.map (some aC)),(10,.pointer (a' pA s)),(9,.pointer (a' pA a1)),(2,aw a9 l3 U),(12,.slice a3 a6 a5),(14,.bool b8)],[.sli 3 QL a9 U l3,tF],[mapF prog 3 4 (DM lW) aC a8 a0,ix s b1,ix a1 a7,.own 40 3 QL (.slice a3 a6 a5) a2])) ?_ ?_;refine Qi<|Qb<|ay Z ?_;refine fo e (λe=>?_) λe=>?_;refine eh Z<|eh Z<|eh Z<|wP Z<|Qq (S':=V22 ..) Z Z Z Z Z<|Q2<|Q7 ?_;refine jM (aM,true) e [17,16,11,10,9,2,12,14] [0,1] Z;refine ay Z<|ay Z<|wP Z<|kg e λd2 e=>Qn (i64_in d2)<|wP Z<|rM 3 Z λd3 _=>wN Z qY<|Qn (kV d3)<|kg e λd4 e=>sF Z Z Z Zq Z Z Z (Hb d4)<|kg e λd5 e=>kn e λbD c6 e=>Gd 3 ((i' ((aO:Int)+bL) (a2.length:Int)).toNat) Z Z Z Zq Z Z Z Z (wZ d5) (lN c6) qY jr λfH d6=>?_;subst d6;refine JU Dx 3 ((i' ((aO:Int)+bL) (a2.length:Int)).toNat) 0 Z Z Z Zq Z Z Z c6 jr vR (v:=λbM=>.agg #[ao (bD.id),ao (bD.ty),aw bM.1 bD.args bM.2]) (λ_=>Z) (λ_=>Z) λbM _=>?_;obtain⟨⟨bU,cF⟩,d7,e⟩:=Qz e;try dsimp only at e
 refine wC [1] [0,2,3] Z BB Z (Bf s aM bD.id bD.ty bM.1 bM.2 bD.args _ _ d7) (bh [0] Z) Z (H':=V3 ..) Z ?_;rintro _ _ _ ⟨rfl,rfl,rfl⟩;refine wP Z<|Qn (S4 bU 0)<|wP Z<|Qq (S':=V22 ..) Z Z Z Z Z<|Q2<|Q7<|Qh [1,0,2,3] Z (H':=V4 ..) Z ?_;refine jM (cF,bU !=0) e [17,16,11,10,9,2,12,14] [1,2] Z;rintro⟨b1,b8⟩ g;try dsimp only at g⊢
 have e:=a0D;try rw[g]at e
 try dsimp only at e
 refine Qb<|ay Z<|kg e λd8 e=>Qn (jz (a:=aO) (b:=1) d8)<|Qq (S':=V9 ..) Z Z Z Z Z<|Q2 ?_;refine pN (aO+1,b1,b8) (QR Lp (zs e)) [17,16,11,10,9,2,12,14] [0,1] Z;refine k5 11 10 9 2 14 Z<|iT<|Q8<|Q8<|Qt<|Qh [0,1,2] Z (H':=V3 ..) Z ?_;refine jn (aM,bI) (Qx Lp (zs e)) [11,10,9,2,14] [0,1] Z;rintro⟨aZ,b7⟩ g;try dsimp only at g⊢
 have e:=Lo;try rw[g]at e
 try dsimp only at e
 refine Q6<|kn e λeM e a0E=>?_;refine cut (σ:=db×Bool) eM (λ(aN,bK)=>((aN,bK),[(10,.pointer (a' pA s)),(9,.pointer (a' pA a1)),(14,.bool bK)],[tF],[ix s aN,ix a1 a7])) ?_ ?_;refine sq<|wP Z<|nt<|Qi<|pM (σ:=Nat×db×Bool) (XM N l3 a0) (λ(aP,aH,bA)=>((aP,aH,bA),[(18,ao (aP:Int)),(11,.map (some aC)),(10,.pointer (a' pA s)),(9,.pointer (a' pA a1)),(2,aw a9 l3 U),(14,.bool bA)],[.sli 3 QL a9 U l3,tF],[mapF prog 3 4 (DM lW) aC a8 a0,ix s aH,ix a1 a7])) (0,aZ,b7) e [18,11,10,9,2,14] [0,1] Z λs_ gF gG e a0F=>?_;obtain⟨aP,aH,bA⟩:=s_;unfold XM at e;try dsimp only at e⊢
 refine Q6<|sq<|ay Z<|wN Z qY<|wP Z<|Qn (jP aP l3.length)<|JF 143 18 11 10 9 2 14 Z ?_;refine QO e Z (λe=>?_) λe=>?_;refine k6 18 11 10 9 2 14 Z<|kt<|Q6<|kn e λd9 e VW=>?_;unfold Q3M at e;refine cut (σ:=db×Bool) d9 (λ(aQ,b4)=>((aQ,b4),[(18,ao (aP:Int)),(11,.map (some aC)),(10,.pointer (a' pA s)),(9,.pointer (a' pA a1)),(2,aw a9 l3 U),(14,.bool b4)],[.sli 3 QL a9 U l3,tF],[mapF prog 3 4 (DM lW) aC a8 a0,ix s aQ,ix a1 a7])) ?_ ?_;refine Qi<|sq<|ay Z<|wP Z<|kn e λcP dA e=>wI 0 aP Z dA qY jr λfI fJ f5 eT=>jV Dx 1 Z λfK dB _=>?_;subst dB;refine wF Z HK<|jZ 1 0 [_] Z dh dx Z<|kg e λdC e=>yG (E:=(DM lW)) 0 Z Z Z Zq Z Z Z Z RN Xn N5 dC (v:=.bool ((a0 cP.id).getD false)) (by cases(a0 cP.id)<;>rfl)<|wP Z<|JF 153 18 11 10 9 2 14 Z ?_;refine QO e Z (λe=>?_) λe=>?_;refine k6 18 11 10 9 2 14 Z<|Qb<|ay Z ?_;refine fo e (λe=>?_) λe=>?_;refine eh Z<|eh Z<|wP Z<|Qq (S':=V16 ..) Z Z Z Z Z<|Q2<|Q7 ?_;refine jM (aH,true) e [18,11,10,9,2,14] [3,4] Z;refine ay Z<|wP Z<|kn e λeN dD e=>wI 3 aP Z dD qY jr λfL fM f6 eU=>jV Dx 1 Z λfN dE _=>?_;subst dE;refine wF Z HK<|jZ 1 0 [_] Z dh dx Z ?_;obtain⟨⟨bV,cG⟩,dF,e⟩:=Qz e;try dsimp only at e
 refine wC [1] [0,2] Z KQ Z (ED s aH eN.id _ _ dF) (bh [] Z) Z (H':=[_,_]) Z ?_;rintro _ _ _ ⟨rfl,rfl,rfl⟩;refine wP Z<|Qn (rK bV 204)<|wP Z<|Qq (S':=V16 ..) Z Z Z Z Z<|Q2<|Q7<|Qh [1,0,2] Z (H':=V3 ..) Z ?_;refine jM (cG,bV==204) e [18,11,10,9,2,14] [6,7] Z;refine k6 18 11 10 9 2 14 Z<|QV<|Q7 ?_;refine jM (aH,bA) e [18,11,10,9,2,14] [3,4] Z;rintro⟨aQ,b4⟩ g;try dsimp only at g⊢
 have e:=VW;try rw[g]at e
 try dsimp only at e
 refine Qb<|ay Z<|kg e λdG e=>Qn (jz (a:=aP) (b:=1) dG)<|Qq (S':=V7 ..) Z Z Z Z Z<|Q2 ?_;refine pN (aP+1,aQ,b4) (QR a0F (zs e)) [18,11,10,9,2,14] [0,1] Z;refine k3 10 9 14 Z<|iT<|Q8<|Q8<|Qt<|Qh [1,2] Z (H':=[_,_]) Z ?_;refine jn (aH,bA) (Qx a0F (zs e)) [10,9,14] [1] Z;rintro⟨aN,bK⟩ g;try dsimp only at g⊢
 have e:=a0E;try rw[g]at e
 try dsimp only at e
 refine sq<|ay Z ?_;refine fo e (λe=>?_) λe=>?_;refine eh Z<|eh Z<|eh Z<|ay Z<|dz 8 Z<|Qm ?_;obtain rfl:=Zi e;refine ct [] [] results6 Z ⟨Z,Z,Z⟩ Z;refine wP Z<|kn e λeO dH e=>wC [1] [0] Z KS Z (M9 a1 a7 _ dH) (bh [] Z) Z (H':=[_]) Z ?_;rintro _ _ _ ⟨rfl,rfl,rfl⟩;refine wP Z<|kn e λeP dI e=>wC [1] [0] Z KS Z (M9 s aN _ dI) (bh [] Z) Z (H':=[_]) Z ?_;rintro _ _ _ ⟨rfl,rfl,rfl⟩;refine wP Z<|Qn (rK eO eP)<|wP Z ?_;refine fo e (λe=>?_) λe=>?_;refine wP Z<|kn e λeQ dJ e=>wC [1] [0] Z BC Z (Dd a1 a7 _ dJ) (bh [] Z) Z (H':=[_]) Z ?_;rintro _ _ _ ⟨cH,cI,eV,rfl,rfl,rfl⟩;refine wP Z<|kn e λeR dK e=>wC [2] [0,1] Z BC Z (Dd s aN _ dK) (bh [] Z) Z (H':=[_,_]) Z ?_;rintro _ _ _ ⟨cJ,cK,eW,rfl,rfl,rfl⟩;refine rM 2 Z λbX _=>?_;subst bX;refine rM 0 Z λbY _=>?_;subst bY;refine kn e λfO dL e=>pH [] [0,1,2,3] [2,0] Z Z Z Zq Z Z a0j Z (@Qa8 N cH cI eQ cJ cK eR _ dL) (λF w bj hh=>(jm (vN (hh _ (iZ (k:=0) Z))) (jm (vN (hh _ (iZ (k:=1) Z))) QF))) (λ_ _ _ hR=>by obtain⟨rfl,rfl,rfl⟩:=hR;exact⟨Z,(λ_ h=>Qcj h)⟩) Z Z (H':=V4 ..) Z ?_;rintro _ _ _ ⟨rfl,rfl,rfl⟩;refine ay Z<|wP Z<|dz 8 Z<|Qm ?_;obtain rfl:=Zi e;refine ct [] [] results6 Z ⟨Z,Z,Z⟩ Z;refine eh Z<|wO Z<|ay Z<|wP Z<|dz 8 Z<|Qm ?_;obtain rfl:=Zi e;refine ct [] [] results6 Z ⟨Z,Z,Z⟩ Z
end
section
open Go Go.RowKit
variable {x a b n id:Int}
theorem IX:HE nF jR=true:=by
 have h:Si 9223372036855854808 nF jR=some true:=aq
 have h2:=QaH (N:=9223372036855854808) (types:=nF) (rules:=jR) bf (λr hr=>by
  rw[b'.1 hr]
  exact ⟨λc hc=>by
   rcases d'.1 hc with rfl|hc;· exact⟨bf,bf⟩
   · rw[b'.1 hc];exact⟨bf,bf⟩,λa U=>by
   rcases d'.1 U with rfl|U;· decide
   · rw[b'.1 U];decide⟩)
 rw[h]at h2;exact(Option.some.inj h2).symm
theorem JE (h:0<=x/\x<=255):lA .u8 x:=by
 have U:IntKind.min .u8=0:=bf
 have e2:IntKind.max .u8=255:=bf
 unfold lA;rw[U,e2];exact h
theorem mU (h:-9223372036854775808<=x/\x<=9223372036854775807):lA .i64 x:=by
 have U:IntKind.min .i64=-9223372036854775808:=bf
 have e2:IntKind.max .i64=9223372036854775807:=bf
 unfold lA;rw[U,e2];exact h
theorem vK:wJ zV:=⟨JE bf,mU bf,bf⟩
theorem H6 (h:-9223372036854775808<=n/\n<=9223372036854775807):wJ ⟨1,n,⟨#[]⟩⟩:=⟨JE (show(0:Int)<=1/\(1:Int)<=255 by decide),mU h,by show(0:Nat)<=_;omega⟩
theorem oz {k o:Int} {v:V} (hk:0<=k/\k<=255)(hv:wJ v)(hx:-9223372036854775808<=x/\x<=9223372036854775807)(U:0<=o/\o<=255) {l:List Q4} (hl:l.length<=100)(h:∀y∈l,cj y):cj ⟨k,v,x,o,l⟩:=
 .mk _ (JE hk) hv (mU hx) (JE U) (by show l.length<=_;omega) h
theorem Tx:cj zE:=oz bf vK bf bf bf (λy hy=>by cases hy)
theorem X2:sG nF jR where
 right:=IX
 ok:=λr hr=>by
  rw[b'.1 hr];refine⟨bf,mU bf,mU bf,⟨bf,λc hc=>?_⟩,⟨bf,λa U=>?_⟩⟩
  ·rcases d'.1 hc with rfl|hc
   ·refine⟨JE bf,mU bf,⟨bf,λa U=>?_⟩,Tx⟩;rcases d'.1 U with rfl|U;· exact⟨JE bf,mU bf,vK⟩
    · rw[b'.1 U];exact⟨JE bf,mU bf,H6 bf⟩
   ·rw[b'.1 hc];refine⟨JE bf,mU bf,⟨bf,λa U=>?_⟩,Tx⟩;rcases d'.1 U with rfl|U;· exact⟨JE bf,mU bf,vK⟩
    · rw[b'.1 U];exact⟨JE bf,mU bf,vK⟩
  ·rcases d'.1 U with rfl|U
   ·refine ⟨JE bf,mU bf,mU bf,bf,λe he=>?_⟩;rcases d'.1 he with rfl|he;· exact oz bf vK bf bf bf (λy hy=>by cases hy)
    ·rw[b'.1 he];refine oz bf vK bf bf bf λy hy=>?_
     rcases d'.1 hy with rfl|hy;· exact oz bf vK bf bf bf (λy hy=>by cases hy)
     ·rw[b'.1 hy];exact oz bf (H6 bf) bf bf bf (λy hy=>by cases hy)
   ·rw[b'.1 U];exact⟨JE bf,mU bf,mU bf,bf,λe he=>by cases he⟩
 light:=λr hr=>by
  rw[b'.1 hr];refine⟨λc hc=>?_,λa U=>?_⟩
  ·rcases d'.1 hc with rfl|hc;· exact⟨bf,bf⟩
   · rw[b'.1 hc];exact⟨bf,bf⟩
  ·rcases d'.1 U with rfl|U;· decide
   · rw[b'.1 U];decide
def af (id a b:Int):Qo:=⟨id,0,[⟨1,a,⟨#[]⟩⟩,⟨1,b,⟨#[]⟩⟩]⟩
theorem y9:rQ ⟨1,n,⟨#[]⟩⟩=true:=by
 unfold rQ;exact @decide_eq_true _ (Classical.propDecidable _) (.inl ⟨rfl,rfl⟩)
theorem Kg (h:0<id/\id<=1099511627776):ko nF 0 (af id a b)=true:=by
 unfold ko;have U:decide (0<(af id a b).id/\(af id a b).id<=1099511627776)=true:=decide_eq_true h;rw[U,M'];have e:wa nF (af id a b).ty (((af id a b).args.length:Nat):Int)=true:=rfl;rw[e,M'];show(List.all [_,_] rQ)=true;rw[O',O',List.all_nil,y9,y9];rfl
theorem Pc (ha:dv a)(hb:dv b):JR [⟨1,a,⟨#[]⟩⟩,⟨1,b,⟨#[]⟩⟩]:=⟨by show 2<=_;omega,λv U=>by
 rcases d'.1 U with rfl|U;· exact⟨ha,by show 0<=_;omega⟩
 · rw[b'.1 U];exact⟨hb,by show 0<=_;omega⟩⟩
theorem Kf {facts:List Qo} (h:0<id/\id<=1099511627776)(ha:dv a)(hb:dv b)(hl:facts.length<=1000000)(hn:(facts.any λg=>decide (g.id=id))=false)(hs:jK (iH (af id a b) facts) jR<=4096):
  Gi NB (.net nF jR facts) id 0 [⟨1,a,⟨#[]⟩⟩,⟨1,b,⟨#[]⟩⟩]=some (0,.net nF jR (iH (af id a b) facts)):=by
 unfold Gi;simp only;rw[if_pos ⟨e' _,hl,Pc ha hb⟩]
 have e:kE nF jR facts (af id a b)=(iH (af id a b) facts,0):=by
  unfold kE;have U:(facts.any λg=>decide (g.id=(af id a b).id))=false:=hn;rw[if_pos (Kg h),U,if_neg ax,if_pos hs]
 show some ((kE nF jR facts (af id a b)).2,db.net nF jR (kE nF jR facts (af id a b)).1)=_;rw[e]
theorem a3j:jK [af 1 1 1] jR=2:=aq
theorem a3k:jK [af 1 1 1,af 2 1 2] jR=3:=aq
theorem a3l:jK [af 2 1 2] jR=0:=aq
theorem a0f:Bb [af 1 1 1] jR 0=[⟨0,[1,1]⟩]:=aq
theorem a0g:Bb [af 1 1 1,af 2 1 2] jR 0=[⟨0,[1,1]⟩,⟨0,[1,2]⟩]:=aq
theorem a0h:Bb [af 2 1 2] jR 0=[]:=aq
theorem Kl:Ze NB=some true:=by
 have h1:newN NB nF jR=some (.net nF jR []):=if_pos ⟨e' _,X2⟩;have U:Gi NB (.net nF jR []) 1 0 [⟨1,1,⟨#[]⟩⟩,⟨1,1,⟨#[]⟩⟩]=some (0,.net nF jR [af 1 1 1]):=Kf bf (by unfold dv;decide) (by unfold dv;decide) bf rfl (by show jK [af 1 1 1] jR<=4096;rw[a3j];decide)
 have h3:Em NB (.net nF jR [af 1 1 1])=some [⟨0,[1,1]⟩]:=by
  unfold Em;simp only;rw[if_pos (e' _),a0f]
 have h4:Gi NB (.net nF jR [af 1 1 1]) 2 0 [⟨1,1,⟨#[]⟩⟩,⟨1,2,⟨#[]⟩⟩]=some (0,.net nF jR [af 1 1 1,af 2 1 2]):=Kf bf (by unfold dv;decide) (by unfold dv;decide) bf rfl (by show jK [af 1 1 1,af 2 1 2] jR<=4096;rw[a3k];decide)
 have h5:Em NB (.net nF jR [af 1 1 1,af 2 1 2])=some [⟨0,[1,1]⟩,⟨0,[1,2]⟩]:=by
  unfold Em;simp only;rw[if_pos (e' _),a0g]
 have h6:Jn NB (.net nF jR [af 1 1 1,af 2 1 2]) 1=some (0,.net nF jR [af 2 1 2]):=by
  unfold Jn;simp only;rw[if_pos ⟨e' _,bf⟩]
  have e:AJ jR [af 1 1 1,af 2 1 2] 1=([af 2 1 2],0):=by
   unfold AJ;rw[if_pos Kk];exact if_pos (by show jK [af 2 1 2] jR<=4096;rw[a3l];decide)
  rw[e]
 have h7:Em NB (.net nF jR [af 2 1 2])=some []:=by
  unfold Em;simp only;rw[if_pos (e' _),a0h]
 have h8:Jn NB (.net nF jR [af 2 1 2]) 1=some (6,.net nF jR [af 2 1 2]):=by
  unfold Jn;simp only;rw[if_pos ⟨e' _,bf⟩]
  have e:AJ jR [af 2 1 2] 1=([af 2 1 2],6):=by
   unfold AJ;exact if_neg bf
  rw[e]
 unfold Ze Zl;rw[h1,Q1,Q1,U,Q1];simp only;rw[h3,Q1,Q1,h4,Q1];simp only;rw[h5,Q1,h6,Q1];simp only;unfold Q5n;simp only[h7,h8,rp,Q1];rfl
theorem II {N:Nat} (hN:9223372036854775808<=N) {l:List QS} (hl:l.length<=140737488351232)(ha:∀d∈l,d.fact.args.length<=4398046511104):∃b,TL N l=some b/\(b=true->l.length<=40/\∀d∈l,d.fact.args.length<=20/\∀v∈d.fact.args,v.s.size<=100):=by
 have inner:∀i,i<l.length->∀d,l[i]? =some d->∃o,fz (XR N l i) N 0=some o/\(o=.inl ()/\(∀v∈d.fact.args,v.s.size<=100)\/o=.inr (.inr (.inr false))):=by
  intro i hi d hd;refine Ec (f:=XR N l i) (λj=>j<=d.fact.args.length/\∀v∈d.fact.args.take j,v.s.size<=100) (λj=>d.fact.args.length-j) _ (λj hj=>?_) N 0 ⟨p' _,ax⟩ (by have:=ha d (l' hd);omega);obtain⟨h1,h2⟩:=hj;unfold XR;rw[hd,Q1];by_cases bp:j<d.fact.args.length
  ·rw [bq bp,Q1,c' bp,Q1];by_cases hs:100<d.fact.args[j].s.size
   ·rw[bq hs];exact .inr ⟨_,rfl,.inr rfl⟩
   ·rw [br hs,QC (by have:=ha d (l' hd);omega)];refine .inl ⟨_,rfl,⟨an,λv U=>?_⟩,an⟩;rw[u',c' bp]at U;rcases j'.1 U with U|U;· exact h2 v U
    ·have:v=d.fact.args[j]:=by simpa using U
     rw[this];omega
  ·rw[br bp];refine .inr ⟨_,rfl,.inl ⟨rfl,?_⟩⟩;rw[q' an]at h2;exact h2
 have outer:∃o,fz (XQ N l) N 0=some o/\(o=.inl ()/\(∀d∈l,d.fact.args.length<=20/\∀v∈d.fact.args,v.s.size<=100)\/o=.inr false):=by
  refine Ec (f:=XQ N l) (λi=>i<=l.length/\∀d∈l.take i,d.fact.args.length<=20/\∀v∈d.fact.args,v.s.size<=100) (λi=>l.length-i) _ (λi hi=>?_) N 0 ⟨p' _,ax⟩ an;obtain⟨h1,h2⟩:=hi;unfold XQ;by_cases bp:i<l.length
  ·have hd:=c' bp;rw[bq bp,hd,Q1];by_cases h20:20<l[i].fact.args.length
   ·rw[bq h20,Jh];exact .inr ⟨_,rfl,.inr rfl⟩
   ·rw [br h20];obtain⟨o,ho,hr⟩:=inner i bp _ hd;rw[ho];rcases hr with⟨rfl,U⟩|rfl
    ·rw [lX,QC an];refine .inl ⟨_,rfl,⟨an,λd BL=>?_⟩,an⟩;rw[u',hd]at BL;rcases j'.1 BL with BL|BL;· exact h2 d BL
     ·have:d=l[i]:=by simpa using BL
      rw[this];exact⟨an,U⟩
    ·rw[Jh];exact .inr ⟨_,rfl,.inr rfl⟩
  ·rw[br bp];refine .inr ⟨_,rfl,.inl ⟨rfl,?_⟩⟩;rw[q' an]at h2;exact h2
 obtain⟨o,ho,hr⟩:=outer;unfold TL;rw[ho];rcases hr with⟨rfl,U⟩|rfl
 ·rw[lX];exact⟨_,rfl,λh=>⟨by simpa using h,U⟩⟩
 ·rw[Jh];exact⟨_,rfl,λh=>by cases h⟩
end
section
open Go Go.RowKit
theorem Mr {N:Nat} {o k:Int} (hk:0<k)(U:k<=1000):∃v:Nat,Zv N o k=some ((v:Nat):Int)/\((v:Nat):Int)<k:=by
 unfold Zv;have h1:=Int.tmod_lt_of_pos o hk;rw[if_neg (by simp;omega),QC an];by_cases hm:i' o k<0
 ·have h2:-k<i' o k:=Int.lt_tmod_of_pos o hk;rw[bq hm,QC an,Q1];exact⟨(i' o k+k).toNat,by rw[E' an],an⟩
 ·rw[br hm,Q1];exact⟨(i' o k).toNat,by rw[E' an],an⟩
theorem Rn {R:Sm} (hR:Q8W R)(hl:∀r∈R.rules,yS r):newN NB R.types R.rules=some (if HE R.types R.rules=true then .net R.types R.rules []else .nil):=by
 have L:∀r∈R.rules,(∀c∈r.conds,c.args.length<=1000/\nodes c.test<=1000)/\∀a∈r.acts,pK a.exprs<=1000000:=λr U=>⟨λc hc=>⟨by have:=((hl r U).1 c hc).1;omega,by have:=((hl r U).1 c hc).2;omega⟩,λa ha=>by have:=(hl r U).2 a ha;unfold tw at this;omega⟩
 by_cases h:HE R.types R.rules=true
 ·rw[if_pos h];exact if_pos ⟨e' _,h,hR.2.2,L⟩
 ·rw[if_neg h];unfold newN;rw[if_neg λhh=>h hh.2.right,QaH bf λr U=>⟨λc hc=>⟨((L r U).1 c hc).1,by have:=((L r U).1 c hc).2;omega⟩,(L r U).2⟩,if_pos];cases e:HE R.types R.rules with
  |true=>exact absurd e h
  |false=>rfl
section
variable {ts:List Qa} {rs:List Q9} {F:List Qo} {f:Qo}
theorem tH (U:F.length<=1000000)(ok:Jj f):Gi NB (.net ts rs F) f.id f.ty f.args=some ((kE ts rs F f).2,.net ts rs (kE ts rs F f).1):=by
 unfold Gi;simp only;rw[if_pos ⟨e' _,U,⟨by have:=ok.2.2.1;omega,λv hv=>WO (ok.2.2.2 v hv)⟩⟩]
theorem zk:(kE ts rs F f=(iH f F,0)/\(∀g∈F,g.id≠f.id)/\jK (iH f F) rs<=4096)\/∃e,kE ts rs F f=(F,e)/\e≠0:=by
 unfold kE;split
 ·split;· exact .inr ⟨7,rfl,bf⟩
  ·rename_i h;split
   ·rename_i U;exact .inl ⟨rfl,λg hg e=>h (K'.2 ⟨g,hg,decide_eq_true e⟩),U⟩
   · exact .inr ⟨204,rfl,bf⟩
 · exact .inr ⟨2,rfl,bf⟩
theorem I5 {id:Int} (U:F.length<=1000000):Jn NB (.net ts rs F) id=some ((AJ rs F id).2,.net ts rs (AJ rs F id).1):=by
 unfold Jn;simp only;rw[if_pos ⟨e' _,U⟩]
theorem KB {id:Int}:(∃e,AJ rs F id=(jW id F,e)/\e≠204)\/AJ rs F id=(F,204):=by
 unfold AJ;split
 ·split;· exact .inl ⟨0,rfl,bf⟩
  · exact .inr rfl
 ·rename_i h;refine .inl ⟨6,?_,bf⟩;have:jW id F=F:=List.filter_eq_self.2 λg U=>decide_eq_true λe=>h (K'.2 ⟨g,U,decide_eq_true e⟩)
  rw[this]
theorem yf (ok:Jj f):∃b,TL NB [(⟨false,f⟩:QS)]=some b:=by
 obtain ⟨b,U,_⟩:=II (N:=NB) bf (l:=[⟨false,f⟩]) (by show 1<=_;omega) (λd hd=>by
  rw[b'.1 hd];have:=ok.2.2.1;show f.args.length<=_;omega)
 exact⟨b,U⟩
end
theorem MA:∀{a b:List Qo},kO a->kO b->(∀g,g∈a↔g∈b)->a=b
 |[],[],_,_,_=>rfl
 |[],y::b,_,_,h=>by cases(h y).2 f'
 |x::a,[],_,_,h=>by cases(h x).1 f'
 | x ::a,y::b,ha,hb,h=>by
   obtain⟨a1,a2⟩:=G'.1 ha;obtain⟨b1,b2⟩:=G'.1 hb
   have GN:x=y:=by
    rcases d'.1 ((h x).1 f')with e|e;· exact e
    ·rcases d'.1 ((h y).2 f')with e2|e2;· exact e2.symm
     ·have h1:=a1 y e2;have h2:=b1 x e;omega
   subst GN;rw[MA a2 b2 λg=>⟨λU=>?_,λU=>?_⟩]
   ·rcases d'.1 ((h g).1 (n' _ U))with e|e
    ·subst e;have:=a1 g U;omega
    · exact e
   ·rcases d'.1 ((h g).2 (n' _ U))with e|e
    ·subst e;have:=b1 g U;omega
    · exact e
theorem Bq {S:tG}:∀{cs:List Qv} {hs:List Bool} {vs:List V},xa S [] cs hs vs<=cs.length
 |[],_,_=>e' _
 | c ::cs,hs,vs=>by
   have U:=Bq (S:=S) (cs:=cs) (hs:=hs) (vs:=vs);rw[xa,r'];split
   ·split;· omega
    · omega
   ·split
    ·split;· omega
     · omega
    · exact p' _
theorem sum_nil:∀{rs:List Q9},(∀r∈rs,r.conds.length<=8)->jK [] rs<=8*rs.length
 |[],_=>e' _
 | r::rs,h=>by
   have h1:=sum_nil (rs:=rs) λx U=>h x (n' _ U);have h2:=h r f';have h3:Gu [] r<=r.conds.length:=Bq;rw[jK,r'];omega
structure Z2 (ts:List Qa) (rs:List Q9) (k:Nat) (l:List Qo) (m:Int->Option Bool) (x:db):Prop where
 len:l.length<=k
 ok:∀g∈l,Jj g
 th:∀q,(m q).getD false=true↔∃g∈l,g.id=q
 net:∃A,x=.net ts rs A/\kO A/\A.length<=k/\(∀g,g∈A↔g∈l)/\(A=[]\/jK A rs<=4096)
section
variable {ts:List Qa} {rs:List Q9} {l2 l3 own:List Qo} {m:Int->Option Bool}
variable {c:Nat}{x0:db}{b0:Bool}
theorem a3a (h2:∀g∈l2,Jj g)(hlen:l2.length<=1000):∃o,fz (XJ NB l2) NB (0,[],0,λ_=>none,.net ts rs [])=some o/\(o=.inr true\/∃n m x l,o=.inl (n,m,x,l)/\Z2 ts rs l2.length l m x):=by
 refine Ec (f:=XJ NB l2) (λs=>s.1<=l2.length/\s.2.2.1<=s.1/\Z2 ts rs s.1 s.2.1 s.2.2.2.1 s.2.2.2.2) (λs=>l2.length-s.1) _ (λs hs=>?_) NB _ ⟨p' _,e' _,e' _,λg hg=>(by cases hg),λq=>⟨λh=>(by cases h),λ⟨g,hg,_⟩=>(by cases hg)⟩,[],rfl,List.Pairwise.nil,e' _,λg=>Iff.rfl,.inl rfl⟩ (by show l2.length-0<9223372036860000000;omega);obtain⟨i,l,n,m,x⟩:=s;obtain⟨g1,g2,g3⟩:=hs;simp only at g1 g2 g3;unfold XJ;simp only;by_cases hi:i<l2.length
 ·rw [bq hi];unfold Q3Z;have hg:=h2 _ (o' hi);obtain⟨b,hb⟩:=yf hg;obtain⟨A,rfl,a1,a2,a3,a4⟩:=g3.net;have hl:=g3.len;rw[c' hi,Q1,hb,Q1];cases b with
  |false=>exact .inr ⟨_,rfl,.inl rfl⟩
  | true=>
    rw[if_neg ax,Q1,tH an hg,Q1];simp only;rcases zk (ts:=ts) (rs:=rs) (F:=A) (f:=l2[i])with⟨e,e2,e3⟩|⟨c,e,hc⟩
    ·rw [e];simp only;have SQ:-9223372036854775808<=l2[i].id/\l2[i].id<=9223372036854775807:=Cc hg.1;rw[if_pos (show((0:Nat)==0)=true from rfl),Q1,QC SQ,QC an,Q1,QC (by rw[C'];omega),lX,QC an];refine .inl ⟨_,rfl,⟨by show i+1<=_;omega,by show n+1<=i+1;omega,?_⟩,by show l2.length-(i+1)<l2.length-i;omega⟩;refine⟨by rw[List.length_append,C'];omega,λg U=>?_,λq=>?_,iH l2[i] A,rfl,a1.ins e2,by rw[Qck];omega,λg=>?_,.inr e3⟩
     ·rcases j'.1 U with U|U;· exact g3.ok g U
      · rw[b'.1 U];exact hg
     ·show ((if q=l2[i].id then some true else m q).getD false=true)↔_;by_cases hq:q=l2[i].id
      ·rw[if_pos hq];exact⟨λ_=>⟨_,D' _ f',hq.symm⟩,λ_=>rfl⟩
      ·rw[if_neg hq,g3.th q];refine⟨λ⟨g,U,e⟩=>⟨g,t' _ U,e⟩,λ⟨g,U,e⟩=>?_⟩;rcases j'.1 U with U|U;· exact⟨g,U,e⟩
       · rw[b'.1 U]at e;exact absurd e.symm hq
     ·rw[U9,a3 g,j',b'];exact Or.comm
    ·rw[e];simp only;rw[br hc,lX,QC an];exact .inl ⟨_,rfl,⟨by show i+1<=_;omega,by show n<=i+1;omega,by show l.length<=i+1;omega,g3.ok,g3.th,A,rfl,a1,by show A.length<=i+1;omega,a3,a4⟩,by show l2.length-(i+1)<l2.length-i;omega⟩
 ·rw[br hi];have:i=l2.length:=an
  subst this;exact .inr ⟨_,rfl,.inr ⟨n,m,x,l,rfl,g3⟩⟩
def InB (ts:List Qa)(rs:List Q9)(k:Nat)(full:Bool)(x:db)(p:Qo->Prop):Prop:=full=true\/∃B,x=.net ts rs B/\kO B/\B.length<=k/\∀g∈B,p g
theorem a3b (h3:∀g∈l3,Jj g) (hlen:l3.length<=1000):∃o,fz (XK NB l3 m) NB (0,false,.net ts rs [])=some o/\(o=.inr true\/∃x b,o=.inl (x,b)/\InB ts rs l3.length b x λg=>∃h∈l3,h.id=g.id/\(m h.id).getD false=false):=by
 refine Ec (f:=XK NB l3 m) (λs=>s.1<=l3.length/\InB ts rs s.1 s.2.1 s.2.2 λg=>∃h∈l3,h.id=g.id/\(m h.id).getD false=false) (λs=>l3.length-s.1) _ (λs hs=>?_) NB _ ⟨p' _,.inr ⟨[],rfl,List.Pairwise.nil,e' _,λg U=>by cases U⟩⟩ (by show l3.length-0<9223372036860000000;omega);obtain⟨i,full,x⟩:=s;obtain⟨g1,g2⟩:=hs;simp only at g1 g2;unfold XK;simp only;by_cases hi:i<l3.length
 ·rw [bq hi];unfold Q40;have hm:=o' hi;have U:=h3 _ hm;obtain⟨b,hb⟩:=yf U
  have stay:InB ts rs (i+1) full x λg=>∃h∈l3,h.id=g.id/\(m h.id).getD false=false:=by
    rcases g2 with h|⟨B,b1,b2,b3,b4⟩
    · exact .inl h
    · exact .inr ⟨B,b1,b2,an,b4⟩
  rw[c' hi,Q1,hb,Q1];cases b with
  |false=>exact .inr ⟨_,rfl,.inl rfl⟩
  | true =>
    have SQ:-9223372036854775808<=l3[i].id/\l3[i].id<=9223372036854775807:=Cc U.1;rw[if_neg ax,Q1,QC SQ];cases ht:(m l3[i].id).getD false with
    | true=>
      rw[if_neg ax,lX,QC an];exact .inl ⟨_,rfl,⟨by show i+1<=_;omega,stay⟩,by show l3.length-(i+1)<l3.length-i;omega⟩
    | false=>
      rw[if_pos (show(!false)=true from rfl)];cases full with
      | true=>
        rw[if_pos rfl,lX,QC an];exact .inl ⟨_,rfl,⟨by show i+1<=_;omega,.inl rfl⟩,by show l3.length-(i+1)<l3.length-i;omega⟩
      | false=>
        obtain⟨B,rfl,b2,b3,b4⟩:=g2.resolve_left ax;rw[if_neg ax,Q1,tH an U,Q1];simp only;rw[lX,QC an];refine .inl ⟨_,rfl,⟨by show i+1<=_;omega,?_⟩,by show l3.length-(i+1)<l3.length-i;omega⟩;rcases zk (ts:=ts) (rs:=rs) (F:=B) (f:=l3[i])with⟨e,e2,e3⟩|⟨c,e,hc⟩
        ·rw[e];refine .inr ⟨_,rfl,b2.ins e2,by rw[Qck];show B.length+1<=i+1;omega,λg BQ=>?_⟩;rcases U9.1 BQ with rfl|BQ;· exact⟨_,hm,rfl,ht⟩
         · exact b4 g BQ
        ·rw[e];exact .inr ⟨_,rfl,b2,by show B.length<=i+1;omega,b4⟩
 ·rw[br hi];have:i=l3.length:=an
  subst this;exact .inr ⟨_,rfl,.inr ⟨x,full,rfl,g2⟩⟩
theorem a3c {k:Nat} {B0:List Qo} (gw:∀g∈own,Jj g)(hlen:own.length<=1000)(hk:k<=own.length)(hc:c<=1000)(h0:b0=true\/x0=.net ts rs B0/\kO B0/\B0.length<=c):
  ∃x b,fz (XL NB own ((k:Nat):Int)) NB (0,x0,b0)=some (x,b)/\(b0=true->b=true)/\(b=true\/∃B,x=.net ts rs B/\kO B/\B.length<=c+own.length/\∀g,g∈B↔g∈B0\/∃t,t<own.length/\own[(t+k)%own.length]? =some g):=by
 obtain ⟨o,ho,x,b,rfl,hr⟩:=Ec (f:=XL NB own ((k:Nat):Int)) (λs=>s.1<=own.length/\(b0=true->s.2.2=true)/\(s.2.2=true\/∃B,s.2.1=.net ts rs B/\kO B/\B.length<=c+s.1/\∀g,g∈B↔g∈B0\/∃t,t<s.1/\own[(t+k)%own.length]? =some g)) (λs=>own.length-s.1) (λo=>∃x b,o=(x,b)/\(b0=true->b=true)/\(b=true\/∃B,x=.net ts rs B/\kO B/\B.length<=c+own.length/\∀g,g∈B↔g∈B0\/∃t,t<own.length/\own[(t+k)%own.length]? =some g)) (λs hs=>by
  obtain⟨i,x,full⟩:=s;obtain⟨g1,g0,g2⟩:=hs;simp only at g1 g0 g2;unfold XL;simp only;by_cases hi:i<own.length
  ·rw[bq hi];unfold Q41;left;cases full with
   | true=>
     rw[if_pos rfl,Q1,QC an];exact⟨_,rfl,⟨by show i+1<=_;omega,λ_=>rfl,.inl rfl⟩,by show own.length-(i+1)<own.length-i;omega⟩
   | false =>
     obtain⟨B,rfl,b2,b3,b4⟩:=g2.resolve_left ax;have G0:∀{q:Bool},b0=true->q=true:=λh=>absurd (g0 h) ax;have em:i' (((i:Nat):Int)+((k:Nat):Int)) ((own.length:Nat):Int)=(((i+k)%own.length:Nat):Int):=rfl;have bp:(i+k)%own.length<own.length:=Nat.mod_lt _ an;have hg:=gw _ (o' bp);rw[if_neg ax,QC an,QC an,em,QC an,Int.toNat_natCast,c' bp,Q1,tH an hg,Q1];simp only;rw[Q1,QC an];refine⟨_,rfl,⟨by show i+1<=_;omega,G0,?_⟩,by show own.length-(i+1)<own.length-i;omega⟩;rcases zk (ts:=ts) (rs:=rs) (F:=B) (f:=own[(i+k)%own.length])with⟨e,e2,e3⟩|⟨d,e,hd⟩
     ·   rw[e];refine .inr ⟨_,rfl,b2.ins e2,by rw[Qck];show B.length+1<=c+(i+1);omega,λg=>?_⟩;rw[U9,b4 g];constructor
         ·rintro(rfl|h|⟨t,U,h⟩);· exact .inr ⟨i,Nat.lt_succ_self _,c' bp⟩
          · exact .inl h
          · exact .inr ⟨t,Nat.lt_succ_of_lt U,h⟩
         ·rintro(h|⟨t,U,h⟩);· exact .inr (.inl h)
          ·by_cases hti:t=i
           ·subst hti;rw[c' bp]at h;exact .inl (Option.some.inj h).symm
           · exact .inr (.inr ⟨t,by have ht':t<i+1:=U;omega,h⟩)
     · rw[e];exact .inl (cx hd)
  ·rw[br hi];have:i=own.length:=an
   subst this
   exact .inr ⟨_,rfl,x,full,rfl,g0,g2⟩) NB (0,x0,b0) ⟨p' _,id,by
     rcases h0 with h|⟨rfl,h1,h2⟩
     · exact .inl h
     · exact .inr ⟨B0,rfl,h1,by show B0.length<=c+0;omega,λg=>⟨.inl,λh=>h.elim id λ⟨t,U,_⟩=>absurd U (L' _)⟩⟩⟩ (by show own.length-0<9223372036860000000;omega)
 exact⟨x,b,ho,hr⟩
theorem a3d {B1:List Qo} (h3:∀g∈l3,Jj g)(hlen:l3.length<=1000)(hc:c<=10000)(h0:b0=true\/x0=.net ts rs B1/\kO B1/\B1.length<=c):
  ∃x b,fz (XM NB l3 m) NB (0,x0,b0)=some (x,b)/\(b0=true->b=true)/\(b=true\/∃B,x=.net ts rs B/\kO B/\∀g,g∈B↔g∈B1/\∀h∈l3,(m h.id).getD false=false->g.id≠h.id):=by
 obtain ⟨o,ho,x,b,rfl,hr⟩:=Ec (f:=XM NB l3 m) (λs=>s.1<=l3.length/\(b0=true->s.2.2=true)/\(s.2.2=true\/∃B,s.2.1=.net ts rs B/\kO B/\B.length<=c/\∀g,g∈B↔g∈B1/\∀h∈l3.take s.1,(m h.id).getD false=false->g.id≠h.id)) (λs=>l3.length-s.1) (λo=>∃x b,o=(x,b)/\(b0=true->b=true)/\(b=true\/∃B,x=.net ts rs B/\kO B/\∀g,g∈B↔g∈B1/\∀h∈l3,(m h.id).getD false=false->g.id≠h.id)) (λs hs=>by
  obtain⟨i,x,full⟩:=s;obtain⟨g1,g0,g2⟩:=hs;simp only at g1 g0 g2;unfold XM;simp only;by_cases hi:i<l3.length
  ·rw[bq hi];unfold Q3M;have hg:=h3 _ (o' hi);have SQ:-9223372036854775808<=l3[i].id/\l3[i].id<=9223372036854775807:=Cc hg.1;have tk:l3.take (i+1)=l3.take i++[l3[i]]:=by rw[u',c' hi];rfl
   left;rw[c' hi,Q1,QC SQ];cases ht:(m l3[i].id).getD false with
   | true=>
     rw[if_neg ax,Q1,QC an];refine⟨_,rfl,⟨by show i+1<=_;omega,g0,?_⟩,by show l3.length-(i+1)<l3.length-i;omega⟩;rcases g2 with h|⟨B,b1,b2,b3,b4⟩
     · exact .inl h
     ·   refine .inr ⟨B,b1,b2,b3,λg=>?_⟩;rw[b4 g];refine and_congr_right λ_=>⟨λh a U e=>?_,λh a U e=>h a (by rw[tk];exact t' _ U) e⟩
         rw[tk]at U;rcases j'.1 U with U|U;· exact h a U e
         · rw[b'.1 U,ht]at e;cases e
   | false=>
     rw[if_pos (show(!false)=true from rfl)];cases full with
     |   true=>
         rw[if_pos rfl,Q1,QC an];exact⟨_,rfl,⟨by show i+1<=_;omega,λ_=>rfl,.inl rfl⟩,by show l3.length-(i+1)<l3.length-i;omega⟩
     |   false=>
         obtain⟨B,rfl,b2,b3,b4⟩:=g2.resolve_left ax;have G0:∀{q:Bool},b0=true->q=true:=λh=>absurd (g0 h) ax;rw[if_neg ax,Q1,I5 an,Q1];simp only;rw[Q1,QC an];refine⟨_,rfl,⟨by show i+1<=_;omega,G0,?_⟩,by show l3.length-(i+1)<l3.length-i;omega⟩;rcases KB (rs:=rs) (F:=B) (id:=l3[i].id)with⟨d,e,hd⟩|e
         ·rw[e];refine .inr ⟨_,rfl,b2.del,A' (List.length_filter_le _ _) b3,λg=>?_⟩;rw[tV,b4 g,and_assoc];refine and_congr_right λ_=>⟨λh a U e=>?_,λh=>⟨λa U e=>h a (by rw[tk];exact t' _ U) e,h l3[i] (by rw[tk];exact D' _ f') ht⟩⟩
          rw[tk]at U;rcases j'.1 U with U|U;· exact h.1 a U e
          · rw[b'.1 U];exact h.2
         ·rw[e];exact .inl rfl
  ·rw[br hi];have:i=l3.length:=an
   subst this;refine .inr ⟨_,rfl,x,full,rfl,g0,?_⟩;rw[q' (e' _)]at g2;rcases g2 with h|⟨B,b1,b2,_,b4⟩
   · exact .inl h
   · exact .inr ⟨B,b1,b2,b4⟩) NB (0,x0,b0) ⟨p' _,id,by
     rcases h0 with h|⟨rfl,h1,h2⟩
     · exact .inl h
     · exact .inr ⟨B1,rfl,h1,h2,λg=>⟨λh=>⟨h,λa U=>by cases U⟩,λh=>h.1⟩⟩⟩ (by show l3.length-0<9223372036860000000;omega)
 exact⟨x,b,ho,hr⟩
end
theorem rot {n k j:Nat} (hk:k<=n)(U:j<n):∃t,t<n/\(t+k)%n=j:=by
 by_cases h1:k=n;· exact⟨j,U,by rw[h1,J',x' U]⟩
 ·by_cases h2:k<=j;· exact⟨j-k,an,by rw[I' h2,x' U]⟩
  · exact⟨j+n-k,an,by rw[I' an,J',x' U]⟩
theorem Iy {N:Nat} {l:List Int} (U:l.length<N)(hl:l.length<=9223372036854775807):Zk N l l=some true:=by
 unfold Zk;rw[if_neg ax,xH l.length ?_ ?_ U,lX]
 ·intro i hi;unfold Z4;rw[bq hi,c' hi,Q1,Q1,if_neg ax,QC an]
 ·unfold Z4;rw[if_neg ax]
theorem J2 {N:Nat} {l:List Qy} (U:∀t∈l,t.ids.length<=8)(h9:8<N)(hN:l.length<N)(hl:l.length<=9223372036854775807):Z6 N l l=some true:=by
 unfold Z6;rw[if_neg ax,xH l.length ?_ ?_ hN,lX]
 ·intro i hi;unfold Z8 Q4a;have h:=U _ (o' hi);rw[bq hi,c' hi,Q1,Q1,if_pos ax,Iy an an,Q1,Q1,if_neg ax,QC an]
 ·unfold Z8;rw[if_neg ax]
theorem uY {p:Prop} (R:Sm) (hR:Q8W R) (l2:List Qo) (h2:l2.length<=140737488351232/\∀g∈l2,Jj g) (l3:List Qo) (h3:l3.length<=140737488351232/\∀g∈l3,Jj g) (z:Int) (_:p):Q3n NB R.types R.rules l2 l3 z=some true:=by
  obtain⟨b,hb,Wd⟩:=Ma (N:=NB) bf hR;unfold Q3n Q3Y;rw[Kl,Q1,if_neg ax,hb,Q1];cases b with
  |false=>rfl
  | true=>
    rw[if_neg ax];by_cases c2:25<l2.length;· rw[bq c2];rfl
    · rw [br c2,Q1];by_cases c3:15<l3.length;· rw[bq c3]
      · rw [br c3,Rn hR (Wd rfl),Q1,Q1];by_cases hr:HE R.types R.rules=true
        · rw [if_pos hr];have e0:¬(db.net R.types R.rules []).isNil=true:=nofun
          rw[if_neg e0,Q1,if_neg e0];obtain⟨o1,e1,r1⟩:=a3a (ts:=R.types) (rs:=R.rules) h2.2 an;rw[e1];rcases r1 with rfl|⟨n,m,x,own,rfl,hA⟩
          · rfl
          · rw [lX];simp only;obtain⟨o2,e2,r2⟩:=a3b (ts:=R.types) (rs:=R.rules) (m:=m) h3.2 an;rw[e2];rcases r2 with rfl|⟨y,bb,rfl,hB⟩
            · rfl
            · rw [lX];simp only;obtain⟨A,rfl,a1,a2,a3,a4⟩:=hA.net;have hol:=hA.len;obtain⟨k,hk,LD⟩:=Mr (N:=NB) (o:=z) (k:=((own.length+1:Nat):Int)) an an;have YC:k<=own.length:=an
              rw[QC an,hk,Q1]
              obtain ⟨B0,VS⟩:∃B0,bb=true\/y=.net R.types R.rules B0/\kO B0/\B0.length<=l3.length/\∀g∈B0,∃h∈l3,h.id=g.id/\(m h.id).getD false=false:=by
                rcases hB with h|⟨B,b1,b2,U,b4⟩
                · exact⟨[],.inl h⟩
                · exact⟨B,.inr ⟨b1,b2,U,b4⟩⟩
              obtain⟨y3,U,e3,k3,r3⟩:=a3c (ts:=R.types) (rs:=R.rules) (own:=own) (k:=k) (c:=l3.length) (B0:=B0) (x0:=y) (b0:=bb) hA.ok an an an (VS.imp_right λh=>⟨h.1,h.2.1,h.2.2.1⟩);rw[e3,Q1];simp only
              obtain ⟨B1,Yx⟩:∃B1,U=true\/y3=.net R.types R.rules B1/\kO B1/\B1.length<=l3.length+own.length/\∀g,g∈B1↔g∈B0\/∃t,t<own.length/\own[(t+k)%own.length]? =some g:=by
                rcases r3 with h|⟨B,b1,b2,U,b4⟩
                · exact⟨[],.inl h⟩
                · exact⟨B,.inr ⟨b1,b2,U,b4⟩⟩
              obtain⟨y4,b4,e4,k4,r4⟩:=a3d (ts:=R.types) (rs:=R.rules) (l3:=l3) (m:=m) (c:=l3.length+own.length) (B1:=B1) (x0:=y3) (b0:=U) h3.2 an an (Yx.imp_right λh=>⟨h.1,h.2.1,h.2.2.1⟩);rw[e4,Q1];simp only;cases b4 with
              |true=>rw[if_pos rfl]
              | false=>
                have q3:¬U=true:=λh=>by cases k4 h
                have q2:¬bb=true:=λh=>q3 (k3 h);obtain⟨_,_,_,d0⟩:=VS.resolve_left q2;obtain⟨_,_,_,d1⟩:=Yx.resolve_left q3;obtain⟨B,rfl,w1,w2⟩:=r4.resolve_left ax
                have hEq:A=B:=MA a1 w1 λg=>by
                  rw[a3 g,w2 g,d1 g];constructor
                  · intro hg;obtain⟨j,hj,rfl⟩:=List.getElem_of_mem hg;obtain⟨t,t1,t2⟩:=rot YC hj;refine⟨.inr ⟨t,t1,by rw[t2];exact c' hj⟩,λh _ hf e=>?_⟩;rw[(hA.th h.id).2 ⟨_,hg,e⟩]at hf;cases hf
                  · rintro⟨h|⟨t,t1,t2⟩,hn⟩
                    · obtain⟨h',h1,h2',Ii⟩:=d0 g h;exact absurd h2'.symm (hn h' h1 Ii)
                    · exact l' t2
                subst hEq;rw[if_neg ax];have hrc:=ry hr
                have a3B:jK A R.rules<=4096:=by
                  rcases a4 with rfl|h
                  · have:=sum_nil (rs:=R.rules) hrc.2;omega
                  · exact h
                have hfl:=xu A R.rules 0;have hNB:NB=9223372036860000000:=rfl;unfold rp Em;simp only;rw[Q1,Q1,if_pos ax,if_pos (e' _),Q1,Q1,J2 (λt ht=>Ib hrc.2 ht) bf an an];rfl
        · rw[if_neg hr];rfl
end
end Go.Proofs.YtocfkfhdcnjklaaGreatDoor
