import Derived.LaidEql
import Derived.Test.YtocfkfhdcnjklaaGreatDoorCeN
import Derived.RangeFuncRecord
import Derived.RangeFuncLeaves
import Derived.Test.YtocfkfhdcnjklaaGreatDoorChecked
import Derived.Shelf.SlSortCmp.Whole1
import Derived.Shelf.SlSortCmp.WholeK
import Derived.Shelf.SlSortCmp.NoneTotal
import Derived.Ground.SlsfProg
import Derived.Test.YtocfkfhdcnjklaaGreatDoorProg
import Derived.ProofKit
import Derived.OpenShut
import Derived.Deep.Slices
import Derived.Deep.Fields
import Derived.Deep.Strs
import Derived.Lib.SmallJoins
import Derived.Shelf.SlSortCmp.InsertionK
open List renaming getElem?_eq_some_iff->f',getElem?_map->j',getElem?_eq_getElem->l',getElem_mem->n',getElem?_append_right->p',mem_append->v',mem_map->x',eq_nil_of_length_eq_zero->y',mem_iff_getElem?->z',getElem?_take->b!,getElem?_append_left->c!,mem_or_eq_of_mem_set->d!,getElem?_eq_none_iff->e!,nodup_append->h!,reverse_cons->i!,append_assoc->j!,map_cons->k!,mem_of_mem_eraseIdx->l!,getElem?_cons_zero->n!,map_set->o!,nodup_cons->p!,eraseIdx_sublist->q!,set_append_right->r!,mem_of_getElem?->u!,filter_eq_self->v!,length_reverse->w!,finRange->y!,mem_singleton->z!,ext_getElem?->B!,length_cons->C!,map_toArray->D!,map_append->F!
open Nat renaming le_trans->h',le_refl->k',le_of_ble_eq_true->r',lt_irrefl->K',blt->M',lt_of_lt_of_le->Q',mul_le_mul_right->R',succ_mul->A!,beq->G!,beq_refl->H!,mul_comm->I!,le_succ->J!,zero_le->K!
open Array renaming getElem?_setIfInBounds->q',getElem?_eq_some_iff->u',getElem?_toList->F',extract_eq_self_of_le->a!,getElem?_eq_getElem->g!,getElem?_modify->t!,length_toList->x!
open Option renaming map_some->T'
open Bool renaming and_eq_true->E!
namespace Go.Proofs.YtocfkfhdcnjklaaGreatDoor
section
open Go Go.RowKit
structure MS (κ α:Type) where
 es:List (κ×α×Nat)
 clock:Nat
section
variable {κ α:Type} [DecidableEq κ]
def MS.keys (m:MS κ α):aq κ:=m.es.map (·.1)
def MS.nil:MS κ α:=⟨[],0⟩
def MS.look (m:MS κ α)(x:κ):bf α:=(ib x m.es).map (·.1)
def MS.put (m:MS κ α)(x:κ)(a:α):MS κ α:=match ib x m.es with
 |some y=>⟨kG x (a,y.2) m.es,m.clock⟩
 |none=>⟨m.es++[(x,a,m.clock)],m.clock+1⟩
def MS.del (m:MS κ α)(x:κ):MS κ α:=⟨m.es.filter (λy=>!decide (y.1=x)),m.clock⟩
def kJ {R:Type} (m:MS κ α)(done:aq κ)(x:WM R)(k:κ->WM R):WM R:=λQ=>((∀y∈m.keys,y∈done)->x Q)/\(∀y,y∈m.keys->y∉done->k y Q)
theorem xG {x:κ} {b:α}:∀{l:aq (κ×α)} {i:Nat},(l.map (·.1)).Nodup->l[i]? =some (x,b)->l.filter (λy=> !decide (y.1=x))=l.eraseIdx i
 |[],i,_,h=>by simp at h
 | y::l,0,U,h=>by
   simp only[n!,Option.some.injEq]at h;subst h;simp only[k!,p!]at U;rw[List.filter_cons_of_neg bh,List.eraseIdx_cons_zero];refine v!.2 λz hz=>?_
   have:z.1≠x:=λe=>U.1 (x'.2 ⟨z,hz,e⟩);simp[this]
 | y::l,i+1,U,h=>by
   simp only[List.getElem?_cons_succ]at h;simp only[k!,p!]at U;have ep:¬y.1=x:=λe=>U.1 (x'.2 ⟨_,u! h,e.symm⟩)
   rw[List.filter_cons_of_pos (by simp[ep]),List.eraseIdx_cons_succ,xG U.2 h]
theorem filter_none {x:κ} {l:aq (κ×α)} (h:x∉l.map (·.1)):l.filter (λy=>!decide (y.1=x))=l:=
 v!.2 λz U=>by
  have:z.1≠x:=λe=>h (x'.2 ⟨z,U,e⟩);simp[this]
end
structure wj (P:Program) (k:TypeId) (κ:Type) where
 enc:κ->Value
 ok:κ->Prop
 dom:κ->World->Prop
 check:∀{x},ok x->∀b w,(Instr.checkKey b 10000 k (enc x)).run P w=.ok () w
 find:∀{x},ok x->∀(es:List MapEntry) (ks:List κ),es.map (·.key)=ks.map enc->(∀y∈ks,ok y)->∀w,dom x w->(∀y∈ks,dom y w)->∃r,(Instr.findKey k (enc x) es).run P w=.ok r w/\((r=none/\x∉ks)\/∃(i:Nat) (e:MapEntry),r=some (i,e.val)/\es[i]? =some e/\ks[i]? =some x)
 stays:∀{x},ok x->∀w,(Instr.keyThatStays (enc x) (enc x)).run P w=.ok (enc x) w
def tM.X {P:da} {k:TypeId} {κ:Type} (K:tM P k κ):wj P k κ:=
 ⟨K.enc,K.ok,λ_ _=>True,K.check,λU es ks h hk w _ _=>K.find U es ks h hk w,K.stays⟩
def lQ (w:bx)(a:Nat):Prop:=∃c t,w.heap[a]? =some (.cells c t)
theorem VC {P:da} {k e i:Nat} (hk:P.underlying k=some (.pointer e))(hs:QV P e=some (i+1)) {w:bx} {x y:Nat} (U:lQ w x)(hy:lQ w y):
  (Op.equal k (.pointer (some ⟨x,0,none⟩)) (.pointer (some ⟨y,0,none⟩))).run P w=.ok (decide (x=y)) w:=by
 obtain⟨c,t,U⟩:=U;obtain⟨c',t',hy⟩:=hy;unfold Op.equal;rw[show Op.maxDepth=9999+1 from rfl,Op.equalIn];simp only[Sem.run_bind,run_underlying hk,Result.andThen_ok,w7 hs w];simp only[Nat.succ_ne_zero,ne_eq,not_false_eq_true,if_true];by_cases h:x=y;· subst h;simp[run_sameAddr_same]
 · rw[run_sameAddr_other w (a:=⟨x,0,none⟩) (b:=⟨y,0,none⟩) (λe=>h (congrArg Addr.block e)) U hy];simp[h]
theorem GD {P:da} {k e i:Nat} (hk:P.underlying k=some (.pointer e))(hs:QV P e=some (i+1)) {w:bx} {x:Nat} (hx:lQ w x):∀(es:aq MapEntry)(ks:aq Nat)(j:Nat),es.map (·.key)=ks.map (λy=>Value.pointer (some ⟨y,0,none⟩))->(∀y∈ks,lQ w y)->
   ∃r,(Instr.findAsking k (.pointer (some ⟨x,0,none⟩)) es j).run P w=.ok r w/\((r=none/\x∉ks)\/∃(q:Nat) (e:MapEntry),r=some (j+q,e.val)/\es[q]? =some e/\ks[q]? =some x)
 |[],[],j,_,_=>⟨none,by simp[Instr.findAsking],.inl ⟨rfl,bh⟩⟩
 |[],_::_,_,h,_=>by cases h
 |_::_,[],_,h,_=>by cases h
 | e::es,y::ks,j,h,hd=>by
   simp only[k!,List.cons.injEq]at h;obtain⟨h1,h2⟩:=h;have h3:=VC hk hs hx (hd y bh);by_cases U:x=y
   ·subst U;exact⟨some (j,e.val),by simp[Instr.findAsking,h1,h3],.inr ⟨0,e,rfl,rfl,rfl⟩⟩
   ·obtain⟨r,q1,q2⟩:=GD hk hs hx es ks (j+1) h2 (λz hz=>hd z (by simp[hz]));refine⟨r,by simp[Instr.findAsking,h1,h3,U,q1],?_⟩;rcases q2 with⟨rfl,q2⟩|⟨q,e',rfl,q3,q4⟩
    · exact .inl ⟨rfl,by simp[U,q2]⟩
    · exact .inr ⟨q+1,e',by rw[Nat.add_assoc,Nat.add_comm 1 q],q3,q4⟩
def Xx {P:da} {k e i:Nat} (hk:P.underlying k=some (.pointer e))(hs:QV P e=some (i+1)):wj P k Nat where
 enc x:=.pointer (some ⟨x,0,none⟩)
 ok _:=True
 dom x w:=lQ w x
 check:=λ_ b w=>pY hk trivial b 9999 w
 find:=λ{x} _ es ks h _ w hx hd=>by
  obtain⟨r,U,q2⟩:=GD hk hs hx es ks 0 h hd;refine⟨r,?_,?_⟩
  ·unfold Instr.findKey;simp only[Sem.run_bind,run_underlying hk,Result.andThen_ok];cases es with
   | nil=>cases ks with
     |nil=>simp only[Instr.findNow];simpa[Instr.findAsking]using U
     |cons y ks=>cases h
   | cons e1 es=>
     cases ks with
     |nil=>cases h
     | cons y ks=>
       simp only[k!,List.cons.injEq]at h;have:Instr.findNow (.pointer e) (.pointer (some ⟨x,0,none⟩)) (e1::es) 0=none:=by simp[Instr.findNow,Instr.sameNow]
       rw[this];exact U
  · simp only[Nat.zero_add]at q2;exact q2
 stays:=λ_ w=>vx (by unfold Instr.sameBits;simp) w
def iK {κ α:Type} {P:da} {k:TypeId} (K:wj P k κ)(ag:Bool)(R:fc α)(N F:eL)(b:Nat)(m:MS κ α)(w:bx):Prop:=
 N b/\∃E:Array MapEntry,w.heap[b]? =some (.map E m.clock)/\E.toList.map (·.key)=m.es.map (λx=>K.enc x.1)/\
   (∀(i:Nat) (e:MapEntry) (x:κ×α×Nat),E.toList[i]? =some e->m.es[i]? =some x->∃cs,lK ag cs=some e.val/\R.p F w cs x.2.1)/\
   (m.es.map (·.1)).Nodup/\(∀x∈m.es,K.ok x.1)/\E.toList.map (·.born)=m.es.map (·.2.2)/\(m.es.map (·.2.2)).Nodup/\∀x∈m.es,x.2.2<m.clock
theorem iK.good {κ α:Type} {P:da} {k:TypeId} {K:wj P k κ} {ag:Bool} {R:fc α} {b:Nat} {m:MS κ α} {N N' F G:eL} {w U:bx} (hN:∀k,N k->N' k)(ha:fX N w U)(hF:∀k,F k->G k)(hb:fX F w U)(h:iK K ag R N F b m w):iK K ag R N' G b m U:=by
 obtain⟨h1,E,h2,h3,h4,h5⟩:=h;refine⟨hN _ h1,E,(ha b h1).trans h2,h3,λi e x hi hx=>?_,h5⟩;obtain⟨cs,q1,q2⟩:=h4 i e x hi hx;exact⟨cs,q1,R.good hF hb q2⟩
def eH {κ α:Type} {P:da} {k:TypeId} (K:wj P k κ)(ag:Bool)(R:fc α)(b:Nat)(m:MS κ α):Fact:=.duo (λN F w=>iK K ag R N F b m w) iK.good
def Uo {κ α:Type} (m:MS κ α)(g b:Nat)(done:aq κ)(last:bf κ)(N:eL)(w:bx):Prop:=
 N g/\∃seen:Array Nat,w.heap[g]? =some (.mapIter (some b) m.clock seen m.clock)/\(∀x∈m.es,x.1∈done↔seen.contains x.2.2=true)/\∀k,last=some k->∃(a:α) (t:Nat) (U:Array Nat),(k,a,t)∈m.es/\seen=U.push t
theorem Uo.good {κ α:Type} {m:MS κ α} {g b:Nat} {done:aq κ} {last:bf κ} {N U:eL} {w w':bx} (hN:∀k,N k->U k)(ha:fX N w w')(h:Uo m g b done last N w):Uo m g b done last U w':=by
 obtain⟨h1,seen,h2,h3⟩:=h;exact⟨hN _ h1,seen,(ha g h1).trans h2,h3⟩
def iu {κ α:Type} (m:MS κ α)(g b:Nat)(done:aq κ)(last:bf κ):Fact:=.duo (λN _ w=>Uo m g b done last N w) (λU ha _ _ h=>h.good U ha)
section rules
variable {P:da} {C:Ctx} {n:FD} {Q:Exit->Act->bx->Prop} {Φ Φ':aq Fact} {H H':aq Fact} {S S':aq (Nat×bc)} {ops:Array Oper} {rest:aq Oper} {o:Oper} {d:Nat}
variable {κ α:Type} [DecidableEq κ] {k:TypeId} {K:wj P k κ} {ag:Bool} {R:fc α} {b g:Nat} {m:MS κ α}
variable {x y:bw}{t e:Nat}{i:κ}{v:bc}{c:Bool}{a:α}{Λ:Type}{cells:α->Λ->aq bc}{pure:α->Λ->Prop}{facts:α->Λ->aq Fact}{u:Λ->bc}{done:aq κ}
omit [DecidableEq κ] in
theorem SU (K:wj P k κ)(ag:Bool)(R:fc α)(hg:QM ops S o=some true)(hd:o.dst=some d)(U:M' d n=true)(hS:fk d S=S')(ho:o.op=.makeMap t none)
  (next:∀g,WL P C n Q Φ (eH K ag R g ⟨[],0⟩::H) ((d,.map (some g))::S') ops rest):WL P C n Q Φ H S ops (o::rest):=
 xl hg hd U hS λa w hf hw=>⟨.map (some w.heap.size),w.alloc (.map #[] 0),(by simp[execOp,ho,run_makeMap]),Φ,eH K ag R w.heap.size ⟨[],0⟩::H,by
  obtain⟨F,N,hi⟩:=hw;have hb:Below w.heap.size w (w.alloc (.map #[] 0)):=(Below.refl _ _).alloc (k' _) _;refine⟨F,uc (λk=>k=w.heap.size) N,(hi.grow hb).push _ _ ⟨rfl,#[],heap_alloc_new w _,rfl,λi e x hi=>by simp at hi,bh,bh,bh,bh,bh⟩ ?_ ?_⟩
  ·rintro k rfl;exact⟨bh,.inl hi.mod.size,λhf=>K' _ (hi.flt _ hf)⟩
  ·rintro i k hl rfl U;exact K' _ (hi.nlt i _ hl U).1,next _⟩
theorem iK.find {N F:eL} {w:bx} (h:iK K ag R N F b m w) {x:κ} (hx:K.ok x)(hd:∀y,y=x\/y∈m.keys->K.dom y w):∃E:Array MapEntry,w.heap[b]? =some (.map E m.clock)/\(Instr.checkKey E.isEmpty 10000 k (K.enc x)).run P w=.ok () w/\
  (((Instr.findKey k (K.enc x) E.toList).run P w=.ok none w/\ib x m.es=none/\x∉m.es.map (·.1))\/
    ∃(i:Nat) (e:MapEntry) (a:α×Nat) (cs:aq bc),(Instr.findKey k (K.enc x) E.toList).run P w=.ok (some (i,e.val)) w/\E.toList[i]? =some e/\m.es[i]? =some (x,a)/\ib x m.es=some a/\lK ag cs=some e.val/\R.p F w cs a.1):=by
 obtain⟨_,E,h2,h3,h4,h5,h6,_⟩:=h;refine⟨E,h2,K.check hx _ _,?_⟩;have LM:E.toList.map (·.key)=(m.es.map (·.1)).map K.enc:=by rw[h3,List.map_map];rfl
 obtain⟨r,q1,U⟩:=K.find hx E.toList m.keys LM (λy hy=>by obtain⟨z,hz,rfl⟩:=x'.1 hy;exact h6 z hz) w (hd x (.inl rfl)) (λy hy=>hd y (.inr hy));rcases U with⟨rfl,U⟩|⟨i,e,rfl,U,q3⟩
 · exact .inl ⟨q1,mW U,U⟩
 ·right;rw[show m.keys=m.es.map (·.1)from rfl,j']at q3;cases M0:m.es[i]? with
  |none=>rw[M0]at q3;cases q3
  | some y=>
    rw[M0]at q3;simp only[T',Option.some.injEq]at q3;obtain⟨y1,y2⟩:=y;simp only at q3;subst q3;obtain⟨cs,p1,p2⟩:=h4 i e _ U M0;exact⟨i,e,y2,cs,q1,U,M0,ow h5 M0,p1,p2⟩
theorem MS.look_none {x:κ} (h:m.look x=none):ib x m.es=none:=by
 unfold MS.look at h;cases hx:ib x m.es with
 |none=>rfl
 |some y=>rw[hx]at h;cases h
theorem MS.look_some {x:κ} {a:α} (h:m.look x=some a):∃t,ib x m.es=some (a,t):=by
 unfold MS.look at h;cases hx:ib x m.es with
 |none=>rw[hx]at h;cases h
 |some y=>rw[hx]at h;cases h;exact⟨y.2,rfl⟩
theorem UM {z:bc} (j:Nat)(hg:QM ops S o=some true)(hd:o.dst=some d)(hn:M' d n=true)(hS:fk d S=S')(ho:o.op=.lookup t x y c)
  (bs:H[j]? =some (eH K ag R b m)) (hx:dy S x=some (.map (some b))) (hy:dy S y=some (K.enc i)) (hz:iL P e=some z) (ht:P.underlying t=some (.map k e)) (hi:K.ok i) (BL:∀w,Ql C Φ H w->∀y,y=i\/y∈m.keys->K.dom y w) (hm:m.look i=none)
  (hv:(if c then .tuple #[z,.bool false]else z)=v) (next:WL P C n Q Φ H ((d,v)::S') ops rest):WL P C n Q Φ H S ops (o::rest):=by
 refine JQ hg hd hn hS (λa w hf hw=>?_) next
 obtain⟨F,N,eW⟩:=hw;have h0:iK K ag R (N j) F b m w:=eW.owns j _ bs;obtain⟨E,h1,h2,U⟩:=h0.find hi (BL w ⟨F,N,eW⟩)
 have:(Instr.lookup t (.map (some b)) (K.enc i) c).run P w=.ok (if c then .tuple #[z,.bool false]else z) w:=by
  rcases U with⟨U,_,_⟩|⟨i,e',a,cs,_,_,_,U,_⟩
  · simp only[Instr.lookup,Sem.run_bind,run_underlying ht,Result.andThen,Pb h1,Sem.run_pure,h2,U,Zt hz w]
  · rw[MS.look_none hm]at U;cases U
 rw[hv]at this;simp[execOp,ho,hf.eval hx,hf.eval hy,this]
theorem UJ {v:Λ->bc} (op:ra R cells pure facts)(j:Nat)(hg:QM ops S o=some true)(hd:o.dst=some d)(hn:M' d n=true)(hS:fk d S=S')(ho:o.op=.lookup t x y c)
  (bs:H[j]? =some (eH K ag R b m)) (hx:dy S x=some (.map (some b))) (hy:dy S y=some (K.enc i)) (ht:P.underlying t=some (.map k e)) (hi:K.ok i) (BL:∀w,Ql C Φ H w->∀y,y=i\/y∈m.keys->K.dom y w) (hm:m.look i=some a)
  (hu:∀r,lK ag (cells a r)=some (u r)) (hv:∀r,(if c then .tuple #[u r,.bool true]else u r)=v r) (next:∀r,pure a r->WL P C n Q (facts a r++Φ) H ((d,v r)::S') ops rest):WL P C n Q Φ H S ops (o::rest):=by
 refine xl hg hd hn hS λac w hf hw=>?_;obtain⟨F,N,eW⟩:=hw;have h0:iK K ag R (N j) F b m w:=eW.owns j _ bs;obtain⟨t0,hm⟩:=MS.look_some hm
 obtain ⟨v0,cs,h1,h2,h3⟩:∃v cs,(Instr.lookup t (.map (some b)) (K.enc i) c).run P w=.ok (if c then .tuple #[v,.bool true]else v) w/\lK ag cs=some v/\R.p F w cs a:=by
  obtain⟨E,g1,g2,g3⟩:=h0.find hi (BL w ⟨F,N,eW⟩);rcases g3 with⟨_,g3,_⟩|⟨i',e',a',cs,g3,_,_,g4,g5,g6⟩
  · rw[hm]at g3;cases g3
  ·rw[hm]at g4;cases g4;exact⟨e'.val,cs,by simp only[Instr.lookup,Sem.run_bind,run_underlying ht,Result.andThen,Pb g1,Sem.run_pure,g2,g3],g5,g6⟩
 obtain⟨r,q1,q2,q3⟩:=op F w cs a h3;subst q1;rw[hu r]at h2;cases h2;rw[hv r]at h1;refine⟨v r,w,?_,facts a r++Φ,H,⟨F,N,{eW with facts:=λφ U=>?_}⟩,next r q2⟩;· simp[execOp,ho,hf.eval hx,hf.eval hy,h1]
 ·rcases v'.1 U with U|U;· exact q3 φ U
  · exact eW.facts φ U
theorem iK.put {N F:eL} {w:bx} {t e:TypeId} {x:κ} {u:α} {cs:aq bc} {v:bc} (h:iK K ag R N F b m w)(hx:K.ok x)(hd:∀y,y=x\/y∈m.keys->K.dom y w)(ht:P.underlying t=some (.map k e))(hv:lK ag cs=some v):
  ∃w',(Instr.mapUpdate t (.map (some b)) (K.enc x) v).run P w=.ok () w'/\Mod N w w'/\(R.p F w' cs u->(∀cs y,R.p F w cs y->R.p F w' cs y)->iK K ag R N F b (m.put x u) w'):=by
 obtain⟨hN,E,h2,h3,h4,h5,h6,h7,h8,h9⟩:=id h;obtain⟨E',g1,g2,g3⟩:=h.find hx hd;rw[h2]at g1;cases g1
 have eX:∀r,(Instr.findKey k (K.enc x) E.toList).run P w=.ok r w->(Instr.mapUpdate t (.map (some b)) (K.enc x) v).run P w=((match r with
   | some (i,_)=>do
     let key <-Instr.keyThatStays (((E[i]?).map (·.key)).getD (K.enc x)) (K.enc x)
     setObj b (.map (E.modify i λe=>{e with key,val:=v}) m.clock)
   |none=>setObj b (.map (E.push {key:=K.enc x,val:=v,born:=m.clock}) (m.clock+1)):Sem Unit)).run P w:=λr hr=>by
  unfold Instr.mapUpdate;simp only[Sem.run_bind,run_underlying ht,Result.andThen,Pb h2,K.check hx,hr];rcases r with _|⟨_,_⟩<;>rfl
 have cj:=(u'.1 h2).1;rcases g3 with⟨q1,q2,U⟩|⟨i,e',a,wh,q1,q2,U,q4,q5,q6⟩
 ·refine ⟨_,(eX _ q1).trans (Zr _ h2),World.set_mod h2 hN,λhu hold=>?_⟩;have IJ:m.put x u=⟨m.es++[(x,u,m.clock)],m.clock+1⟩:=by unfold MS.put;rw[q2]
  rw[IJ];refine⟨hN,E.push {key:=K.enc x,val:=v,born:=m.clock},by simp[cj],?_⟩;have hl:E.toList.length=m.es.length:=by simpa using congrArg List.length h3
  refine⟨by simp[h3],λq e y he hy=>?_,?_,λy hy=>?_,by simp[h7],?_,λy hy=>?_⟩
  ·simp only[Array.toList_push]at he;simp only at hy;rcases Nat.lt_or_ge q m.es.length with hq|hq
   · rw[c! au]at he;rw[c! hq]at hy;obtain⟨KN,p1,p2⟩:=h4 q e y he hy;exact⟨KN,p1,hold _ _ p2⟩
   · rw[p' au,hl]at he;rw[p' hq]at hy
     have:q-m.es.length=0:=by
      have:=(f'.1 hy).1;simp at this;omega
     rw[this]at he hy;simp at he hy;subst he;subst hy;exact⟨cs,hv,hu⟩
  ·simp only[F!];refine h!.2 ⟨h5,bh,λa ha b' lU e=>?_⟩;simp at lU;subst lU;subst e;exact U ha
  ·simp only at hy;rcases v'.1 hy with hy|hy;· exact h6 y hy
   · simp at hy;subst hy;exact hx
  ·simp only[F!];refine h!.2 ⟨h8,bh,λa ha b' lU e=>?_⟩;obtain⟨e0,he0,rfl⟩:=x'.1 ha;simp at lU;have:=h9 e0 he0;omega
  ·simp only at hy⊢;rcases v'.1 hy with hy|hy;· have:=h9 y hy;omega
   · simp at hy;subst hy;simp
 ·have hk:(((E[i]?).map (·.key)).getD (K.enc x))=K.enc x:=by
   have e1:(E.toList.map (·.key))[i]? =some e'.key:=by rw[j',q2];rfl
   rw[h3,j',U]at e1;simp only[T',Option.some.injEq]at e1;have e2:E[i]? =some e':=by simpa using q2
   rw[e2];exact e1.symm
  refine ⟨_,(eX _ q1).trans (by
   simp only[hk,Sem.run_bind,K.stays hx,Result.andThen];exact Zr _ h2),World.set_mod h2 hN,λhu hold=>?_⟩
  have IJ:m.put x u=⟨m.es.set i (x,u,a.2),m.clock⟩:=by unfold MS.put;rw[q4];simp only;rw[zS h5 U]
  rw[IJ];refine⟨hN,E.modify i λe=>{e with key:=K.enc x,val:=v},by simp[cj],?_⟩;rw[rG q2];have JZ:(m.es.set i (x,u,a.2)).map (·.1)=m.es.map (·.1):=by rw[o!];exact T8 (by simp[U])
  have ZU:(m.es.set i (x,u,a.2)).map (·.2.2)=m.es.map (·.2.2):=by rw[o!];exact T8 (by simp[U])
  refine⟨?_,λq e y he hy=>?_,by simp only[JZ];exact h5,λy hy=>?_,?_,by simp only[ZU];exact h8,λy hy=>?_⟩;· simp only[o!,h3]
  ·simp only at hy;rw[List.getElem?_set]at he hy;by_cases hq:i=q
   · subst hq;rw[if_pos rfl]at he hy;rw[if_pos (f'.1 q2).1]at he;rw[if_pos (f'.1 U).1]at hy;cases he;cases hy;exact⟨cs,hv,hu⟩
   · rw[if_neg hq]at he hy;obtain⟨KN,p1,p2⟩:=h4 q e y he hy;exact⟨KN,p1,hold _ _ p2⟩
  ·simp only at hy;rcases d! hy with hy|rfl;· exact h6 y hy
   · exact hx
  ·simp only[ZU];rw[<-h7,o!];exact T8 (by rw[j',q2];rfl)
  ·simp only at hy⊢;rcases d! hy with hy|rfl;· exact h9 y hy
   · exact h9 (x,a) (u! U)
theorem Pa {z:bw} {u:α} {cs:aq bc} (j:Nat)(hg:QM ops S o=some true)(hd:o.dst=none)(ho:o.op=.mapUpdate t x y z\/o.op=.insert t x y z)
  (bs:H[j]? =some (eH K ag R b m)) (hx:dy S x=some (.map (some b))) (hy:dy S y=some (K.enc i)) (hz:dy S z=some v) (ht:P.underlying t=some (.map k e)) (hi:K.ok i) (BL:∀w,Ql C Φ H w->∀y,y=i\/y∈m.keys->K.dom y w) (hv:lK ag cs=some v)
  (hr:∀F w,(∀ψ∈Φ,ψ.p F w)->R.p F w cs u) (hH:H.set j (eH K ag R b (m.put i u))=H') (next:WL P C n Q Φ H' S ops rest):WL P C n Q Φ H S ops (o::rest):=by
 refine HM (Φ':=Φ) hg hd (λa w hf hw=>?_) next
 obtain⟨F,N,U⟩:=hw;have cj:=(f'.1 bs).1;have h0:iK K ag R (N j) F b m w:=U.owns j _ bs;obtain⟨w',r1,r2,r3⟩:=h0.put (u:=u) hi (BL w ⟨F,N,U⟩) ht hv;refine⟨w',by rcases ho with ho|ho<;>simp[execOp,ho,hf.eval hx,hf.eval hy,hf.eval hz,r1],?_⟩;subst hH;have gQ:fX F w w':=λq hq=>r2.block q (U.flt q hq) (λhn=>(U.nlt j q cj hn).2.2 hq);refine⟨F,N,U.set j cj r2 _ (r3 (R.good (λ_ h=>h) gQ (hr F w U.facts)) (λ_ _ h=>R.good (λ_ h=>h) gQ h))⟩
theorem iK.del {N F:eL} {w:bx} {t e:TypeId} {x:κ} (h:iK K ag R N F b m w)(hx:K.ok x)(hd:∀y,y=x\/y∈m.keys->K.dom y w)(ht:P.underlying t=some (.map k e))(ty:TypeId):
  ∃w',(Builtin.delete_ #[t,k] ty #[.map (some b),K.enc x]).run P w=.ok (.tuple #[]) w'/\Mod N w w'/\((∀cs y,R.p F w cs y->R.p F w' cs y)->iK K ag R N F b (m.del x) w'):=by
 obtain⟨hN,E,U,h3,h4,h5,h6,h7,h8,h9⟩:=id h;obtain⟨E',g1,g2,g3⟩:=h.find hx hd;rw[U]at g1;cases g1;have cj:=(u'.1 U).1;rcases g3 with⟨q1,q2,q3⟩|⟨i,e',a',wh,q1,q2,q3,q4,q5,q6⟩
 ·refine⟨w,?_,Mod.refl _ _,λ_=>?_⟩
  ·unfold Builtin.delete_;simp[run_underlying ht,Pb U,g2,q1,Zr _ U,Result.andThen,N8 U]
  have:m.del x=m:=by unfold MS.del;rw[filter_none q3]
  rw[this];exact h
 ·have hi:=(f'.1 q2).1;have hiE:i<E.size:=by simpa using hi
  have ZT:(E.eraseIdxIfInBounds i).toList=E.toList.eraseIdx i:=by
   unfold Array.eraseIdxIfInBounds;rw[dif_pos hiE];simp
  have eX:(Builtin.delete_ #[t,k] ty #[.map (some b),K.enc x]).run P w=.ok (.tuple #[]) {w with heap:=w.heap.setIfInBounds b (.map (E.eraseIdxIfInBounds i) m.clock)}:=by
   unfold Builtin.delete_;simp[run_underlying ht,Pb U,g2,q1,Zr _ U]
  refine⟨_,eX,World.set_mod U hN,λhold=>?_⟩;have lD:m.del x=⟨m.es.eraseIdx i,m.clock⟩:=by unfold MS.del;rw[xG h5 q3]
  rw[lD];refine⟨hN,E.eraseIdxIfInBounds i,by simp[cj],?_⟩;rw[ZT];have Ro:∀{β γ:Type} (f:β->γ) (l:aq β) (j:Nat),(l.eraseIdx j).map f=(l.map f).eraseIdx j:=λf l j=>yf f l j
  refine⟨by simp only[Ro,h3],λq e y he hy=>?_,?_,λy hy=>h6 y (l! hy),by simp only[Ro,h7],?_,λy hy=>h9 y (l! hy)⟩
  ·simp only at hy;rw[List.getElem?_eraseIdx]at he hy;split at he<;>rename_i hq
   ·rw[if_pos hq]at hy;obtain⟨KN,p1,p2⟩:=h4 q e y he hy;exact⟨KN,p1,hold _ _ p2⟩
   ·rw[if_neg hq]at hy;obtain⟨KN,p1,p2⟩:=h4 (q+1) e y he hy;exact⟨KN,p1,hold _ _ p2⟩
  · simp only[Ro];exact h5.sublist (q! _ _)
  · simp only[Ro];exact h8.sublist (q! _ _)
theorem Te (j:Nat)(hg:QM ops S o=some true)(hd:o.dst=none)(ho:o.op=.call {callee:=.builtin .delete,args:=#[x,y],argTypes:=#[t,k]})
  (bs:H[j]? =some (eH K ag R b m)) (hx:dy S x=some (.map (some b))) (hy:dy S y=some (K.enc i)) (ht:P.underlying t=some (.map k e)) (hi:K.ok i) (BL:∀w,Ql C Φ H w->∀y,y=i\/y∈m.keys->K.dom y w)
  (hH:H.set j (eH K ag R b (m.del i))=H') (next:WL P C n Q Φ H' S ops rest):WL P C n Q Φ H S ops (o::rest):=by
 refine YF (Φ':=Φ) hg hd (λa w hf hw=>?_) next
 obtain⟨F,N,U⟩:=hw;have cj:=(f'.1 bs).1;have h0:iK K ag R (N j) F b m w:=U.owns j _ bs;obtain⟨w',r1,r2,r3⟩:=h0.del hi (BL w ⟨F,N,U⟩) ht o.type;refine⟨.tuple #[],w',by simp[execOp,ho,resolve,invoke,builtin,hf.eval hx,hf.eval hy,r1],?_⟩;subst hH;have gQ:fX F w w':=λq hq=>r2.block q (U.flt q hq) (λhn=>(U.nlt j q cj hn).2.2 hq);exact⟨F,N,U.set j cj r2 _ (r3 (λ_ _ h=>R.good (λ_ h=>h) gQ h))⟩
omit [DecidableEq κ] in
theorem HN {t e:TypeId} (j:Nat)(hg:QM ops S o=some true)(hd:o.dst=some d)(hn:M' d n=true)(hS:fk d S=S')(ho:o.op=.call {callee:=.builtin .len,args:=#[x],argTypes:=#[t]})
  (bs:H[j]? =some (eH K ag R b m)) (hx:dy S x=some (.map (some b))) (ht:P.underlying t=some (.map k e)) (next:WL P C n Q Φ H ((d,.int .i64 (m.es.length:Int))::S') ops rest):WL P C n Q Φ H S ops (o::rest):=by
 refine JQ hg hd hn hS (λa w hf hw=>?_) next
 obtain⟨F,N,eW⟩:=hw;obtain⟨_,E,h1,U,_⟩:iK K ag R (N j) F b m w:=eW.owns j _ bs;have U:E.size=m.es.length:=by simpa using congrArg List.length U
 simp[execOp,ho,resolve,invoke,builtin,Builtin.len_,hf.eval hx,run_underlying ht,goInt,Pb h1,U]
omit [DecidableEq κ] in
theorem Pk (j:Nat)(hg:QM ops S o=some true)(hd:o.dst=some d)(hn:M' d n=true)(hS:fk d S=S')(ho:o.op=.range t x)
  (bs:H[j]? =some (eH K ag R b m)) (hx:dy S x=some (.map (some b))) (ht:P.underlying t=some (.map k e))
  (next:∀g,WL P C n Q Φ (iu m g b [] none::H) ((d,.pointer (some ⟨g,0,none⟩))::S') ops rest):WL P C n Q Φ H S ops (o::rest):=by
 refine xl hg hd hn hS λac w U hw=>?_;obtain⟨F,N,hi⟩:=hw;obtain⟨_,E,h2,_⟩:iK K ag R (N j) F b m w:=hi.owns j _ bs;have hb:Below w.heap.size w (w.alloc (.mapIter (some b) m.clock #[] m.clock)):=(Below.refl _ _).alloc (k' _) _;refine⟨.pointer (some ⟨w.heap.size,0,none⟩),w.alloc (.mapIter (some b) m.clock #[] m.clock),(by simp[execOp,ho,U.eval hx,run_range_map w t k e b E m.clock ht h2]),Φ,iu m w.heap.size b [] none::H,⟨F,uc (λk=>k=w.heap.size) N,(hi.grow hb).push _ _ ⟨rfl,#[],heap_alloc_new w _,λx _=>bh,λk hk=>by cases hk⟩ ?_ ?_⟩,next _⟩
 ·rintro k rfl;exact⟨bh,.inl hi.mod.size,λU=>K' _ (hi.flt _ U)⟩
 ·rintro i k hl rfl hn;exact K' _ (hi.nlt i _ hl hn).1
omit [DecidableEq κ] in
theorem Ps {last:bf κ} (i j:Nat) (hg:QM ops S o=some true) (hd:o.dst=some d) (hn:M' d n=true) (hS:fk d S=S') (ho:o.op=.next x false)
    (Rz:H[i]? =some (iu m g b done last)) (bs:H[j]? =some (eH K ag R b m)) (hx:dy S x=some (.pointer (some ⟨g,0,none⟩)))
    (no:(∀y∈m.keys,y∈done)->WL P C n Q Φ H ((d,.tuple #[.bool false])::S') ops rest)
    (yes:∀y v,y∈m.keys->y∉done->WL P C n Q Φ (H.set i (iu m g b (done++[y]) (some y))) ((d,.tuple #[.bool true,K.enc y,v])::S') ops rest):WL P C n Q Φ H S ops (o::rest):=by
  refine xl hg hd hn hS λac w hf hw=>?_;obtain⟨F,N,eW⟩:=hw;have cj:=(f'.1 Rz).1;obtain⟨hg0,seen,s1,s2,s3⟩:Uo m g b done last (N i) w:=eW.owns i _ Rz;obtain⟨hb0,E,h2,h3,h4,h5,h6,h7,h8,h9⟩:iK K ag R (N j) F b m w:=eW.owns j _ bs;have hlen:E.toList.length=m.es.length:=by simpa using congrArg List.length h3
  have a0D:∀e∈E.toList,e.born<m.clock:=λe he=>by
    have:e.born∈m.es.map (·.2.2):=h7▸x'.2 ⟨e,he,rfl⟩;obtain⟨x,hx,hxe⟩:=x'.1 this;rw[<-hxe];exact h9 x hx
  have GV:∀(q:Nat) (e:MapEntry) (z:κ×α×Nat),E.toList[q]? =some e->m.es[q]? =some z->e.key=K.enc z.1/\e.born=z.2.2:=λq e z he hz=>by
    have e1:(E.toList.map (·.key))[q]? =some e.key:=by rw[j',he];rfl
    have e2:(E.toList.map (·.born))[q]? =some e.born:=by rw[j',he];rfl
    rw[h3,j',hz]at e1;rw[h7,j',hz]at e2;exact⟨(Option.some.inj e1).symm,(Option.some.inj e2).symm⟩
  rcases run_next_at (P:=P) w o.type g b m.clock m.clock seen E m.clock s1 h2 a0D (k' _)with⟨q1,q2⟩|⟨e,he,w1,hw1,q2⟩
  · refine⟨.tuple #[.bool false],w,by simp[execOp,ho,hf.eval hx,q2],Φ,H,⟨F,N,eW⟩,no λy hy=>?_⟩;obtain⟨z,hz,rfl⟩:=x'.1 hy;obtain⟨q,hq⟩:=z'.1 hz;have hqE:q<E.toList.length:=by rw[hlen];exact(f'.1 hq).1
    have hs:=all_seen E seen q1 _ (n' hqE);rw[(GV q _ z (l' hqE) hq).2]at hs;exact(s2 z hz).2 hs
  · obtain ⟨AP,jh⟩:=mem_left he;obtain⟨q,hq⟩:=z'.1 AP;have TQ:q<m.es.length:=by rw[<-hlen];exact(f'.1 hq).1
    have Xs:m.es[q]? =some m.es[q]:=l' TQ;obtain⟨sk,Re⟩:=GV q e _ hq Xs;have kB:m.es[q]∈m.es:=n' TQ
    have IG:m.es[q].1∉done:=λTH=>by
      have:=(s2 _ kB).1 TH;rw[<-Re,jh]at this;cases this
    have M4:w1.heap=w.heap:=by rcases hw1 with rfl|rfl<;>rfl
    have a0U:Mod (N i) w (Go.ChangeMaps.setBlock w1 g (.mapIter (some b) m.clock (seen.push e.born) m.clock)):=by
      have h0:Mod (N i) w w1:=by
        rcases hw1 with rfl|rfl;· exact Mod.refl _ _
        · exact(Mod.refl _ _).drew
      refine⟨h0.os,h0.tape,h0.output,by rw[M4.symm];simp[Go.ChangeMaps.setBlock],λp hp hnp=>?_⟩;have ep:g≠p:=λe=>hnp (e▸hg0);simp[Go.ChangeMaps.setBlock,ep,M4]
    have hgl:g<w.heap.size:=(u'.1 s1).1
    have hit:Uo m g b (done++[m.es[q].1]) (some m.es[q].1) (N i) (Go.ChangeMaps.setBlock w1 g (.mapIter (some b) m.clock (seen.push e.born) m.clock)):=by
      refine⟨hg0,seen.push e.born,by simp[Go.ChangeMaps.setBlock,M4,hgl],λU nH=>?_,λk hk=>?_⟩
      · rw [v',z!,s2 U nH]
        have a2Q:U.1=m.es[q].1↔U.2.2=e.born:=by
          obtain⟨p,hp⟩:=z'.1 nH;constructor
          · intro hk
            have:p=q:=by
              have a1:(m.es.map (·.1))[p]? =some U.1:=by rw[j',hp];rfl
              have a2:(m.es.map (·.1))[q]? =some U.1:=by rw[j',Xs,hk];rfl
              exact Mz h5 a1 a2
            subst this;rw[Xs]at hp;cases hp;exact Re.symm
          · intro hb
            have:p=q:=by
              have a1:(m.es.map (·.2.2))[p]? =some U.2.2:=by rw[j',hp];rfl
              have a2:(m.es.map (·.2.2))[q]? =some U.2.2:=by rw[j',Xs,hb,Re];rfl
              exact Mz h8 a1 a2
            subst this;rw[Xs]at hp;cases hp;rfl
        rw[a2Q];simp
      · cases hk;exact⟨m.es[q].2.1,m.es[q].2.2,seen,kB,by rw[Re]⟩
    exact⟨.tuple #[.bool true,K.enc m.es[q].1,e.val],_,by simp[execOp,ho,hf.eval hx,q2,sk],Φ,_,⟨F,N,eW.set i cj a0U (iu m g b (done++[m.es[q].1]) (some m.es[q].1)) hit⟩,yes _ e.val (x'.2 ⟨_,kB,rfl⟩) IG⟩
theorem Pg {y:κ} {v:Λ->bc} (op:ra R cells pure facts)(i j:Nat)(hg:QM ops S o=some true)(hd:o.dst=some d)(hn:M' d n=true)(hS:fk d S=S')(ho:o.op=.entry x)
  (Rz:H[i]? =some (iu m g b done (some y))) (bs:H[j]? =some (eH K ag R b m)) (hx:dy S x=some (.pointer (some ⟨g,0,none⟩))) (hm:m.look y=some a) (hu:∀r,lK ag (cells a r)=some (u r)) (hv:∀r,.tuple #[K.enc y,u r]=v r)
  (next:∀r,pure a r->WL P C n Q (facts a r++Φ) H ((d,v r)::S') ops rest):WL P C n Q Φ H S ops (o::rest):=by
 refine xl hg hd hn hS λac w hf hw=>?_;obtain⟨F,N,eW⟩:=hw;obtain⟨hg0,seen,s1,s2,s3⟩:Uo m g b done (some y) (N i) w:=eW.owns i _ Rz;obtain⟨hb0,E,h2,h3,h4,h5,h6,h7,h8,h9⟩:iK K ag R (N j) F b m w:=eW.owns j _ bs;obtain⟨a',t,sn,ht,rfl⟩:=s3 y rfl;obtain⟨q,hq⟩:=z'.1 ht
 have ha:a'=a:=by
  obtain⟨t',hm⟩:=MS.look_some hm;have:=ow h5 hq;rw[hm]at this;exact(congrArg Prod.fst (Option.some.inj this)).symm
 subst ha;have hlen:E.toList.length=m.es.length:=by simpa using congrArg List.length h3
 have hqE:q<E.toList.length:=by rw[hlen];exact(f'.1 hq).1
 have U:=l' hqE;obtain⟨cs,p1,p2⟩:=h4 q _ _ U hq;obtain⟨r,r1,r2,r3⟩:=op F w cs a' p2;subst r1;rw[hu r]at p1
 have sk:(E.toList[q]).key=K.enc y:=by
  have e1:(E.toList.map (·.key))[q]? =some (E.toList[q]).key:=by rw[j',U];rfl
  rw[h3,j',hq]at e1;exact(Option.some.inj e1).symm
 have Re:(E.toList[q]).born=t:=by
  have e1:(E.toList.map (·.born))[q]? =some (E.toList[q]).born:=by rw[j',U];rfl
  rw[h7,j',hq]at e1;exact(Option.some.inj e1).symm
 rw[<-Re]at s1;have eX:=run_entry_at (P:=P) w g b m.clock sn E m.clock (E.toList[q]) s1 h2 (n' hqE) (h7▸h8);rw[sk,<-Option.some.inj p1,hv r]at eX;refine⟨v r,w,by simp[execOp,ho,hf.eval hx,eX],facts a' r++Φ,H,⟨F,N,{eW with facts:=λφ gy=>?_}⟩,next r r2⟩;rcases v'.1 gy with gy|gy;· exact r3 φ gy
 · exact eW.facts φ gy
end rules
end
section
open Go Go.RowKit
section
variable {O:Type}
def dp (s:Nat->bf O)(a:Nat)(o:O):Nat->bf O:=λb=>if b=a then some o else s b
def pA (a:Nat):Addr:=⟨a,0,none⟩
def del (s:Nat->bf O)(a:Nat):Nat->bf O:=λb=>if b=a then none else s b
theorem jH (s:Nat->bf O)(a:Nat)(o:O):dp s a o a=some o:=if_pos rfl
theorem YC (s:Nat->bf O) {a b:Nat} (o:O)(h:b≠a):dp s a o b=s b:=if_neg h
theorem uf (s:Nat->bf O)(a:Nat):del s a a=none:=if_pos rfl
theorem mE (s:Nat->bf O) {a b:Nat} (h:b≠a):del s a b=s b:=if_neg h
theorem rZ (s:Nat->bf O)(a:Nat)(o:O):dp (del s a) a o=dp s a o:=by
 funext b;unfold dp del;split<;>rfl
theorem Sw {s:Nat->bf O} {a:Nat} {o:O} (h:s a=some o):dp s a o=s:=by
 funext b;unfold dp;split;· rename_i e;rw[e,h]
 · rfl
theorem UH {s:Nat->bf O} {a:Nat} {o:O} (h:s a=some o):dp (del s a) a o=s:=by rw[rZ,Sw h]
def so {R:Type} (s:Nat->bf O)(o:Nat->O)(k:Nat->(Nat->bf O)->WM R):WM R:=λQ=>∀a,s a=none->∀s',s'=dp s a (o a)->k a s' Q
def jL {R:Type} (s:Nat->bf O)(a:Nat)(k:WM R):WM R:=λQ=>s a=none->k Q
def nK (gg:Nat->O->aq Fact)(s:Nat->bf O)(N F:eL)(w:bx):Prop:=
 ∃U:Nat->eL,(∀a q,U a q->N q)/\(∀a b q,a≠b->U a q->¬U b q)/\∀a o,s a=some o->U a a/\jB (gg a o) (U a) F w
theorem nK.good {gg:Nat->O->aq Fact} {s:Nat->bf O} {N N' F G:eL} {w w':bx} (hN:∀k,N k->N' k)(ha:fX N w w')(hF:∀k,F k->G k)(hb:fX F w w')(h:nK gg s N F w):nK gg s N' G w':=by
 obtain⟨Ns,h1,h2,h3⟩:=h;exact⟨Ns,λa q U=>hN q (h1 a q U),h2,λa o ho=>⟨(h3 a o ho).1,(h3 a o ho).2.good (λ_ h=>h) (λq U=>ha q (h1 a q U)) hF hb⟩⟩
def Qh (gg:Nat->O->aq Fact)(s:Nat->bf O):Fact:=.duo (λN F w=>nK gg s N F w) nK.good
def tH {α Λ:Type} (a ty:Nat)(K:α->Λ->aq bc)(Fs:α->Λ->aq Fact)(x:α)(N F:eL)(w:bx):Prop:=
 N a/\∃r,w.heap[a]? =some (.cells (K x r).toArray ty)/\∀φ∈Fs x r,φ.p F w
theorem tH.good {α Λ:Type} {a ty:Nat} {K:α->Λ->aq bc} {Fs:α->Λ->aq Fact} {x:α} {N N' F G:eL} {w U:bx} (hN:∀k,N k->N' k)(ha:fX N w U)(hF:∀k,F k->G k)(hb:fX F w U)(h:tH a ty K Fs x N F w):tH a ty K Fs x N' G U:=by
 obtain⟨h1,r,h2,h3⟩:=h;exact⟨hN _ h1,r,(ha a h1).trans h2,λφ bs=>φ.good hF hb (h3 φ bs)⟩
def rf {α Λ:Type} (a ty:Nat)(K:α->Λ->aq bc)(Fs:α->Λ->aq Fact)(x:α):Fact:=.duo (λN F w=>tH a ty K Fs x N F w) tH.good
end
section
variable {O α Λ:Type} {C:Ctx} {Φ H:aq Fact} {w:bx} {gg:Nat->O->aq Fact} {s s':Nat->bf O} {a ty:Nat} {o:O} {K:α->Λ->aq bc} {Fs:α->Λ->aq Fact} {x:α} {l:aq Fact}
theorem Ql.poolOut (h:Ql C Φ H w)(k:Nat)(hk:H[k]? =some (Qh gg s))(hs:s a=some o):Ql C Φ ((gg a o).reverse++H.set k (Qh gg (del s a))) w:=by
 obtain ⟨_,h1⟩:=h.split (Λ:=Unit) (φ1:=λ_=>Qh gg (del s a)) (φ2:=λ_=>jr (gg a o)) k hk (λN F ⟨Ns,h1,h2,h3⟩=>
  ⟨(),Ns a,λq=>N q/\¬Ns a q,λq U=>h1 a q U,λq U=>U,⟨λb q=>Ns b q/\b≠a,λb q U=>⟨h1 b q U.1,λhn=>h2 b a q U.2 U.1 hn⟩,λb c q ep U eR=>h2 b c q ep U.1 eR.1,λb o' hb=>by
    have ep:b≠a:=λe=>by subst e;rw[uf]at hb;cases hb
    rw[mE s ep]at hb;exact⟨⟨(h3 b o' hb).1,ep⟩,(h3 b o' hb).2.good (λq U=>⟨U,ep⟩) (fX.refl _ _) (λ_ h=>h) (fX.refl _ _)⟩⟩,(h3 a o hs).2⟩)
 exact h1.stars
theorem Ql.poolNo (h:Ql C Φ H w)(k j:Nat)(U:G! k j=false)(hk:H[k]? =some (Qh gg s))(hj:H[j]? =some (rf a ty K Fs x)):s a=none:=by
 obtain⟨F,N,hi⟩:=h;have Xb:k≠j:=λe=>by subst e;rw[H!]at U;cases U
 obtain⟨Ns,h1,h2,h3⟩:nK gg s (N k) F w:=hi.owns k _ hk;obtain⟨h4,_⟩:tH a ty K Fs x (N j) F w:=hi.owns j _ hj;cases hs:s a with
 |none=>rfl
 |some o=>exact absurd h4 (hi.apart k j a (f'.1 hk).1 (f'.1 hj).1 Xb (h1 a a (h3 a o hs).1))
theorem Ql.poolIn (h:Ql C Φ ((gg a o).reverse++H) w)(k:Nat)(hk:H[k]? =some (Qh gg s))(hg:gg a o=rf a ty K Fs x::l):s a=none/\Ql C Φ (H.set k (Qh gg (dp s a o))) w:=by
 have h0:s a=none:=by
  rw[hg,i!]at h;refine h.poolNo (gg:=gg) (K:=K) (Fs:=Fs) (x:=x) (ty:=ty) (l.length+1+k) l.length ?_ ?_ ?_
  ·cases hb:G! (l.length+1+k) l.length with
   |false=>rfl
   |true=>have:=Nat.eq_of_beq_eq_true hb;omega
  ·rw[p' (by simp<;>omega)];simp only[List.length_append,w!,C!,List.length_nil];rw[show l.length+1+k-(l.length+(0+1))=k from by omega];exact hk
  ·rw[j!,p' bh];simp
 refine⟨h0,?_⟩;have h1:Ql C Φ (jr (gg a o)::H) w:=h.starsUp
 have h2:=h1.join (φ:=Qh gg (dp s a o)) (k+1) 0 au (du hk) rfl (λA B F ha hb hd=>by
  obtain⟨Ns,h1,h2,h3⟩:nK gg s A F w:=ha;have lU:jB (gg a o) B F w:=hb
  have hBa:B a:=by
   rw[hg]at lU;obtain⟨A',B',q1,q2,⟨q3,_⟩,_⟩:=lU;exact q1 a q3
  refine⟨λb q=>if b=a then B q else Ns b q,λb q U=>?_,λb c q ep U eR=>?_,λb o' hbo=>?_⟩
  ·dsimp only at U;by_cases e:b=a;· rw[if_pos e]at U;exact .inr U
   · rw[if_neg e]at U;exact .inl (h1 b q U)
  ·dsimp only at U eR;by_cases e:b=a
   ·have e':c≠a:=λe'=>ep (e.trans e'.symm);rw[if_pos e]at U;rw[if_neg e']at eR;exact hd q (h1 c q eR) U
   ·rw[if_neg e]at U;by_cases e':c=a;· rw[if_pos e']at eR;exact hd q (h1 b q U) eR
    · rw[if_neg e']at eR;exact h2 b c q ep U eR
  ·by_cases e:b=a
   ·subst e;rw[jH]at hbo;cases hbo;simp only[if_true];exact⟨hBa,lU⟩
   ·rw[YC s o e]at hbo;simp only[if_neg e];exact h3 b o' hbo)
 simpa using h2
theorem Ql.cellOut (h:Ql C Φ H w)(k:Nat)(hk:H[k]? =some (rf a ty K Fs x)):∃r,Ql C (Fs x r++Φ) (H.set k (.blk a (K x r) ty)) w:=by
 obtain⟨F,N,hi⟩:=h;have cj:=(f'.1 hk).1;obtain⟨h1,r,h2,h3⟩:tH a ty K Fs x (N k) F w:=hi.owns k _ hk;refine⟨r,F,N,{hi.set k cj (Mod.refl _ _) (.blk a (K x r) ty) ⟨h1,h2⟩with facts:=λφ U=>?_}⟩;rcases v'.1 U with U|U;· exact h3 φ U
 · exact hi.facts φ U
theorem Ql.cellIn {cs:aq bc} (h:Ql C Φ H w)(k:Nat)(r:Λ)(hk:H[k]? =some (.blk a cs ty))(hc:cs=K x r)(hf:∀F w,(∀ψ∈Φ,ψ.p F w)->∀φ∈Fs x r,φ.p F w):Ql C Φ (H.set k (rf a ty K Fs x)) w:=by
 subst hc;obtain⟨F,N,hi⟩:=h;have U:=(f'.1 hk).1;obtain⟨h1,h2⟩:(Fact.blk a (K x r) ty).op (N k) F w:=hi.owns k _ hk;exact⟨F,N,hi.set k U (Mod.refl _ _) (rf a ty K Fs x) ⟨h1,r,h2,hf F w hi.facts⟩⟩
end
section rules
variable {O α Λ:Type} {gg:Nat->O->aq Fact} {s s':Nat->bf O} {a ty:Nat} {o:O} {K:α->Λ->aq bc} {Fs:α->Λ->aq Fact} {x:α} {l:aq Fact}
variable {P:da} {C:Ctx} {n:FD} {Q:Exit->Act->bx->Prop} {Φ:aq Fact} {H H':aq Fact} {S:aq (Nat×bc)} {ops:Array Oper} {rest:aq Oper} {c:Code} {e:Exit} {cs:aq bc}
variable {H0:aq Fact}{op:Oper}{b d:Nat}{o':O}{S':aq (Nat×bc)}{f:FuncId}{name:String}{r:bw}{xs:Array bw}{ts:Array TypeId}{t:TypeId}{v recv:bc}{gw args:aq bc}
theorem Ql.pOpen {w:bx} (h:Ql C Φ H w)(k:Nat)(hk:H[k]? =some (Qh gg s))(hs:s a=some o)(hg:gg a o=rf a ty K Fs x::l):∃r,Ql C (Fs x r++Φ) (l.reverse++.blk a (K x r) ty::H.set k (Qh gg (del s a))) w:=by
 have h1:=h.poolOut k hk hs;rw[hg,i!,j!]at h1;obtain⟨r,U⟩:=h1.cellOut (a:=a) (ty:=ty) (K:=K) (Fs:=Fs) (x:=x) l.length (by rw[p' bh];simp);refine⟨r,?_⟩;rw[r! _ _ bh]at U;simpa using U
theorem Ki (k:Nat)(hk:H[k]? =some (Qh gg s))(hs:s a=some o)(hg:gg a o=rf a ty K Fs x::l)(G:Λ->aq Fact)(U:∀r,l.reverse++.blk a (K x r) ty::H.set k (Qh gg (del s a))=G r)(next:∀r,WL P C n Q (Fs x r++Φ) (G r) S ops rest):WL P C n Q Φ H S ops rest:=λac w hf hw=>by
 obtain⟨r,h⟩:=hw.pOpen k hk hs hg;rw[U r]at h;exact next r ac w hf h
theorem UT (k:Nat)(hk:H[k]? =some (Qh gg s))(hs:s a=some o)(hg:gg a o=rf a ty K Fs x::l)(G:Λ->aq Fact)(U:∀r,l.reverse++.blk a (K x r) ty::H.set k (Qh gg (del s a))=G r)(next:∀r,WC P C n Q (Fs x r++Φ) (G r) S c):WC P C n Q Φ H S c:=λac w hf hw=>by
 obtain⟨r,h⟩:=hw.pOpen k hk hs hg;rw[U r]at h;exact next r ac w hf h
theorem Ql.pShut {w:bx} {H0:aq Fact} (h:Ql C Φ H w)(q:aq Nat)(k:Nat)(r:Λ)(hg:gg a o=rf a ty K Fs x::l)(hl:fR q H.length=true)(hp:QP H q=l.reverse++.blk a cs ty::H0)(hk:H0[k]? =some (Qh gg s))(hc:cs=K x r)(hf:∀F w,(∀ψ∈Φ,ψ.p F w)->∀φ∈Fs x r,φ.p F w):s a=none/\Ql C Φ (H0.set k (Qh gg (dp s a o))) w:=by
 have h1:=h.pick q hl;rw[hp]at h1;have U:=h1.cellIn (a:=a) (ty:=ty) (cs:=cs) (K:=K) (Fs:=Fs) (x:=x) l.length r (by rw[p' bh];simp) hc hf;rw[r! _ _ bh]at U;simp only[w!,Nat.sub_self,List.set_cons_zero]at U;refine Ql.poolIn (H:=H0) ?_ k hk hg;rw[hg,i!,j!];exact U
theorem ZF (q:aq Nat)(k:Nat)(r:Λ)(hg:gg a o=rf a ty K Fs x::l)(hl:fR q H.length=true)(hp:QP H q=l.reverse++.blk a cs ty::H0)(hk:H0[k]? =some (Qh gg s))(hc:cs=K x r)(hf:∀F w,(∀ψ∈Φ,ψ.p F w)->∀φ∈Fs x r,φ.p F w)(he:dp s a o=s')(hH:H0.set k (Qh gg s')=H')
  (next:s a=none->WL P C n Q Φ H' S ops rest):WL P C n Q Φ H S ops rest:=λac w U hw=>by
 obtain⟨h0,h1⟩:=hw.pShut (o:=o) q k r hg hl hp hk hc hf;rw[he,hH]at h1;exact next h0 ac w U h1
theorem Dj (q:aq Nat)(k:Nat)(r:Λ)(hg:gg a o=rf a ty K Fs x::l)(hl:fR q H.length=true)(hp:QP H q=l.reverse++.blk a cs ty::H0)(hk:H0[k]? =some (Qh gg s))(hc:cs=K x r)(hf:∀F w,(∀ψ∈Φ,ψ.p F w)->∀φ∈Fs x r,φ.p F w)(he:dp s a o=s')(hH:H0.set k (Qh gg s')=H')
  (next:s a=none->WC P C n Q Φ H' S c):WC P C n Q Φ H S c:=λac w U hw=>by
 obtain⟨h0,h1⟩:=hw.pShut (o:=o) q k r hg hl hp hk hc hf;rw[he,hH]at h1;exact next h0 ac w U h1
theorem Dp (q:aq Nat)(k:Nat)(r:Λ)(hg:gg a o=rf a ty K Fs x::l)(hl:fR q H.length=true)(hp:QP H q=l.reverse++.blk a cs ty::H0)(hk:H0[k]? =some (Qh gg s))(hc:cs=K x r)(hf:∀F w,(∀ψ∈Φ,ψ.p F w)->∀φ∈Fs x r,φ.p F w)(he:dp s a o=s')(hH:H0.set k (Qh gg s')=H')
  (next:s a=none->WE C n Q Φ H' S e):WE C n Q Φ H S e:=λac w U hw=>by
 obtain⟨h0,h1⟩:=hw.pShut (o:=o) q k r hg hl hp hk hc hf;rw[he,hH]at h1;exact next h0 ac w U h1
theorem Eo (h:s b=some o')(U:b≠a):del s a b=some o':=(mE s U).trans h
theorem Eh (f:O->Nat) (ha:s a=some o)(U:s b=some o')(h:G! (f o) (f o')=false):b≠a:=λe=>by
 subst e;rw[ha]at U;cases U;rw[H!]at h;cases h
def zZ {M:Type} (o:bf (Nat×M))(f:Nat->M->Fact):Fact:=match o with
 |none=>jr []
 |some y=>f y.1 y.2
theorem Ql.itForget {U α:Type} {m:MS U α} {g b:Nat} {done:aq U} {last:bf U} {w:bx} (h:Ql C Φ H w)(i:Nat)(hi:H[i]? =some (iu m g b done last)):Ql C Φ (H.set i (iu m g b done none)) w:=
 h.as_ i hi λN F ⟨h1,seen,h2,h3,_⟩=>⟨h1,seen,h2,h3,λk hk=>by cases hk⟩
theorem UI {α Λ:Type} {t e sz st m g:Nat} {x:bw} {R:fc α} {cp:Nat} {l:aq α} {ag:Bool} {y:α} {cells:α->Λ->aq bc} {pure:α->Λ->Prop} {facts:α->Λ->aq Fact} {v:Λ->bc} {p:bf Addr} (hp:p=some ⟨g,0,none⟩)(U:ra R cells pure facts)(k j i:Nat)
  (hg:QM ops S op=some true) (hd:op.dst=some d) (hn:M' d n=true) (hS:fk d S=S') (ho:op.op=.load t x)
  (bs:H[k]? =some (.own e sz R (.slice p m cp) l)) (hx:dy S x=some (.pointer (some ⟨g,j*sz+i,none⟩))) (hj:l[j]? =some y) (hs:QV P t=some st) (ha:fJ P t=some ag)
  (hl:∀r,(((cells y r).drop i).take st).length=st) (hv:∀r,lK ag (((cells y r).drop i).take st)=some (v r)) (next:∀r,pure y r->WL P C n Q (facts y r++Φ) H ((d,v r)::S') ops rest):WL P C n Q Φ H S ops (op::rest):=by
 subst hp;exact Og U k j i hg hd hn hS ho bs hx hj hs ha hl hv next
theorem RB (ho:op.op=.call {callee:=.invoke r name,args:=xs,argTypes:=ts})(hr:dy S r=some (.iface t v))(hx:um S xs.toList=some gw)
  (ja:dq P f=true) (hm:∀w,(method (P.types.size+Made.depth) t v name).run P w=.ok (f,recv) w) (ha:recv::gw=args):∀ac w,gm n S ac->(execOp ac.eval op).run P w=.ok (.enter f args.toArray) w:=by
 intro ac w U
 have fO:xs.map ac.eval=gw.toArray:=by
  have:=U.evalL hx;have h0:xs=xs.toList.toArray:=bh
  rw[<-this,h0,D!]
 subst ha;unfold execOp;simp[ho,resolve,invoke,callMethod,fO,U.eval hr,hm,Pr ja]
theorem AG {Φf Hf:aq Fact} {R:bc->aq Fact->aq Fact->Prop} (p q:aq Nat)(hg:QM ops S op=some true)(hd:op.dst=some d)(hn:M' d n=true)(hS:fk d S=S')
  (ho:op.op=.call {callee:=.invoke r name,args:=xs,argTypes:=ts}) (hr:dy S r=some (.iface t v)) (hx:um S xs.toList=some gw) (ja:dq P f=true) (hm:∀w,(method (P.types.size+Made.depth) t v name).run P w=.ok (f,recv) w) (ha:recv::gw=args)
  (hH:QP H p=Hf) (spec:QF P f args Φf Hf R) (eN:∀F w,(∀ψ∈Φ,ψ.p F w)->∀φ∈Φf,φ.p F w) (hl:fR (p++q) H.length=true) (hq:QP H q=H')
  (next:∀v U Hr,R v U Hr->WL P C n Q (U++Φ) (Hr++H') ((d,v)::S') ops rest):WL P C n Q Φ H S ops (op::rest):=
 u6 p q hg (RB ho hr hx ja hm ha) hH spec eN hl hq λv U Hr hR ac w hf hw=>by rw[hd];exact next v U Hr hR _ w (hf.put (r' hn) hS) hw
def Ks (gg:Nat->O->aq Fact):Prop:=∀a o,∃(α Λ:Type)(ty:Nat)(K:α->Λ->aq bc)(Fs:α->Λ->aq Fact)(x:α)(l:aq Fact),gg a o=rf a ty K Fs x::l
theorem Ql.domP {w:bx} (h:Ql C Φ H w)(k:Nat)(hk:H[k]? =some (Qh gg s))(hr:Ks gg)(y:Nat)(hy:s y≠none):lQ w y:=by
 obtain⟨F,N,hi⟩:=h;obtain⟨Ns,h1,h2,h3⟩:nK gg s (N k) F w:=hi.owns k _ hk;cases ho:s y with
 |none=>exact absurd ho hy
 | some o=>
   obtain⟨_,U⟩:=h3 y o ho;obtain⟨α,Λ,ty,K,Fs,x,l,hg⟩:=hr y o;rw[hg]at U;obtain⟨A,B,_,_,⟨_,r,h5,_⟩,_⟩:=U;exact⟨_,_,h5⟩
theorem Ql.domB {w:bx} {t:Nat} (h:Ql C Φ H w)(j:Nat)(hj:H[j]? =some (.blk a cs t)):lQ w a:=by
 obtain⟨F,N,hi⟩:=h;obtain⟨_,U⟩:(Fact.blk a cs t).op (N j) F w:=hi.owns j _ hj;exact⟨_,_,U⟩
theorem Pt {w:bx} (h:∀y,del s a y≠none->lQ w y)(U:lQ w a):∀y,s y≠none->lQ w y:=λy hy=>by
 by_cases e:y=a;· rw[e];exact U
 · exact h y (by rw[mE s e];exact hy)
end rules
end
section
open Go Go.RowKit
def sa (l:Nat)(r:Loop):Fact:=.duo (λN _ w=>N l/\w.heap[l]? =some (.loop r)) (λU ha _ _ h=>⟨U _ h.1,(ha l h.1).trans h.2⟩)
def tQ (Ds:aq Nat):Fact:=.duo (λN _ w=>Ds.Nodup/\∀D∈Ds,N D/\w.heap[D]? =some (.deferred (some []))) (λhN ha _ _ h=>⟨h.1,λD U=>⟨hN _ (h.2 D U).1,(ha D (h.2 D U).1).trans (h.2 D U).2⟩⟩)
abbrev Mv (D:Nat):Deferred:={target:=.collected D,args:=#[]}
def marks (Ds:aq Nat):aq Deferred:=Ds.map Mv
abbrev fw (r:bf Nat):Fence:={fn:=λ_=>True,depth:=none,alive:=false,round:=r}
def vk (l:aq Oper):Bool:=l.all λo=>match o.op with
 | .defer _=>false
 |_=>true
def QN (K:Act->bx->Prop):Exit->Act->bx->Prop
 | .normal,a,w=>K a w
 |_,_,_=>False
theorem Cu (K:Act->bx->Prop):¬LetsOut (QN K):=λ⟨_,_,h⟩=>h
section
variable {P:da}
variable {args:Array bc}{w:bx}
theorem EC {r:bf Nat} {n:Nat} {f:FuncId} {R:Ending->bx->Prop} (h:Calls P f args w R):CallsIn (fw r) n P f args w R:=by
 have U:CallsIn Fence.wide n P f args w R:=callsIn_wide.2 h;exact⟨trivial,λcs hr=>U.2 cs (λ_ hd=>by cases hd)⟩
theorem Jd {r:bf Nat} {n:Nat} {f:String} {R:bc->bx->Prop} (h:Rows P f args w R):RowsIn (fw r) n P f args w R:=by
 intro c cs hr;obtain⟨v,w',U,hs⟩:=h c cs;exact⟨v,w',U,stepsIn_wide.2 hs⟩
theorem yc {r:bf Nat} {ops:Array Oper} {Q:Exit->Act->bx->Prop} {l2:aq Oper}:∀(l1:aq Oper),vk l1=true->∀a w,wpList P ops (QN λa w=>wpListIn (fw r) 0 P ops Q l2 a w) l1 a w->wpListIn (fw r) 0 P ops Q (l1++l2) a w
 |[],_,a,w,h=>h
 | o ::l1,hp,a,w,h=>by
   simp only[vk,List.all_cons,E!]at hp;have U:=yc (r:=r) (Q:=Q) (l2:=l2) (ops:=ops) l1 hp.2;unfold wpList at h;show wpListIn (fw r) 0 P ops Q (o::(l1++l2)) a w;unfold wpListIn;by_cases hw:Region.wanted o (yielded ops a.tmps)=true
   ·rw [if_pos hw]at h⊢;rcases h with h|⟨_,h⟩
    ·refine⟨λ_ _=>trivial,?_⟩
     have hs:Oper.semAt (fw r).round a.eval o=execOp a.eval o:=by
       cases r with
       |none=>rfl
       |some l=>exact Oper.semAt_some l _ _ λc hc=>by have:=hp.1;rw[hc]at this;cases this
     rw[hs];unfold Oper.wp at h;generalize (execOp a.eval o).run P w=res at h⊢;cases res with
     | ok x w'=>
       cases x with
       |value v=>exact U _ _ h
       |skip=>exact U _ _ h
       |defer d=>exact U _ _ h
       | enter f args=>
         refine⟨λh=>(by cases h),EC (Calls.mono h ?_)⟩;intro e w'' he;cases e with
         |returned v=>exact U _ _ he
         |panicked ch=>exact he.elim
         |outgrown=>exact(Cu _ he).elim
       |row f args=>exact⟨λh=>(by cases h),Jd (Rows.mono h λv w'' he=>U _ _ he)⟩
       |_=>exact h.elim
     |halt x w'=>cases x<;>exact h.elim
    · exact(Cu _ h).elim
   ·rw[if_neg hw]at h⊢;exact⟨λ_ _=>trivial,U _ _ h⟩
end
section mQ
variable (P:da) (r:bf Nat) (C:Ctx) (n:FD) (Q:Exit->Act->bx->Prop) (Φ:aq Fact) (H:aq Fact) (S:aq (Nat×bc))
def ZI (ops:Array Oper)(rest:aq Oper):Prop:=∀a w,gm n S a->Ql C Φ H w->wpListIn (fw r) 0 P ops Q rest a w
def WCI (c:Code):Prop:=∀a w,gm n S a->Ql C Φ H w->c.wpIn (fw r) 0 P Q a w
end mQ
section
variable {P:da} {r:bf Nat} {C:Ctx} {n:FD} {Q:Exit->Act->bx->Prop} {Φ Φ':aq Fact} {H H':aq Fact} {S S':aq (Nat×bc)} {ops:Array Oper} {rest:aq Oper} {o:Oper} {d:Nat} {c x y:Code}
variable {R:bc->aq Fact->aq Fact->Prop}{l k id:Nat}{body assign:Code}{v:bc}{fn:Func}{rc:Loop}{l2:aq Oper}{Φf Hf iE:aq Fact}{D:aq Deferred}{a:Act}{t:Tmp}{Ds:aq Nat}{e:Exit}{σ:Type}
theorem Th (U:aq Oper) (hl:rest=U++l2)(hp:vk U=true)(h:WL P C n (QN λa w=>wpListIn (fw r) 0 P ops Q l2 a w) Φ H S ops U):ZI P r C n Q Φ H S ops rest:=by
 subst hl;exactλa w hf hw=>yc U hp a w (h a w hf hw)
theorem Ue (h:ZI P r C n Q Φ H S ops l2):WE C n (QN λa w=>wpListIn (fw r) 0 P ops Q l2 a w) Φ H S .normal:=h
theorem qV (h:WE C n Q Φ H S .normal):WE C n (QN λa w=>wpListIn (fw r) 0 P ops Q [] a w) Φ H S .normal:=h
theorem QcF {l:aq Oper} (h:ZI P r C n Q Φ H S l.toArray l):WCI P r C n Q Φ H S (.region id l.toArray false):=λa w U hw=>wpIn_region_lit (h a w U hw)
theorem yJ (h:WCI P r C n (Exit.inBlock id Q) Φ H S c):WCI P r C n Q Φ H S (.block id c):=λa w U hw=>wpIn_block (h a w U hw)
theorem vT {l:aq Oper} (h:ZI P none C n Q Φ H S l.toArray l):WC P C n Q Φ H S (.region id l.toArray false):=λa w U hw=>wpIn_wide.1 (wpIn_region_lit (n:=0) (F:=fw none) (h a w U hw))
def zi (P:da)(l:Nat)(fn:FuncId)(tmps:Array bc)(assign body:Code)(Φ iE:aq Fact)(R:bc->aq Fact->aq Fact->Prop):Prop:=
 ∀ (F:eL) (N:Nat->eL) (w:bx),(∀k,F k->k<w.heap.size)->(∀φ∈Φ,φ.p F w)->(∀(i:Nat) (h:Fact),iE[i]? =some h->h.op (N i) F w)->
   (∀i k,i<iE.length->N i k->k<w.heap.size/\¬F k)->(∀i j k,i<iE.length->j<iE.length->i≠j->N i k->¬N j k)->
   RoundIn (fw none) 0 P l fn tmps assign body w (sf ⟨w,λk=>∃i,i<iE.length/\N i k,F⟩ R)
theorem mX:∀(l:aq Nat) {m:aq Nat} {k:Nat},fR (l++m) k=true->fR l k=true
 |[],_,_,_=>rfl
 | i::l,m,k,h=>by
   simp only[List.cons_append,fR,E!,Bool.not_eq_true',List.any_append,Bool.or_eq_false_iff]at h⊢;exact⟨⟨h.1.1,h.1.2.1⟩,mX l h.2⟩
theorem Hj {N:eL} {w:bx} {b:Nat} (o:Obj)(U:N b):Mod N w (w.putObj b o):=
 ⟨rfl,rfl,rfl,by simp[World.putObj],λk hk hn=>World.putObj_heap_other (λe=>hn (by rw[e];exact U) |>.elim)⟩
theorem Ql.loopAt {w:bx} (h:Ql C Φ H w)(k l:Nat) {rc:Loop} (hk:H[k]? =some (sa l rc)):w.heap[l]? =some (.loop rc):=by
 obtain⟨F,N,hi⟩:=h;exact(hi.owns k _ hk).2
theorem Ql.loopPut {w:bx} (h:Ql C Φ H w)(k l:Nat) {rc:Loop} (U:Loop)(hk:H[k]? =some (sa l rc)):Ql C Φ (H.set k (sa l U)) (w.putObj l (.loop U)):=by
 obtain⟨F,N,hi⟩:=h;obtain⟨h1,h2⟩:=hi.owns k _ hk;exact⟨F,N,hi.set k (f'.1 hk).1 (Hj _ h1) _ ⟨h1,World.putObj_heap_same (u'.1 h2).1⟩⟩
theorem Ql.newObj {w:bx} (h:Ql C Φ H w)(o:Obj)(φ:Fact)(U:∀F,φ.op (λk=>k=w.heap.size) F (w.alloc o)):Ql C Φ (φ::H) (w.alloc o):=by
 obtain⟨F,N,hi⟩:=h;have hb:Below w.heap.size w (w.alloc o):=(Below.refl _ _).alloc (k' _) _;refine⟨F,uc (λk=>k=w.heap.size) N,(hi.grow hb).push _ _ (U F) ?_ ?_⟩
 ·rintro k rfl;exact⟨bh,.inl hi.mod.size,λhf=>K' _ (hi.flt _ hf)⟩
 ·rintro i k hl rfl hn;exact K' _ (hi.nlt i _ hl hn).1
theorem yO {t:bw} {xs:Array bw} {ts:Array TypeId} {vs:aq bc} (p q:aq Nat)(hg:QM ops S o=some true)(hd:o.dst=some d)(hn:M' d n=true)(hS:fk d S=S')
  (ho:o.op=.call {callee:=.value t,args:=xs,argTypes:=ts}) (ht:dy S t=some (.func (.yield l) #[] #[])) (hx:um S xs.toList=some vs) (hH:QP H p=sa l rc::Hf) (Ru:vs.length=rc.params.size)
  (spec:zi P l rc.fn ((rc.params.zip vs.toArray).foldl (λtmps (t,a)=>tmps.setIfInBounds t a) rc.tmps) rc.assign rc.body Φf (sa l rc::Hf) R) (eN:∀F w,(∀ψ∈Φ,ψ.p F w)->∀φ∈Φf,φ.p F w) (hl:fR (p++q) H.length=true) (hm:QP H q=H')
  (next:∀v U Hr,R v U Hr->ZI P none C n Q (U++Φ) (Hr++H') ((d,v)::S') ops rest):ZI P none C n Q Φ H S ops (o::rest):=by
 subst hm;intro a w hf ⟨F,N,hi⟩;have hp:=hi.pick p (mX p hl);rw[hH]at hp;have ti:w.heap[l]? =some (.loop rc):=(hp.owns 0 _ rfl).2;have Xi:=spec F _ w hi.flt (λφ bs=>eN F w hi.facts φ bs) hp.owns (λi k iW hk=>⟨(hp.nlt i k iW hk).1,(hp.nlt i k iW hk).2.2⟩) hp.apart;unfold wpListIn;rw[Ef hf hg,if_pos rfl]
 have fO:xs.map a.eval=vs.toArray:=by
  have:=hf.evalL hx;have h0:xs=xs.toList.toArray:=bh
  rw[<-this,h0,D!]
 have DT:a.eval t=.func (.yield l) #[] #[]:=hf.eval ht
 have eX:((o.semAt (fw none).round a.eval).run P w)=.ok (.round l rc.fn ((rc.params.zip vs.toArray).foldl (λtmps (t,a)=>tmps.setIfInBounds t a) rc.tmps) rc.assign rc.body) w:=by
  have h2:(resolve a.eval {callee:=.value t,args:=xs,argTypes:=ts} o.type).run P w=.ok {target:=.fn (.yield l) #[],args:=vs.toArray} w:=by
   simp[resolve,DT,Deferred.ofValue,fO]
  show(execOp a.eval o).run P w=_;unfold execOp;simp only[ho,Sem.run_bind,h2,Result.andThen_ok];have:=run_yield (P:=P) (args:=vs.toArray) ti (du Ru);simp[invoke,go_sem,this]
 refine⟨λ_ _=>trivial,?_⟩;rw[eX,Oper.uponIn_round];refine⟨λh=>(by cases h),Xi.mono ?_⟩;rintro e w' ⟨v,U,Hr,rfl,hR,hh⟩;rw[hd];have hh':Ql ⟨w,λk=>∃i,i<(QP H p).length/\N (p.getD i 0) k,F⟩ U Hr w':=by rw[hH];exact hh
 exact next v U Hr hR _ _ (hf.put (r' hn) hS) (hi.after hl hh')
theorem CH {fn:FuncId} {tmps:Array bc} {Φ:aq Fact} (hf:gm ⟨k,[]⟩ S {tmps:=tmps,defers:=[]})
  (h:∀C,WCI P (some l) C ⟨k,[]⟩ (Exit.then (λwH xf=>∃U,(Instr.beginRound l).run P xf=.ok () U/\body.wpIn (fw (some l)) 0 P (roundPost P l (sf C R)) wH U) (λ_ _ _=>False)) Φ iE S assign):
  zi P l fn tmps assign body Φ iE R:=by
 intro F N w hF eN hH cj qi;exact roundIn_of_wpIn (F:=fw none) trivial (h ⟨w,λk=>∃i,i<iE.length/\N i k,F⟩ _ w hf ⟨F,N,hF,λ_ h=>h,λ_ h=>.inl h,eN,hH,λi k hi hk=>⟨(cj i k hi hk).1,.inr ⟨i,hi,hk⟩,(cj i k hi hk).2⟩,qi,Mod.refl _ _⟩)
theorem LB (hf:gm ⟨k,D⟩ S a)(ht:M' t k=true)(U:fk t S=S'):
  gm ⟨k,[]⟩ ((t,v)::S') {tmps:=((#[t]:Array Tmp).zip #[v]).foldl (λtmps (t,a)=>tmps.setIfInBounds t a) a.tmps,defers:=[]}:=by
 have h:=hf.put (d:=t) (v:=v) (r' ht) U;have e:((#[t]:Array Tmp).zip #[v]).foldl (λtmps (t,a)=>tmps.setIfInBounds t a) a.tmps=(a.put (some t) v).tmps:=by simp[Act.put]
 rw[e];exact⟨h.size,rfl,h.at_⟩
theorem LC {u:Tmp} {x:bc} {S2:aq (Nat×bc)} (hf:gm ⟨k,D⟩ S a)(ht:M' t k=true)(hu:M' u k=true)(hS:fk t S=S')(U:fk u ((t,v)::S')=S2):
  gm ⟨k,[]⟩ ((u,x)::S2) {tmps:=((#[t,u]:Array Tmp).zip #[v,x]).foldl (λtmps (t,a)=>tmps.setIfInBounds t a) a.tmps,defers:=[]}:=by
 have h:=(hf.put (d:=t) (v:=v) (r' ht) hS).put (d:=u) (v:=x) (r' hu) U;have e:((#[t,u]:Array Tmp).zip #[v,x]).foldl (λtmps (t,a)=>tmps.setIfInBounds t a) a.tmps=((a.put (some t) v).put (some u) x).tmps:=by simp[Act.put]
 rw[e];exact⟨h.size,rfl,h.at_⟩
theorem Dl {R:Ending->bx->Prop} (k:Nat)(hk:H[k]? =some (sa l rc))(hr:rc.state=.ready)(hE:H.set k (sa l {rc with state:=.busy})=H')
  (h:WCI P (some l) C n (roundPost P l R) Φ H' S body):WE C n (Exit.then (λwH xf=>∃U,(Instr.beginRound l).run P xf=.ok () U/\body.wpIn (fw (some l)) 0 P (roundPost P l R) wH U) (λ_ _ _=>False)) Φ H S .normal:=by
 subst hE;exactλa w hf hw=>⟨_,run_beginRound (hw.loopAt k l hk) hr,h a _ hf (hw.loopPut k l _ hk)⟩
theorem rQ (k:Nat)(hk:H[k]? =some (sa l rc))(U:H.set k (sa l {rc with state:=.ready,pending:=none})=H')
  (hR:R (.bool true) Φ H'):WE C n (roundPost P l (sf C R)) Φ H S .normal:=by
 subst U;exactλa w hf hw=>⟨_,_,run_endRound none (hw.loopAt k l hk),_,_,_,rfl,hR,hw.loopPut k l _ hk⟩
theorem Dk {g:bw} {ps:Array Tmp} {gf:FuncId} {lb:aq bc} {R:aq Fact->aq Fact->Prop} (p q:aq Nat)(hg:dy S g=some (.func (.func gf) #[] lb.toArray))(ja:dq P gf=true)
  (hH:∀φ1 φ2,QP (φ1::φ2::H) p=φ1::Hf) (eN:∀F w,(∀ψ∈Φ,ψ.p F w)->∀φ∈Φf,φ.p F w) (hl:fR (p++q) (H.length+2)=true) (hq:∀φ1 φ2,QP (φ1::φ2::H) q=φ2::H')
  (spec:∀fn l D a,gm n S a->QF P gf (.func (.yield l) #[] #[]::lb) Φf (sa l {state:=.ready,pending:=none,fn:=fn,tmps:=a.tmps,params:=ps,assign:=assign,body:=body,defers:=D}::Hf) (λ_ bz Hr=>∃rr U,rr.state≠.busy/\rr.pending=none/\Hr=sa l rr::U/\R bz U))
  (next:∀D bz U,R bz U->WE C ⟨n.k,Mv D::n.D⟩ Q (bz++Φ) (U++tQ [D]::H') S .normal):WC P C n Q Φ H S (.rangeFunc g ps assign body):=by
 intro a w hf hw;refine(wpIn_wide (n:=0)).1 (wpIn_rangeFunc λfn _=>?_)
 have h1:Ql C Φ (tQ [w.heap.size]::H) (w.alloc (.deferred (some []))):=hw.newObj _ _ λF=>⟨bh,λD hD=>by
  rw[z!.1 hD];exact⟨rfl,World.alloc_heap_new _ _⟩⟩
 obtain⟨rec,Rv⟩:∃rec:Loop,rec={state:=.ready,pending:=none,fn:=fn,tmps:=a.tmps,params:=ps,assign:=assign,body:=body,defers:=w.heap.size}:=⟨_,rfl⟩
 have h2:Ql C Φ (sa (w.heap.size+1) rec::tQ [w.heap.size]::H) ((w.alloc (.deferred (some []))).alloc (.loop rec)):=by
  have e:(w.alloc (.deferred (some []))).heap.size=w.heap.size+1:=World.size_alloc _ _;exact h1.newObj _ (sa (w.heap.size+1) rec) λF=>⟨e.symm,by have:=World.alloc_heap_new (w.alloc (.deferred (some []))) (.loop rec);rwa [e]at this⟩
 rw[Rv]at h2;generalize hW2:((w.alloc (.deferred (some []))).alloc (.loop {state:=.ready,pending:=none,fn:=fn,tmps:=a.tmps,params:=ps,assign:=assign,body:=body,defers:=w.heap.size}))=W2 at h2;rw[<-Rv]at h2;refine⟨w.heap.size+1,[Mv w.heap.size],W2,{target:=.fn (.func gf) lb.toArray,args:=#[.func (.yield (w.heap.size+1)) #[] #[]]},W2,gf,#[.func (.yield (w.heap.size+1)) #[] #[]]++lb.toArray,W2,by rw[<-hW2];exact run_enterLoop_outer _ _ _ _ _,?_,λ_ _=>trivial,?_,λh=>(by cases h),?_⟩
 ·simp only[resolve,hf.eval hg];simp[go_sem]
 · simp[invoke,go_sem,Pr ja]
 ·obtain ⟨F,N,hi⟩:=h2;have hp:=hi.pick p (mX p hl);rw[hH]at hp;have hc:=spec fn (w.heap.size+1) w.heap.size a hf F _ _ hi.flt (λφ bs=>eN F _ hi.facts φ bs) (by rw[<-Rv];exact hp.owns) (λi k iW hk=>⟨(hp.nlt i k iW hk).1,(hp.nlt i k iW hk).2.2⟩) (by exact hp.apart);rw[<-Rv]at hc;have e0:(.func (.yield (w.heap.size+1)) #[] #[]::lb).toArray=#[Value.func (.yield (w.heap.size+1)) #[] #[]]++lb.toArray:=bh
  rw[e0]at hc;refine callsIn_wide.2 (hc.mono ?_);rintro e w' ⟨v,bz,Hr,rfl,⟨rr,U,hr1,hr2,rfl,hR⟩,hh⟩
  have hh':Ql ⟨W2,λk=>∃i,i<(QP (sa (w.heap.size+1) rec::tQ [w.heap.size]::H) p).length/\N (p.getD i 0) k,F⟩ bz (sa (w.heap.size+1) rr::U) w':=by
   rw[hH];exact hh
  have h3:=hi.after (m:=q) hl hh';rw[hq]at h3;have hl3:=h3.loopAt 0 _ rfl;refine⟨none,_,(by have:=run_endLoop (P:=P) hl3 hr1;rwa [hr2]at this),?_⟩;have h4:=h3.loopPut 0 _ {rr with state:=.exhausted} rfl;rw[hr2]at h4;have h5:Ql C (bz++Φ) (U++tQ [w.heap.size]::H') _:=h4.drop 0 bh rfl;exact next w.heap.size bz U hR _ _ ⟨hf.size,by simp[hf.defers],hf.at_⟩ h5
theorem Ql.dfrs {w:bx} {Ds Es:aq Nat} (h:Ql C Φ H w)(k j:Nat)(ep:G! k j=false)(hk:H[k]? =some (tQ Ds))(hj:H[j]? =some (tQ Es)):Ql C Φ ((H.set k (tQ (Es++Ds))).eraseIdx j) w:=
 h.join (φ:=tQ (Es++Ds)) k j (Nat.ne_of_beq_eq_false ep) hk hj λA B F U hb hd=>⟨h!.2 ⟨hb.1,U.1,λx hx y hy e=>by subst e;exact hd x (U.2 x hy).1 (hb.2 x hx).1⟩,λD hD=>by
  rcases v'.1 hD with h|h;· exact⟨.inr (hb.2 D h).1,(hb.2 D h).2⟩
  · exact⟨.inl (U.2 D h).1,(U.2 D h).2⟩⟩
theorem HJ {Es:aq Nat} (k j:Nat)(U:G! k j=false)(hk:H[k]? =some (tQ Ds))(hj:H[j]? =some (tQ Es))(hH:(H.set k (tQ (Es++Ds))).eraseIdx j=H')(h:WE C n Q Φ H' S e):WE C n Q Φ H S e:=by
 subst hH;exactλa w hf hw=>h a w hf (hw.dfrs k j U hk hj)
theorem CO {f:FuncId} {n:Nat} {args:aq bc} {S:aq (Nat×bc)} {Φ:aq Fact}
  (hf:P.funcs[f]? =some fn) (hb:fn.body=some body) (hn:fn.ntmps=n) (hle:Nat.ble args.length n=true) (hS:xh 0 args=S) (h:∀C,WC P C ⟨n,marks []⟩ (bodyPostM Fence.wide 0 P fn (sf C R)) Φ (tQ []::iE) S body):QF P f args Φ iE R:=by
 intro F N w hF eN hH cj qi;refine callsIn_wide.1 (callsIn_of_wp_marks (n:=0) hf hb trivial ((wpIn_wide (n:=0)).2 (h ⟨w,λk=>∃i,i<iE.length/\N i k,F⟩ _ w ⟨?_,rfl,?_⟩ ?_)))
 ·have:=r' hle;simp[hn];try omega
 ·intro x hx;rw[<-hS]at hx;obtain⟨_,U⟩:=Qdt hx;rw[Nat.sub_zero]at U;have hl:=(f'.1 U).1;rw[Array.getElem?_append_left (du hl)];simpa using U
 ·have h0:gX ⟨w,λk=>∃i,i<iE.length/\N i k,F⟩ Φ iE F N w:=⟨hF,λ_ h=>h,λ_ h=>.inl h,eN,hH,λi k hi hk=>⟨(cj i k hi hk).1,.inr ⟨i,hi,hk⟩,(cj i k hi hk).2⟩,qi,Mod.refl _ _⟩
  exact⟨F,_,h0.push (tQ []) (λ_=>False) ⟨List.nodup_nil,λD h=>by cases h⟩ (λk h=>h.elim) (λi k _ h=>h.elim)⟩
theorem oo {fn:Func} {tmps:Array bc} {R:Ending->bx->Prop} {v:bc} (hr:∀w,(results fn tmps).run P w=.ok v w):∀(Ds:aq Nat)(w:bx),Ql C Φ (tQ Ds::H) w->(∀w',Ql C Φ H w'->R (.returned v) w')->LeavesInM Fence.wide 0 P fn tmps R (marks Ds) .returning w
 |[],w,h,hR=>⟨v,hr w,hR w (h.drop 0 bh rfl)⟩
 | D::Ds,w,⟨F,N,hi⟩,hR=>by
   have U:=hi.owns 0 _ rfl;have hD:=U.2 D bh;have IG:=p!.1 U.1;refine⟨bh,.inl ⟨D,_,rfl,run_takeDeferred hD.2,oo hr Ds _ ⟨F,N,hi.set 0 bh (Hj _ hD.1) (tQ Ds) ⟨IG.2,λE hE=>⟨(U.2 E (by simp[hE])).1,?_⟩⟩⟩ hR⟩⟩;exact(World.putObj_heap_other (λe=>IG.1 (by rw[<-e];exact hE))).trans (U.2 E (by simp[hE])).2
theorem Dn (he:e=.normal\/e=.ret)(hn:n.D=marks Ds)(hk:H=tQ Ds::H')(hr:∀a w,gm n S a->(results fn a.tmps).run P w=.ok v w)(hR:R v Φ H'):
  WE C n (bodyPostM Fence.wide 0 P fn (sf C R)) Φ H S e:=by
 subst hk;intro a w U hw
 have:LeavesInM Fence.wide 0 P fn a.tmps (sf C R) a.defers .returning w:=by
  rw[U.defers,hn];exact oo (λw=>hr a w U) Ds w hw λw' h=>⟨_,_,_,rfl,hR,h⟩
 rcases he with rfl|rfl;· exact this
 · exact this
theorem results_tmp {t:Nat} (h:fn.results=#[.tmp t])(hv:look S t=some v):∀a w,gm n S a->(results fn a.tmps).run P w=.ok v w:=λa w U=>by
 have:=U.at_ _ (Oi hv);simp only at this;simp[results,h,this,go_sem]
theorem CF (h:fn.results=#[]):∀a w,gm n S a->(results fn a.tmps).run P w=.ok (.tuple #[]) w:=λa w _=>by simp[results,h,go_sem]
theorem NY (ok:σ->Prop)(μ:σ->Nat)(XH:σ->FD)(sg:σ->aq (Nat×bc))(iG rT:σ->aq Fact)(U:σ)(h0:ok U)(hn:n=XH U)(l:aq Nat)(hS:iP l S=sg U)(eN:∀F w,(∀ψ∈Φ,ψ.p F w)->∀φ∈iG U,φ.p F w)(hH:H=rT U)
  (round:∀s,ok s->WC P C (XH s) (Exit.then (λa' w'=>∃s',μ s'<μ s/\pT ok sg iG rT C (XH s') s' a' w') Q) (iG s) (rT s) (sg s) c):WC P C n Q Φ H S (.loop c):=by
 subst hn;intro a w hf hw;refine uW (λm a w=>∃s,μ s=m/\pT ok sg iG rT C (XH s) s a w) ?_ (μ U) a w ⟨U,rfl,CS U h0 l hS eN hH hf hw⟩;rintro m a w ⟨s,rfl,dh,hf,hw⟩;refine wp_mono (round s dh a w hf hw) λe a' w' hq=>?_
 cases e with
 |normal=>obtain⟨s',h1,h2⟩:=hq;exact⟨_,h1,s',rfl,h2⟩
 |_=>exact hq
theorem Jq {ok:σ->Prop} {XH:σ->FD} {sg:σ->aq (Nat×bc)} {iG rT:σ->aq Fact} {μ:σ->Nat} (s':σ)(U:μ s'<k)(h0:ok s')(hn:n=XH s')(l:aq Nat)(hS:iP l S=sg s')(eN:∀F w,(∀ψ∈Φ,ψ.p F w)->∀φ∈iG s',φ.p F w)(hH:H=rT s'):
  WE C n (Exit.then (λa' w'=>∃s',μ s'<k/\pT ok sg iG rT C (XH s') s' a' w') Q) Φ H S .normal:=by
 subst hn;exactλa w hf hw=>⟨s',U,CS s' h0 l hS eN hH hf hw⟩
end
end
section
open Tryz
open Go.RowKit
theorem j1:QV prog 2=some 1:=aw
theorem iZ:fJ prog 2=some false:=aw
theorem QW:QV prog 3=some 1:=aw
theorem dw:fJ prog 3=some false:=aw
theorem G0:iL prog 3=some (.int .i64 0):=aw
theorem Sq:j0 prog 3=some (.int .i64 0,1,8):=aw
theorem qE:QV prog 4=some 1:=aw
theorem Sm:fJ prog 4=some false:=aw
theorem a1T:iL prog 4=some (.bool false):=aw
theorem Yk:j0 prog 4=some (.bool false,1,1):=aw
theorem lF:QV prog 9=some 1:=aw
theorem lE:fJ prog 9=some false:=aw
theorem Gv:QV prog 22=some 1:=aw
theorem Gt:fJ prog 22=some false:=aw
theorem AN:gG prog 22=some 78:=aw
theorem pg:QV prog 23=some 1:=aw
theorem oP:fJ prog 23=some false:=aw
theorem Gu:gG prog 23=some 73:=aw
theorem mj:QV prog 25=some 2:=aw
theorem oQ:fJ prog 25=some true:=aw
theorem a1S:iL prog 25=some (.agg #[.slice none 0 0,.slice none 0 0]):=aw
theorem JG:QZ prog 25 0=some 0:=aw
theorem Pv:QZ prog 25 1=some 1:=aw
theorem rM:gG prog 26=some 42:=aw
theorem ND:QV prog 31=some 1:=aw
theorem Nn:fJ prog 31=some false:=aw
theorem rh:QV prog 38=some 1:=aw
theorem sb:fJ prog 38=some false:=aw
theorem lJ:gG prog 38=some 63:=aw
theorem fE:QV prog 40=some 3:=aw
theorem sV:fJ prog 40=some true:=aw
theorem jX:iL prog 40=some (.agg #[.int .i64 0,.int .i64 0,.slice none 0 0]):=aw
theorem se:j0 prog 40=some (.agg #[.int .i64 0,.int .i64 0,.slice none 0 0],3,40):=aw
theorem a1M:tO prog 40=some [(0,1),(1,1),(2,1)]:=aw
theorem pS:QZ prog 40 0=some 0:=aw
theorem Gj:QZ prog 40 1=some 1:=aw
theorem I1:QZ prog 40 2=some 2:=aw
theorem D7:QV prog 42=some 4:=aw
theorem Sn:QZ prog 42 0=some 0:=aw
theorem tw:QZ prog 42 1=some 1:=aw
theorem HB:QV prog 44=some 1:=aw
theorem U4:fJ prog 44=some false:=aw
theorem Ub:iL prog 44=some (.int .i64 0):=aw
theorem Ua:QV prog 50=some 1:=aw
theorem U5:fJ prog 50=some false:=aw
theorem fG:gG prog 50=some 40:=aw
theorem NF:QV prog 51=some 1:=aw
theorem U6:fJ prog 51=some false:=aw
theorem a1U:iL prog 51=some (.slice none 0 0):=aw
theorem Em:gG prog 51=some 101:=aw
theorem vJ:QV prog 58=some 1:=aw
theorem vC:fJ prog 58=some false:=aw
theorem js:QV prog 59=some 1:=aw
theorem kN:fJ prog 59=some false:=aw
theorem zc:gG prog 59=some 76:=aw
theorem NG:QV prog 60=some 1:=aw
theorem Nq:fJ prog 60=some false:=aw
theorem D8:QV prog 61=some 1:=aw
theorem CT:fJ prog 61=some false:=aw
theorem eT:QV prog 63=some 3:=aw
theorem iq:fJ prog 63=some true:=aw
theorem jY:iL prog 63=some (.agg #[.int .u8 0,.int .i64 0,.string ⟨#[]⟩]):=aw
theorem HA:j0 prog 63=some (.agg #[.int .u8 0,.int .i64 0,.string ⟨#[]⟩],3,32):=aw
theorem En:tO prog 63=some [(0,1),(1,1),(2,1)]:=aw
theorem pa:QZ prog 63 0=some 0:=aw
theorem w9:QZ prog 63 1=some 1:=aw
theorem tx:QZ prog 63 2=some 2:=aw
theorem ph:QV prog 64=some 1:=aw
theorem oR:fJ prog 64=some false:=aw
theorem rj:QV prog 65=some 1:=aw
theorem sd:fJ prog 65=some false:=aw
theorem nG:gG prog 65=some 67:=aw
theorem jJ:QV prog 67=some 7:=aw
theorem we:fJ prog 67=some true:=aw
theorem HC:iL prog 67=some (.agg #[.int .u8 0,.int .u8 0,.int .i64 0,.string ⟨#[]⟩,.int .i64 0,.int .u8 0,.slice none 0 0]):=aw
theorem a1P:j0 prog 67=some (.agg #[.int .u8 0,.int .u8 0,.int .i64 0,.string ⟨#[]⟩,.int .i64 0,.int .u8 0,.slice none 0 0],7,80):=aw
theorem Am:QZ prog 67 0=some 0:=aw
theorem An:QZ prog 67 1=some 1:=aw
theorem T9:QZ prog 67 2=some 4:=aw
theorem Pw:QZ prog 67 3=some 5:=aw
theorem I2:QZ prog 67 4=some 6:=aw
theorem sW:QV prog 69=some 10:=aw
theorem El:fJ prog 69=some true:=aw
theorem HD:iL prog 69=some (.agg #[.int .u8 0,.int .i64 0,.slice none 0 0,.int .u8 0,.int .u8 0,.int .i64 0,.string ⟨#[]⟩,.int .i64 0,.int .u8 0,.slice none 0 0]):=aw
theorem Va:QZ prog 69 0=some 0:=aw
theorem tz:QZ prog 69 1=some 1:=aw
theorem Px:QZ prog 69 2=some 2:=aw
theorem Td:QZ prog 69 3=some 3:=aw
theorem pj:QV prog 70=some 1:=aw
theorem oS:fJ prog 70=some false:=aw
theorem kP:gG prog 70=some 69:=aw
theorem D9:QV prog 71=some 1:=aw
theorem CU:fJ prog 71=some false:=aw
theorem yD:gG prog 71=some 105:=aw
theorem xo:QV prog 73=some 5:=aw
theorem oT:fJ prog 73=some true:=aw
theorem Dd:iL prog 73=some (.agg #[.string ⟨#[]⟩,.int .i64 0,.int .i64 0,.slice none 0 0,.slice none 0 0]):=aw
theorem tA:QZ prog 73 0=some 0:=aw
theorem Hw:QZ prog 73 1=some 1:=aw
theorem lq:QZ prog 73 2=some 2:=aw
theorem Py:QZ prog 73 3=some 3:=aw
theorem pb:QZ prog 73 4=some 4:=aw
theorem Da:QV prog 74=some 1:=aw
theorem CV:fJ prog 74=some false:=aw
theorem wz:QV prog 76=some 5:=aw
theorem rK:fJ prog 76=some true:=aw
theorem rO:iL prog 76=some (.agg #[.int .u8 0,.int .i64 0,.int .u8 0,.int .i64 0,.string ⟨#[]⟩]):=aw
theorem U9:j0 prog 76=some (.agg #[.int .u8 0,.int .i64 0,.int .u8 0,.int .i64 0,.string ⟨#[]⟩],5,48):=aw
theorem a1N:tO prog 76=some [(0,1),(1,1),(2,3)]:=aw
theorem pc:QZ prog 76 0=some 0:=aw
theorem DH:QZ prog 76 1=some 1:=aw
theorem pd:QZ prog 76 2=some 2:=aw
theorem ml:QV prog 78=some 2:=aw
theorem U7:fJ prog 78=some true:=aw
theorem Uc:iL prog 78=some (.agg #[.string ⟨#[]⟩,.int .i64 0]):=aw
theorem a1Q:j0 prog 78=some (.agg #[.string ⟨#[]⟩,.int .i64 0],2,24):=aw
theorem lr:QZ prog 78 0=some 0:=aw
theorem Pz:QZ prog 78 1=some 1:=aw
theorem Db:QV prog 81=some 1:=aw
theorem Hv:fJ prog 81=some false:=aw
theorem rN:gG prog 81=some 108:=aw
theorem Dc:QV prog 82=some 1:=aw
theorem CW:fJ prog 82=some false:=aw
theorem kR:QV prog 83=some 1:=aw
theorem kO:fJ prog 83=some false:=aw
theorem a1V:iL prog 85=some (.agg #[.slice none 0 0,.slice none 0 0,.map none,.map none,.int .i64 0]):=aw
theorem a1O:tO prog 85=some [(0,1),(1,1),(2,1),(3,1),(4,1)]:=aw
theorem Hy:QZ prog 85 0=some 0:=aw
theorem pe:QZ prog 85 1=some 1:=aw
theorem pf:QZ prog 85 2=some 2:=aw
theorem lu:QZ prog 85 3=some 3:=aw
theorem Vb:QZ prog 85 4=some 4:=aw
theorem yE:QV prog 88=some 1:=aw
theorem CX:fJ prog 88=some false:=aw
theorem a1R:QV prog 96=some 2:=aw
theorem a1W:iL prog 96=some (.agg #[.int .i64 0,.int .i64 0]):=aw
theorem mn:QV prog 99=some 1:=aw
theorem rL:fJ prog 99=some false:=aw
theorem nL:gG prog 99=some 3:=aw
theorem PD:QV prog 101=some 2:=aw
theorem FT:fJ prog 101=some true:=aw
theorem Av:iL prog 101=some (.agg #[.int .i64 0,.slice none 0 0]):=aw
theorem FW:j0 prog 101=some (.agg #[.int .i64 0,.slice none 0 0],2,32):=aw
theorem Nv:tO prog 101=some [(0,1),(1,1)]:=aw
theorem CY:QZ prog 101 0=some 0:=aw
theorem ZA:QZ prog 101 1=some 1:=aw
theorem NC:QV prog 103=some 1:=aw
theorem Nk:fJ prog 103=some false:=aw
theorem Aq:QV prog 105=some 4:=aw
theorem Nl:fJ prog 105=some true:=aw
theorem CZ:QZ prog 105 0=some 0:=aw
theorem UP:QZ prog 105 1=some 1:=aw
theorem ZB:QZ prog 105 2=some 2:=aw
theorem Pn:QZ prog 105 3=some 3:=aw
theorem Bb:QV prog 108=some 1:=aw
theorem I8:fJ prog 108=some false:=aw
theorem NI:iL prog 108=some (.pointer none):=aw
theorem Yj:j0 prog 108=some (.pointer none,1,8):=aw
theorem DL:QV prog 109=some 1:=aw
theorem DK:fJ prog 109=some false:=aw
theorem JO:QV prog 110=some 1:=aw
theorem PC:fJ prog 110=some false:=aw
theorem JN:gG prog 110=some 213:=aw
theorem Yo:iL prog 112=some (.agg #[.pointer none,.slice none 0 0,.map none]):=aw
theorem Y9:tO prog 112=some [(0,1),(1,1),(2,1)]:=aw
theorem vE:QZ prog 112 0=some 0:=aw
theorem Ol:QZ prog 112 1=some 1:=aw
theorem vF:QZ prog 112 2=some 2:=aw
theorem Ar:QV prog 115=some 13:=aw
theorem FU:fJ prog 115=some true:=aw
theorem NJ:iL prog 115=some (.agg #[.pointer none,.int .i64 0,.int .u8 0,.int .i64 0,.slice none 0 0,.int .u8 0,.int .u8 0,.int .i64 0,.string ⟨#[]⟩,.int .i64 0,.int .u8 0,.slice none 0 0,.map none]):=aw
theorem Ya:tO prog 115=some [(0,1),(1,1),(2,10),(12,1)]:=aw
theorem Kh:QZ prog 115 0=some 0:=aw
theorem vG:QZ prog 115 1=some 1:=aw
theorem oU:QZ prog 115 2=some 2:=aw
theorem Po:QZ prog 115 3=some 12:=aw
theorem As:QV prog 117=some 1:=aw
theorem Ak:fJ prog 117=some false:=aw
theorem NK:iL prog 117=some (.pointer none):=aw
theorem Yp:iL prog 120=some (.agg #[.pointer none,.pointer none,.int .i64 0,.int .u8 0,.int .i64 0,.slice none 0 0,.int .u8 0,.int .u8 0,.int .i64 0,.string ⟨#[]⟩,.int .i64 0,.int .u8 0,.slice none 0 0,.map none]):=aw
theorem Yb:tO prog 120=some [(0,1),(1,13)]:=aw
theorem D2:QZ prog 120 0=some 0:=aw
theorem Pp:QZ prog 120 1=some 1:=aw
theorem Yq:iL prog 122=some (.agg #[.pointer none,.pointer none,.int .i64 0,.int .u8 0,.int .i64 0,.slice none 0 0,.int .u8 0,.int .u8 0,.int .i64 0,.string ⟨#[]⟩,.int .i64 0,.int .u8 0,.slice none 0 0,.map none]):=aw
theorem Yc:tO prog 122=some [(0,1),(1,13)]:=aw
theorem D3:QZ prog 122 0=some 0:=aw
theorem Om:QZ prog 122 1=some 1:=aw
theorem Yr:iL prog 125=some (.agg #[.pointer none,.int .i64 0,.int .u8 0,.int .i64 0,.slice none 0 0,.int .u8 0,.int .u8 0,.int .i64 0,.string ⟨#[]⟩,.int .i64 0,.int .u8 0,.slice none 0 0,.map none]):=aw
theorem Yd:tO prog 125=some [(0,13)]:=aw
theorem Qde:QZ prog 125 0=some 0:=aw
theorem PE:QV prog 127=some 1:=aw
theorem nk:fJ prog 127=some false:=aw
theorem kQ:QV prog 128=some 1:=aw
theorem kM:fJ prog 128=some false:=aw
theorem I9:gG prog 128=some 4:=aw
theorem jI:QV prog 130=some 2:=aw
theorem wv:fJ prog 130=some true:=aw
theorem Bc:iL prog 130=some (.agg #[.slice none 0 0,.slice none 0 0]):=aw
theorem qD:tO prog 130=some [(0,1),(1,1)]:=aw
theorem UQ:QZ prog 130 0=some 0:=aw
theorem T1:QZ prog 130 1=some 1:=aw
theorem NL:iL prog 133=some (.agg #[.slice none 0 0,.slice none 0 0,.pointer none,.int .i64 0,.map none,.map none]):=aw
theorem Nw:tO prog 133=some [(0,2),(2,1),(3,1),(4,1),(5,1)]:=aw
theorem ZC:QZ prog 133 0=some 0:=aw
theorem Qdf:QZ prog 133 1=some 2:=aw
theorem Qdg:QZ prog 133 2=some 3:=aw
theorem oV:QZ prog 133 3=some 4:=aw
theorem ZD:QZ prog 133 4=some 5:=aw
theorem Yl:QV prog 187=some 1:=aw
theorem Y6:fJ prog 187=some false:=aw
theorem Kn:QV prog 198=some 1:=aw
theorem Km:fJ prog 198=some false:=aw
theorem Ys:iL prog 200=some (.agg #[.slice none 0 0,.slice none 0 0]):=aw
theorem Ye:tO prog 200=some [(0,2)]:=aw
theorem oW:QZ prog 200 0=some 0:=aw
theorem Yt:iL prog 202=some (.agg #[.slice none 0 0,.slice none 0 0,.int .i64 0,.int .i64 0]):=aw
theorem Yf:tO prog 202=some [(0,2),(2,1),(3,1)]:=aw
theorem Qdh:QZ prog 202 0=some 0:=aw
theorem HZ:QZ prog 202 1=some 2:=aw
theorem oX:QZ prog 202 2=some 3:=aw
theorem Yu:iL prog 209=some (.agg #[.int .i64 0,.slice none 0 0,.map none]):=aw
theorem Yg:tO prog 209=some [(0,1),(1,1),(2,1)]:=aw
theorem D4:QZ prog 209 0=some 0:=aw
theorem oY:QZ prog 209 1=some 1:=aw
theorem Qdi:QZ prog 209 2=some 2:=aw
theorem PF:QV prog 213=some 1:=aw
theorem FV:fJ prog 213=some false:=aw
theorem FZ:iL prog 213=some (.nilIface):=aw
theorem FX:j0 prog 213=some (.nilIface,1,16):=aw
theorem Ym:QV prog 225=some 1:=aw
theorem Y7:fJ prog 225=some false:=aw
theorem Yv:iL prog 261=some (.agg #[]):=aw
theorem Yh:tO prog 261=some []:=aw
theorem FY:QV prog 263=some 1:=aw
theorem Y8:fJ prog 263=some false:=aw
theorem NM:iL prog 265=some (.agg #[.slice none 0 0,.slice none 0 0,.string ⟨#[]⟩,.int .i64 0,.int .i64 0,.slice none 0 0,.slice none 0 0,.slice none 0 0,.slice none 0 0,.int .i64 0,.nilFunc]):=aw
theorem Nx:tO prog 265=some [(0,2),(2,5),(7,1),(8,1),(9,1),(10,1)]:=aw
theorem ZE:QZ prog 265 0=some 0:=aw
theorem D5:QZ prog 265 1=some 2:=aw
theorem D6:QZ prog 265 2=some 7:=aw
theorem oZ:QZ prog 265 3=some 8:=aw
theorem Qdj:QZ prog 265 4=some 9:=aw
theorem vH:QZ prog 265 5=some 10:=aw
theorem Yw:iL prog 448=some (.nilFunc):=aw
theorem Au:QV prog 457=some 2:=aw
theorem Np:fJ prog 457=some true:=aw
theorem G1:iL prog 457=some (.agg #[.slice none 0 0,.slice none 0 0]):=aw
theorem Yi:tO prog 457=some [(0,2)]:=aw
theorem UR:QZ prog 457 0=some 0:=aw
theorem Yx:iL prog 486=some (.nilFunc):=aw
theorem qF:QV prog 502=some 1:=aw
theorem vB:fJ prog 502=some false:=aw
theorem Yy:iL prog 502=some (.nilFunc):=aw
theorem Al:gG prog 535=some 127:=aw
theorem a2q:dq prog 9=true:=aw
theorem a0c:dq prog 10=true:=aw
theorem a0d:dq prog 11=true:=aw
theorem Tu:dq prog 13=true:=aw
theorem Lb:dq prog 18=true:=aw
theorem Ld:dq prog 20=true:=aw
theorem a0e:dq prog 25=true:=aw
theorem a0f:dq prog 26=true:=aw
theorem GM:dq prog 27=true:=aw
theorem Tv:dq prog 29=true:=aw
theorem a0g:dq prog 31=true:=aw
theorem a0h:dq prog 32=true:=aw
theorem Li:dq prog 33=true:=aw
theorem Tw:dq prog 36=true:=aw
theorem a0i:dq prog 37=true:=aw
theorem a0j:dq prog 38=true:=aw
theorem Tx:dq prog 39=true:=aw
theorem GN:dq prog 40=true:=aw
theorem Lr:dq prog 41=true:=aw
theorem GO:dq prog 50=true:=aw
theorem Ty:dq prog 51=true:=aw
theorem Tz:dq prog 52=true:=aw
theorem TA:dq prog 55=true:=aw
theorem a0k:dq prog 56=true:=aw
theorem rq:dq prog 57=true:=aw
theorem Lw:dq prog 58=true:=aw
theorem a0l:dq prog 64=true:=aw
theorem Lx:dq prog 65=true:=aw
theorem a0m:dq prog 66=true:=aw
theorem a0n:dq prog 68=true:=aw
theorem a0o:dq prog 71=true:=aw
theorem TB:dq prog 72=true:=aw
theorem a0p:dq prog 73=true:=aw
theorem BD:dq prog 79=true:=aw
theorem a0q:dq prog 80=true:=aw
theorem TC:dq prog 81=true:=aw
theorem a0r:dq prog 82=true:=aw
theorem a0s:dq prog 83=true:=aw
theorem BE:dq prog 84=true:=aw
theorem a0t:dq prog 85=true:=aw
theorem a0u:dq prog 86=true:=aw
theorem GP:dq prog 96=true:=aw
theorem a0v:dq prog 97=true:=aw
theorem a0w:dq prog 98=true:=aw
theorem Ly:dq prog 99=true:=aw
theorem VI:dq prog 100=true:=aw
theorem VJ:dq prog 101=true:=aw
theorem La:dq prog 102=true:=aw
theorem VK:dq prog 103=true:=aw
theorem VL:dq prog 106=true:=aw
theorem VM:dq prog 109=true:=aw
theorem VN:dq prog 140=true:=aw
theorem zB:dq prog 141=true:=aw
theorem VO:dq prog 142=true:=aw
theorem VP:dq prog 143=true:=aw
theorem OB:dq prog 144=true:=aw
theorem VQ:dq prog 156=true:=aw
theorem VR:dq prog 157=true:=aw
theorem VS:dq prog 158=true:=aw
theorem VT:dq prog 159=true:=aw
theorem VU:dq prog 160=true:=aw
theorem VV:dq prog 161=true:=aw
theorem VW:dq prog 162=true:=aw
theorem VX:dq prog 163=true:=aw
theorem VY:dq prog 164=true:=aw
theorem VZ:dq prog 166=true:=aw
theorem W0:dq prog 180=true:=aw
theorem W1:dq prog 181=true:=aw
theorem Lc:dq prog 192=true:=aw
theorem uy:dq prog 231=true:=aw
theorem W3:dq prog 232=true:=aw
theorem kz:dq prog 233=true:=aw
theorem Le:dq prog 252=true:=aw
theorem qb:dq prog 253=true:=aw
theorem W4:dq prog 254=true:=aw
theorem EN:dq prog 255=true:=aw
theorem W5:dq prog 256=true:=aw
theorem EO:dq prog 257=true:=aw
theorem W6:dq prog 286=true:=aw
theorem Lf:dq prog 287=true:=aw
theorem W7:dq prog 288=true:=aw
theorem W8:dq prog 289=true:=aw
theorem W9:dq prog 290=true:=aw
theorem Wa:dq prog 291=true:=aw
theorem Wb:dq prog 292=true:=aw
theorem Wc:dq prog 293=true:=aw
theorem Wd:dq prog 294=true:=aw
theorem We:dq prog 295=true:=aw
theorem Wf:dq prog 296=true:=aw
theorem Lg:dq prog 314=true:=aw
theorem Lh:dq prog 315=true:=aw
theorem EP:dq prog 333=true:=aw
theorem PB:dq prog 334=true:=aw
theorem ER:dq prog 335=true:=aw
theorem Wg:dq prog 336=true:=aw
theorem Wh:dq prog 337=true:=aw
theorem Lj:dq prog 349=true:=aw
theorem mL:dq prog 360=true:=aw
theorem Wi:dq prog 361=true:=aw
theorem Wj:dq prog 362=true:=aw
theorem Wk:dq prog 363=true:=aw
theorem Wl:dq prog 364=true:=aw
theorem Wm:dq prog 365=true:=aw
theorem Wn:dq prog 366=true:=aw
theorem Wo:dq prog 367=true:=aw
theorem Wp:dq prog 368=true:=aw
theorem Wq:dq prog 369=true:=aw
theorem Wr:dq prog 380=true:=aw
theorem ES:dq prog 397=true:=aw
theorem Ws:dq prog 398=true:=aw
theorem Lk:dq prog 399=true:=aw
theorem Wt:dq prog 400=true:=aw
theorem Ll:dq prog 401=true:=aw
theorem Wu:dq prog 402=true:=aw
theorem Wv:dq prog 403=true:=aw
theorem Lm:dq prog 404=true:=aw
theorem Ln:dq prog 405=true:=aw
theorem Lo:dq prog 406=true:=aw
theorem Lp:dq prog 407=true:=aw
theorem Lq:dq prog 408=true:=aw
theorem Ww:dq prog 409=true:=aw
theorem Wx:dq prog 410=true:=aw
theorem ET:dq prog 411=true:=aw
theorem Ls:dq prog 415=true:=aw
theorem Wy:dq prog 434=true:=aw
theorem Wz:dq prog 435=true:=aw
theorem Lt:dq prog 436=true:=aw
theorem EU:dq prog 437=true:=aw
theorem WA:dq prog 438=true:=aw
theorem Lu:dq prog 439=true:=aw
theorem Lv:dq prog 440=true:=aw
theorem WB:dq prog 441=true:=aw
end
section
open Go.RowKit
theorem LJ (op:BinOp)(x y:bw)(a b:Bool)(w:bx):(eqGuard op 4 x y (.bool a) (.bool b)).run Tryz.prog w=.ok () w:=by
 have h:Tryz.prog.eqGuardType Tryz.prog.depth 4=false:=aw
 cases op<;>simp[eqGuard]
theorem a3q (x y:bw)(a b:Bool)(w:bx):(do eqGuard .neq 4 x y (.bool a) (.bool b);binOp .neq 4 (.bool a) (.bool b):Sem bc).run Tryz.prog w=.ok (.bool (a !=b)) w:=by
 rw[Sem.run_bind,LJ,Result.andThen_ok];cases a<;>cases b<;>kernel_rfl
theorem a08 (x y:bw)(a b:Bool)(w:bx):(do eqGuard .eql 4 x y (.bool a) (.bool b);binOp .eql 4 (.bool a) (.bool b):Sem bc).run Tryz.prog w=.ok (.bool (a==b)) w:=by
 rw[Sem.run_bind,LJ,Result.andThen_ok];cases a<;>cases b<;>kernel_rfl
end
section
open Go.RowKit
theorem LL (op:BinOp)(x y:bw)(a b:Array bc)(w:bx):(eqGuard op 63 x y (.agg a) (.agg b)).run Tryz.prog w=.ok () w:=by
 have h:Tryz.prog.eqGuardType Tryz.prog.depth 63=false:=aw
 cases op<;>simp[eqGuard,program,Sem.run,h]
theorem XC (x y:bw)(a b:V)(w:bx):(do eqGuard .neq 63 x y (.agg (OC a ()).toArray) (.agg (OC b ()).toArray);binOp .neq 63 (.agg (OC a ()).toArray) (.agg (OC b ()).toArray):Sem bc).run Tryz.prog w=.ok (.bool (!decide (a=b))) w:=by
 rw[Sem.run_bind,LL,Result.andThen_ok];simp only[V.ext_iff',OC];simp[go_sem];by_cases h1:a.k=b.k<;>by_cases U:a.n=b.n<;>by_cases h3:a.s.toList=b.s.toList<;>simp[h1,U,h3]
theorem KY (x y:bw)(a b:V)(w:bx):(do eqGuard .eql 63 x y (.agg (OC a ()).toArray) (.agg (OC b ()).toArray);binOp .eql 63 (.agg (OC a ()).toArray) (.agg (OC b ()).toArray):Sem bc).run Tryz.prog w=.ok (.bool (decide (a=b))) w:=by
 rw[Sem.run_bind,LL,Result.andThen_ok];simp only[V.ext_iff',OC];simp[go_sem];by_cases h1:a.k=b.k<;>by_cases U:a.n=b.n<;>by_cases h3:a.s.toList=b.s.toList<;>simp[h1,U,h3]
end
end Go.Proofs.YtocfkfhdcnjklaaGreatDoor
namespace Go.Proofs
open Go.Shelf
theorem ft{p:Prop}(h:p:=by kernel_rfl):p:=h
def Tryz.sort66_ren:Go.Shelf.Ren:=⟨λ|6=>66|15=>108|14=>107|28=>190|29=>191|20=>182|21=>183|22=>184|23=>185|24=>186|25=>187|26=>188|27=>189|46=>274|47=>275|48=>276|49=>277|50=>278|57=>332|n=>n,λ|22=>51|24=>101|25=>153|3=>3|39=>230|0=>0|53=>320|55=>322|4=>4|46=>314|45=>313|50=>142|5=>5|9=>9|66=>435|70=>439|76=>482|77=>483|n=>n,λ|n=>n⟩
theorem Tryz.sort66:Go.Proofs.SlLaysF0.n6 Tryz.prog Tryz.sort66_ren:={
 mixed:=ft
 f6:=⟨Tryz.f66.name,by decide,Tryz.func66.trans (congrArg some ft)⟩
 f14:=⟨Tryz.f107.name,by decide,Tryz.func107.trans (congrArg some ft)⟩
 f15:=Tryz.func108.trans (congrArg some ft)
 f20:=⟨Tryz.f182.name,by decide,Tryz.func182.trans (congrArg some ft)⟩
 f21:=⟨Tryz.f183.name,by decide,Tryz.func183.trans (congrArg some ft)⟩
 f22:=⟨Tryz.f184.name,by decide,Tryz.func184.trans (congrArg some ft)⟩
 f23:=⟨Tryz.f185.name,by decide,Tryz.func185.trans (congrArg some ft)⟩
 f24:=⟨Tryz.f186.name,by decide,Tryz.func186.trans (congrArg some ft)⟩
 f25:=⟨Tryz.f187.name,by decide,Tryz.func187.trans (congrArg some ft)⟩
 f26:=⟨Tryz.f188.name,by decide,Tryz.func188.trans (congrArg some ft)⟩
 f27:=⟨Tryz.f189.name,by decide,Tryz.func189.trans (congrArg some ft)⟩
 f28:=Tryz.func190.trans (congrArg some ft)
 f29:=Tryz.func191.trans (congrArg some ft)
 f46:=⟨Tryz.f274.name,by decide,Tryz.func274.trans (congrArg some ft)⟩
 f47:=Tryz.func275.trans (congrArg some ft)
 f48:=Tryz.func276.trans (congrArg some ft)
 f49:=⟨Tryz.f277.name,by decide,Tryz.func277.trans (congrArg some ft)⟩
 f50:=⟨Tryz.f278.name,by decide,Tryz.func278.trans (congrArg some ft)⟩
 f57:=⟨Tryz.f332.name,by decide,Tryz.func332.trans (congrArg some ft)⟩
 t0:=Tryz.underlying0
 a0:=Tryz.isAgg0
 z0:=Tryz.sizeOf0
 v0:=Tryz.zeroValue0
 t3:=Tryz.underlying3
 a3:=Tryz.isAgg3
 z3:=Tryz.sizeOf3
 v3:=Tryz.zeroValue3
 t4:=Tryz.underlying4
 a4:=Tryz.isAgg4
 z4:=Tryz.sizeOf4
 v4:=Tryz.zeroValue4
 t5:=Tryz.underlying5
 a5:=Tryz.isAgg5
 z5:=Tryz.sizeOf5
 v5:=Tryz.zeroValue5
 t9:=Tryz.underlying9
 a9:=Tryz.isAgg9
 z9:=Tryz.sizeOf9
 v9:=Tryz.zeroValue9
 t22:=Tryz.underlying51
 a22:=Tryz.isAgg51
 z22:=Tryz.sizeOf51
 v22:=Tryz.zeroValue51
 t25:=Tryz.underlying153
 a25:=Tryz.isAgg153
 z25:=Tryz.sizeOf153
 v25:=Tryz.zeroValue153
 t39:=Tryz.underlying230
 a39:=Tryz.isAgg230
 z39:=Tryz.sizeOf230
 v39:=Tryz.zeroValue230
 t45:=Tryz.underlying313
 a45:=Tryz.isAgg313
 z45:=Tryz.sizeOf313
 v45:=Tryz.zeroValue313
 t46:=Tryz.underlying314
 a46:=Tryz.isAgg314
 z46:=Tryz.sizeOf314
 v46:=Tryz.zeroValue314
 t50:=Tryz.underlying142
 a50:=Tryz.isAgg142
 z50:=Tryz.sizeOf142
 v50:=Tryz.zeroValue142
 t53:=Tryz.underlying320
 a53:=Tryz.isAgg320
 z53:=Tryz.sizeOf320
 v53:=Tryz.zeroValue320
 t55:=Tryz.underlying322
 a55:=Tryz.isAgg322
 z55:=Tryz.sizeOf322
 v55:=Tryz.zeroValue322
 t66:=Tryz.underlying435
 a66:=Tryz.isAgg435
 z66:=Tryz.sizeOf435
 v66:=Tryz.zeroValue435
 t70:=Tryz.underlying439
 a70:=Tryz.isAgg439
 z70:=Tryz.sizeOf439
 v70:=Tryz.zeroValue439
 t76:=Tryz.underlying482
 a76:=Tryz.isAgg482
 z76:=Tryz.sizeOf482
 v76:=Tryz.zeroValue482
 t77:=Tryz.underlying483
 a77:=Tryz.isAgg483
 z77:=Tryz.sizeOf483
 v77:=Tryz.zeroValue483}
end Go.Proofs
namespace Go.Proofs.YtocfkfhdcnjklaaGreatDoor
section
open Go
variable {α:Type}{s:Sem α}{es:Array Event}
def Result.wld {α:Type}:Result α->bx
 | .ok _ w=>w
 | .halt _ w=>w
theorem Eu {α:Type}:∀(a:Ask α)(w:bx),w.drawn<=(w.ask a).2.drawn
 | .done _,_=>k' _
 | .ask what range k,w=>by
   unfold World.ask;simp only;split;· exact Eu (k 0) w
   · exact h' (J! _) (Eu _ {w with drawn:=w.drawn+1})
theorem Y5 (w:bx)(c:Sys):w.drawn<=(w.sys c).2.drawn:=by
 have h:=Eu (Kernel.perform c w.os) w;unfold World.sys;split;· exact k' _
 ·rename_i r os U _ e;rw[e]at h;exact h
theorem Iu (w:bx)(a:Addr)(n:Nat):(w.freeze a n).drawn=w.drawn:=by
 unfold World.freeze;split<;>rfl
theorem BA {p:da} {w w':bx} {a:Addr} {v:bc} {b:Bool} {l:aq Addr} (h:w.farStore p a v b=.ok (w',l)):w'.drawn=w.drawn:=by
 unfold World.farStore at h;split at h
 ·split at h
  ·rename_i r U;cases h;unfold World.viewStore at U;simp only[bind,Except.bind,pure,Except.pure]at U;repeat' split at U
   all_goals first|(cases U;done)|(cases U;rfl)|skip
  · cases h
 · cases h
theorem nc (p:da):∀(s:Sem α) (w:bx),w.drawn<=(Result.wld (s.run p w)).drawn:=by
 intro s;induction s with
 |pure a=>intro w;exact k' _
 | load m a k U=>
   intro w;unfold Sem.run;split;· exact U _ w
   ·split;· exact U _ w
    · exact k' _
 | store m a v k U=>
   intro w
   cases v<;>unfold Sem.run<;>first
    |exact k' _
    | (split
       ·split;· exact k' _
        · exact U (w.setCell a _)
       ·split
        ·rename_i hf;have:=U (by assumption);rw[BA hf]at this;exact this
        · exact k' _)
 |new o k U=>intro w;exact U _ {w with heap:=w.heap.push o}
 |shape r k U=>intro w;exact U _ w
 |freeze a n k U=>intro w;have:=U (w.freeze a n);rw[Iu]at this;exact this
 |frozen a k U=>intro w;exact U _ w
 | getObj r k U=>
   intro w;unfold Sem.run;split;· exact k' _
   · exact U _ w
   · exact k' _
 | setObj r o k U=>
   intro w;unfold Sem.run;split;· exact k' _
   · exact U {w with heap:=w.heap.setIfInBounds r o}
   · exact k' _
 | choose q k U=>
   intro w;unfold Sem.run;split;· exact U _ w
   · exact h' (J! _) (U _ {w with drawn:=w.drawn+1})
 |sys c k U=>intro w;exact h' (Y5 w c) (U _ (w.sys c).2)
 |program k U=>intro w;exact U _ w
 |mark m k U=>intro w;exact U w
 |halt h=>intro w;exact k' _
theorem N4 (p:da):∀(s:Sem α) (w:bx) (es:Array Event),(s.runT p w es).1=s.run p w:=by
 intro s;induction s with
 |pure a=>intro w es;rfl
 | load m a k U=>
   intro w es;simp only[Sem.runT,Sem.run];cases w.cell? a with
   |some v=>exact U _ _ _
   | none=>
     simp only;cases w.farLoad p a (m==.atomic)with
     |ok r=>exact U _ _ _
     |error h=>rfl
 | store m a v k U=>
   intro w es
   cases v<;>simp only[Sem.runT,Sem.run]<;>
     (cases w.cell? a with
      | some v=>
        simp only;split;· rfl
        · exact U _ _
      | none=>
        simp only;split;· exact U _ _
        · rfl)
 |new o k U=>intro w es;exact U _ _ _
 |shape r k U=>intro w es;exact U _ _ _
 |freeze a n k U=>intro w es;exact U _ _
 |frozen a k U=>intro w es;exact U _ _ _
 | getObj r k U=>
   intro w es;simp only[Sem.runT,Sem.run];split;· rfl
   · exact U _ _ _
   · rfl
 | setObj r o k U=>
   intro w es;simp only[Sem.runT,Sem.run];split;· rfl
   · exact U _ _
   · rfl
 | choose q k U=>
   intro w es;simp only[Sem.runT,Sem.run];split;· exact U _ _ _
   · exact U _ _ _
 |sys c k U=>intro w es;exact U _ _ _
 |program k U=>intro w es;exact U _ _ _
 |mark m k U=>intro w es;exact U _ _
 |halt h=>intro w es;rfl
theorem V9 (p:da)(s:Sem α)(w:bx)(es:Array Event):w.drawn<=(Result.wld (s.runT p w es).1).drawn:=by
 rw[N4];exact nc p s w
theorem Ae {p:da} {w:bx} {U:Array Event} {r:Result α} (e:s.runT p w es=(r,U)):w.drawn<=(Result.wld r).drawn:=by
 have h:=V9 p s w es;rw[e]at h;exact h
theorem JL {p:da} {w:bx} {r:Result α} (e:s.run p w=r):w.drawn<=(Result.wld r).drawn:=by
 have h:=nc p s w;rw[e]at h;exact h
def GStep.dr (d:Nat):GStep->Prop
 | .go _ w _=>d<=w.drawn
 | .comm _ _ _ _ w _=>d<=w.drawn
 | .spawn _ _ w _=>d<=w.drawn
 | .count _ w _=>d<=w.drawn
 | .timer _ _ w _=>d<=w.drawn
 | .alone _ _ w _=>d<=w.drawn
 | .newcoro _ _ _ w _=>d<=w.drawn
 | .coroswitch _ _ _ w _=>d<=w.drawn
 | .collect _ w _=>d<=w.drawn
 | .watch _ w _=>d<=w.drawn
 | .ended _ _ _=>True
theorem uS {d:Nat} {c:Prop} [Decidable c] {a b:GStep} (U:GStep.dr d a)(hb:GStep.dr d b):GStep.dr d (if c then a else b):=by split<;>assumption
theorem T2 {d:Nat} {g:GStep} (h:GStep.dr d g):GStep.dr d (g.after es):=by cases g<;>exact h
section
variable {p:da} {main:Bool} {fr:Frame} {callers:aq Frame} {dying:bf Dying} {w:bx} {d:Nat}
variable {listen:Bool}
theorem QcY (h:d<=w.drawn)(v:bc):GStep.dr d (doReturn p main fr callers dying v w):=by
 unfold doReturn;repeat' split
 all_goals first|trivial|exact h
theorem Qd1 (h:d<=w.drawn)(m:String):GStep.dr d (endThrow fr m w):=h
theorem Qd0 (h:d<=w.drawn)(v:bc):GStep.dr d (endPrinting p fr v w):=by
 unfold endPrinting;simp only;split;· exact h
 · trivial
theorem rm (h:d<=w.drawn)(m:String):GStep.dr d (endFatal p fr callers dying m w):=by
 unfold endFatal;extract_lets chain raw shown;have h1:=nc p shown w;generalize shown.run p w=r at h1;match r with
 | .ok (texts,U) w'=>exact h' h h1
 | .halt (.unsupported u) w'=>trivial
 | .halt (.panic _) _| .halt .goexit _| .halt .blocked _| .halt .waiting _| .halt (.exit _) _| .halt (.fatal _) _| .halt (.throw _) _| .halt (.stuck _) _=>trivial
theorem EJ (fd:Nat)(text:cq)(o:Outcome):GStep.dr d (endWith w fd text o):=by
 unfold endWith;simp only;split;· split<;>trivial
 · trivial
 · trivial
theorem Gb (h:d<=w.drawn)(y:Dying)(f:Fatal):GStep.dr d (writeOn p fr y f w):=by
 unfold writeOn;extract_lets on;split;· trivial
 ·extract_lets;split;all_goals first|trivial|exact h' h (Ae (by assumption))
theorem Vv (h:d<=w.drawn)(y:Dying):GStep.dr d (die p fr y w):=by
 unfold die;split;· exact Gb h _ _
 ·split
  ·split;· exact h
   · exact EJ _ _ _
  ·extract_lets y2;split;· exact h
   ·rename_i s _;have h1:=nc p (withAddress s) w;generalize (withAddress s).run p w=r at h1;match r with
    | .ok s w'=>exact h' h h1
    | .halt _ w'=>trivial
   ·rename_i v _ _ _ t recv name _;have h1:=V9 p (invoke (.fn (.method name) #[]) #[.iface t recv]) w #[];generalize (invoke (.fn (.method name) #[]) #[.iface t recv]).runT p w #[]=r at h1;obtain⟨r,es⟩:=r;simp only;refine T2 ?_;split;· exact h' h h1
    · exact h' h h1
    · trivial
    · exact Qd0 (h' h h1) _
    · trivial
   · trivial
theorem sj (h:d<=w.drawn)(y:Deferred):GStep.dr d (callDeferred p fr callers dying y w):=by
 unfold callDeferred;refine uS trivial ?_
 ·have h1:=V9 p (invoke y.target y.args) w #[];generalize (invoke y.target y.args).runT p w #[]=r at h1;obtain⟨r,es⟩:=r;simp only;refine T2 ?_;split;all_goals first|trivial|exact h' h h1|exact rm (h' h h1) _|exact Qd1 (h' h h1) _|(split<;>exact h' h h1)
theorem Jp (h:d<=w.drawn):GStep.dr d (unwind p main fr callers dying w):=by
 unfold unwind;split
 ·rename_i block _ ds _;have h1:=V9 p (Instr.takeDeferred block) w #[];generalize (Instr.takeDeferred block).runT p w #[]=r at h1;obtain⟨r,es⟩:=r;simp only;refine T2 ?_;split;· exact h' h h1
  · trivial
 · exact sj h _
 ·split;· trivial
  ·split;· trivial
   ·split;· exact h
    ·split
     ·split;· exact h
      ·rename_i chain _ _ _ _ _;have h1:=nc p (reportChain chain false) w;generalize (reportChain chain false).run p w=r at h1;split;· exact h' h h1
       · trivial
       · trivial
     ·split;· exact Qd0 h _
      · trivial
  ·split;· exact QcY h _
   ·rename_i fn _;have h1:=V9 p (results fn fr.tmps) w #[];generalize (results fn fr.tmps).runT p w #[]=r at h1;obtain⟨r,es⟩:=r;simp only;refine T2 ?_;split;· exact QcY (h' h h1) _
    · trivial
    · trivial
theorem KV (h:d<=w.drawn) (g:Nat):GStep.dr d (early p fr callers dying g w):=by
 unfold early;extract_lets refuse notYet
 have U:∀w:bx,d<=w.drawn->GStep.dr d (notYet w):=λw hw=>by
  show GStep.dr d (match w.heap[g]? with
   |some (.pending c elem)=>.go {frame:=fr,callers,status:=.running,dying} {w with heap:=w.heap.setIfInBounds g (.cells c elem)}
   |_=>.ended (.stuck "early: the variable does not wait" (fr.pos p)) w)
  split;· exact hw
  · trivial
 split;· exact U w h
 ·split;· trivial
  ·rename_i f _;extract_lets there;have ht:∀w:bx,d<=w.drawn->GStep.dr d (there w):=λw hw=>hw
   split;· exact U w h
   ·split;· exact U w h
    ·split;· trivial
     · exact ht w h
     · trivial
     · exact U w h
     ·split;· exact ht w h
      ·split;· exact U w h
       ·have h1:=nc p (choose (.early g)) w;generalize (choose (.early g)).run p w=r at h1;split;· exact U _ (h' h h1)
        · exact ht _ (h' h h1)
        · trivial
theorem GJ {α:Type} {d:Nat} {o:bf α} {a:GStep} {f:α->GStep} (U:GStep.dr d a)(hf:∀x,GStep.dr d (f x)):GStep.dr d (o.elim a f):=by
 cases o with
 |none=>exact U
 |some x=>exact hf x
theorem QcW (h:d<=w.drawn)(s:Sem Next):GStep.dr d (stepG.apply p listen fr callers dying s w):=by
 unfold stepG.apply;extract_lets go kind
 have key:w.drawn<=(Result.wld (if listen=true then s.runT p w #[]else(s.run p w,#[])).1).drawn:=by
  split;· exact V9 p s w #[]
  · exact nc p s w
 generalize (if listen=true then s.runT p w #[]else(s.run p w,#[]))=re at key;obtain⟨r,es⟩:=re;simp only;refine T2 ?_;have h1:=h' h key;simp only at h1;clear key;split
 all_goals first
  |trivial
  |exact h1
  |exact rm h1 _
  |exact Qd1 h1 _
  |exact KV h1 _
  |exact uS (Qd1 h1 _) h1
  |(split<;>exact h1)
  |(split<;>split<;>exact h1)
theorem S3 (h:d<=w.drawn):GStep.dr d (stepG.oper p listen fr callers dying w):=by
 unfold stepG.oper;split;· trivial
 ·split;· exact QcW h _
  · exact QcW h _
theorem PW (h:d<=w.drawn):GStep.dr d (stepG.exec p main listen fr callers dying w):=by
 unfold stepG.exec;extract_lets go toK lost leave;have U:∀f w',d<=w'.drawn->GStep.dr d (go f w'):=λf w' hw=>hw
 have ZT:∀k,GStep.dr d (toK k):=λk=>h;have Mb:∀s,GStep.dr d (lost s):=λs=>trivial
 have M7:∀j,GStep.dr d (leave j):=by
  intro j;simp only[leave];split;· exact uS h trivial
  ·rename_i l _;have h1:=V9 p (Instr.endRound l j) w #[];generalize (Instr.endRound l j).runT p w #[]=r at h1;obtain⟨r,es⟩:=r;simp only;refine T2 ?_;split;· exact QcY (h' h h1) _
   · trivial
 clear_value leave
 split
 all_goals first
  |exact M7 _
  |exact ZT _
  |exact Mb _
  |trivial
  |exact QcW h _
  |exact GJ (M7 _) ZT
  |exact GJ (Mb _) (λ_=>QcW h _)
  |exact uS (S3 h) (U _ _ h)
  |(split<;>first|exact ZT _|exact Mb _)
  | (refine uS (ZT _) ?_
     split;· exact U _ _ (h' h (JL (by assumption)))
     · trivial)
  | (split
     rename_i r es heq;have h1:=h' h (Ae heq);refine T2 ?_;split;· exact U _ _ h1
     · exact U _ _ h1
     · trivial)
  | (split
     rename_i r es heq;have h1:=h' h (Ae heq);refine T2 ?_;split;· exact QcW h1 _
     · trivial)
theorem Nh {g:Goroutine} (h:d<=w.drawn):GStep.dr d (stepG p main g w listen):=by
 unfold stepG;split;split;· exact Vv h _
 · exact PW h
 · exact Jp h
end
def Stepped.dr (d:Nat):Stepped->Prop
 | .next m=>d<=m.world.drawn
 | .ended _ _=>True
section
variable {p:da} {d:Nat}
variable {m m':Machine}{rest:Rest}{gs:Array Goroutine}{cases:Array CommCase}
theorem Hd {w:bx} (h:d<=w.drawn):Stepped.dr d (Go.look p gs rest w):=by
 unfold Go.look
 repeat' first
  |trivial
  |exact h' h (JL (by assumption))
  |split
  |extract_lets
theorem N7 (h:d<=m.world.drawn)(k:Nat):Stepped.dr d (serve p m k):=by
 unfold serve;split;· trivial
 · exact h
 ·extract_lets;split;· trivial
  · exact h
theorem Az {w U:bx} (e:waitingAt rest cases w=some U):U.drawn=w.drawn:=by
 unfold waitingAt at e;split at e
 ·split at e;· cases e;rfl
  · cases e
 · cases e;rfl
theorem KS (w:bx)(c:Nat):(drain w c).2.drawn=w.drawn:=by
 unfold drain;split<;>rfl
theorem yv (m:Machine)(k:Nat)(t:Timer)(a b:Nat):(retime m k t a b).2.world.drawn=m.world.drawn:=by
 unfold retime;split;rename_i U world heq;simp only;split at heq
 ·rename_i c _;have:=KS m.world c;rw[heq]at this;exact this
 · cases heq;rfl
theorem G4 {op:TimerOp} {v:bc} (e:timerOp m op=.ok (v,m')):m'.world.drawn=m.world.drawn:=by
 have U:∀(m0:Machine) (var:Addr) (f:Nat->Timer->bc×Machine),(∀k t,(f k t).2.world.drawn=m0.world.drawn)->timerOp.named m0 var f=.ok (v,m')->m'.world.drawn=m0.world.drawn:=λm0 var f hf h=>by
  unfold timerOp.named at h;split at h
  ·rename_i k _;have:=hf k (m0.rest.timers.getD k default);cases hv:f k (m0.rest.timers.getD k default)with
   | mk a b=>
     rw[hv]at h this;cases h;exact this
  · cases h
 unfold timerOp at e;split at e
 ·split at e;· cases e;rfl
  ·split at e
   · split at e;· cases e
     · cases e;rfl
   · cases e
 · exact U m _ _ (λk t=>yv m k t _ _) e
 ·split at e
  ·rename_i m1 hm
   have h1:m1.world.drawn=m.world.drawn:=by
     unfold timerOp.opened at hm;split at hm
     ·split at hm;· cases hm;rfl
      · cases hm
     · cases hm;rfl
   exact U m _ _ (λk t=>(yv m1 k t _ _).trans h1) e
  · cases e
 · cases e;rfl
theorem ua {i:Nat} {g:Goroutine} {Bi:Bool} {shape:CommShape} {w:bx} (h:d<=w.drawn):Stepped.dr d (communicate p rest gs i g cases Bi shape w).1:=by
 unfold communicate;extract_lets put a2c me other ready pick;split;· trivial
 ·split
  ·split
   ·split
    ·rename_i U e;show d<=U.drawn;rw[Az e];exact h
    · trivial
   · exact h
  ·split;· trivial
   ·rename_i k c way U e;have h1:d<=U.drawn:=h' h (JL e)
    repeat' first
     |exact h1
     |trivial
     |exact h' h1 (JL (by assumption))
     |split
     |extract_lets
     |(have e2:=‹Sem.run p (runtimePanic _) U=_›;exact h' h1 (JL e2))
theorem N5 (h:d<=m.world.drawn)(i:Nat)(listen:Bool):Stepped.dr d (runT p m i listen).1:=by
 unfold runT;extract_lets rest world;split;extract_lets a3T fn pos s ops done;have hs:GStep.dr d s:=Nh h
 clear_value s
 split;· trivial
 ·rename_i g cases U shape w es;split;rename_i r more e;show Stepped.dr d (r,more).1;rw[<-e];exact ua (show d<=w.drawn from hs)
 · exact hs
 · exact hs
 ·extract_lets;refine(?_:Stepped.dr d _);split;· trivial
  · exact hs
 · exact hs
 · exact Hd hs
 · exact hs
 · exact hs
 ·split;· exact hs
  · exact hs
  · trivial
 ·split
  ·rename_i e;show d<=_;have:=G4 e;rw[this];exact hs
  · exact hs
  · trivial
  · trivial
def Move.dr (d:Nat):Move->Prop
 | .goroutine m _=>d<=m.world.drawn
 | .machine s _=>Stepped.dr d s
theorem u0 (h:d<=m.world.drawn):Move.dr d (askOn p m):=by
 unfold askOn;extract_lets mono rs ds pick
 have hp:∀m1:Machine,d<=m1.world.drawn->Move.dr d (pick m1):=λm1 h1=>by
  simp only[pick];split;· trivial
  ·rename_i k w1 e;have U:=h' h1 (JL e);split;· exact U
   ·split;· trivial
    ·rename_i n w2 e2;exact h' U (JL e2)
 clear_value pick
 split;· trivial
 ·rename_i k w1 e;have h1:d<=w1.drawn:=h' h (JL e)
  clear_value rs
  extract_lets m1
  repeat' first
   |exact h1
   |trivial
   |exact N7 h1 _
   |exact hp _ h1
   |exact hp _ (h' h1 (JL (by assumption)))
   |exact h' h1 (JL (by assumption))
   |split
   |extract_lets
theorem GC (h:d<=m.world.drawn):Move.dr d (Go.ask p m):=by
 unfold Go.ask;split
 ·split;· trivial
  ·rename_i w1 e;have h1:d<=w1.drawn:=h' h (JL e);have U:=Hd (p:=p) (gs:=m.gs) (rest:=m.rest) h1;split
   ·rename_i m2 e2;rw[e2]at U;exact u0 U
   · exact U
  ·rename_i w1 e;exact u0 (h' h (JL e))
 · exact u0 h
theorem RR (h:d<=m.world.drawn):Move.dr d (move p m):=by
 unfold move;split
 ·split;· exact h
  · trivial
 ·split
  ·split;· exact h
   · exact GC h
  · exact GC h
theorem Sj (e:step p m=.next m'):m.world.drawn<=m'.world.drawn:=by
 have h:Stepped.dr m.world.drawn (step p m):=by
  unfold step stepT;have hm:=RR (p:=p) (k' m.world.drawn);split
  ·rename_i m1 i U;rw[U]at hm;exact N5 hm i true
  ·rename_i s ops U;rw[U]at hm;exact hm
 rw[e]at h;exact h
theorem Nj (h:Steps p m m'):m.world.drawn<=m'.world.drawn:=by
 obtain⟨n,U⟩:=h;induction n generalizing m with
 |zero=>cases U;exact k' _
 | succ n ih=>
   unfold runN at U;split at U
   ·rename_i m1 e;exact h' (Sj e) (ih U)
   ·rename_i ep;exact absurd U (λe=>ep _ e)
theorem Bl {f:FuncId} {args:Array bc} {w:bx} {R:Ending->bx->Prop} (h:Calls p f args w R):Calls p f args w (λe U=>R e U/\∀v,e=.returned v->w.drawn<=U.drawn):=λcs=>by
 obtain⟨e,U,fr,hR,hC,hf,hl⟩:=h cs;refine⟨e,U,fr,⟨hR,λv hv=>?_⟩,hC,hf,hl⟩;subst hv;exact Nj (m:=lone (Frame.enter p f args .normal) cs w) (m':=lone fr cs U) hC
end
end
section
open Go.RowKit Go.ChangeShapes Go.WideShapes Go.Deep
theorem QdT {H:Type} {enc:TypeId×bc->H} {P:da} (hl:laidOutB P=true) {W W':bx} (hb:Below W.heap.size W W'):∀{ts:aq TypeId} {vs:aq bc} {ds:aq (DataW H)} {U:aq MemPlace},(∀t∈ts,P.readableRec t=true/\t<P.types.size)->
   DataW.TrodAll enc P W 0 (λ_=>true) true ts vs ds U->(∀x∈U,x.block<W.heap.size)->DataW.TrodAll enc P W' 0 (λb=>decide (b<W.heap.size)) true ts vs ds U
 | [],vs,ds,U,_,h,_=>by
   cases vs with
   | nil=>cases ds with
     |nil=>exact h
     |cons d ds=>exact h
   |cons v vs=>cases ds<;>exact h
 | t::ts,vs,ds,U,ht,h,cj=>by
   obtain⟨v0,vs0,d0,ds0,p0,q0,rfl,rfl,rfl,h0,r0⟩:=trodAll_cons h;exact trodAll_cons_mk (Below.trod hl (ht t bh).1 (ht t bh).2 h0 hb (λx hx=>cj x (by simp[hx]))) (QdT hl hb (λt h=>ht t (by simp[h])) r0 (λx hx=>cj x (by simp[hx])))
theorem Mt {H:Type} {enc:TypeId×bc->H} {P:da} {f:Func} {s:ChangeSpec} {apart fresh handsOn:Bool} {W W':bx} {args:Array bc} {ds gs:aq (DataW H)} {before:aq MemPlace} {tb:TypeId}
  (hl:laidOutB P=true) (hr:∀t∈f.params.toList,P.readableRec t=true/\t<P.types.size) (mO:f.resultTypes=#[tb]) (htb:P.underlying tb=some .bool) (hv:s.vars=[])
  (hW:DataW.Whole enc P f.params.toList s.vars apart W args.toList ds gs before) (ja:(s.fn H (ds++gs)).results=[.lit (.bool true)]) (hfa:(s.fn H (ds++gs)).args=ds) (hfv:(s.fn H (ds++gs)).vars=[])
  (hb:Below W.heap.size W W'):s.post enc P f apart fresh handsOn false W args (.bool true) W':=by
 have U:=hW;obtain⟨p,q,hA,hV,rfl,hfz,IG⟩:=hW;rw[hv]at hV;obtain⟨rfl,rfl⟩:=trodVars_none hV;refine⟨ds,[],p++[],[],p++[],[],U,?_,?_,?_,hb.frame _,λh=>by cases h⟩
 ·rw[ja,mO];exact trodAll_mk1 (shut_bool htb true)
 ·rw[hfa,List.append_nil];exact QdT hl hb hr hA (λx hx=>U.lt x (du hx))
 · rw[hfv,hv];rfl
end
section
open Go.RowKit Go.Deep
variable {P:da}{w:bx}{v:bc}{r:Reach}{base t:Nat}
theorem FC {U:Array Field} (ht:P.underlying t=some (.struct U))(h:Value.okWide P w r base t v):∃cs,v=.agg cs:=by
 unfold Value.okWide at h;rw[ht]at h;obtain⟨cs,h1,_⟩:=h;exact⟨cs,h1⟩
theorem J3 {e:Nat} (U:P.underlying t=some (.slice e))(h:Value.okWide P w r base t v):v.cells.toList=[v]:=by
 unfold Value.okWide at h;rw[U]at h;unfold Cell.okWide at h;rw[U]at h;unfold Cell.ok at h;rw[U]at h;cases v<;>first|rfl|(simp at h)
theorem vw {f:FuncId} {args:aq bc} {Φ:aq Fact} (h:QF P f args Φ [] (λu U Hr=>u=v/\U=[]/\Hr=[]))(eN:∀φ∈Φ,φ.p (λk=>k<w.heap.size) w):
  Calls P f args.toArray w λe w'=>e=.returned v/\Mod (λ_=>False) w w':=by
 refine Calls.mono (h (λk=>k<w.heap.size) (λ_ _=>False) w (λ_ h=>h) eN (λi x hx=>by simp at hx) (λi k hi=>by simp at hi) (λi j k hi=>by simp at hi)) λe w' he=>?_;obtain⟨u,U,Hr,rfl,⟨rfl,_⟩,F,N,hm⟩:=he;exact⟨rfl,hm.mod.mono λk _ hk=>by obtain⟨i,hi,_⟩:=hk;simp at hi⟩
end
section
open Go Go.RowKit Go.Shelf
open Go.Sort (flatK putRowK HoldsK)
theorem grown_of {W U:bx} (hm:Mod (λ_=>False) W U)(hd:W.drawn<=U.drawn):∃q os',U=Go.Sort.grow (W.drewN q) os':=by
 refine⟨U.drawn-W.drawn,U.heap.extract W.heap.size U.heap.size,?_⟩
 have hh:U.heap=W.heap++U.heap.extract W.heap.size U.heap.size:=by
  apply Array.ext_getElem?;intro k;rw[Array.getElem?_append];split;· rename_i h;exact hm.block k h (λh=>h.elim)
  ·rename_i h;rw[Array.getElem?_extract];split;· congr 1;omega
   · rw[Array.getElem?_eq_none_iff];omega
 have h1:=hm.os;have h2:=hm.tape;have h3:=hm.output;obtain⟨hp,tp,dr,os,ot⟩:=U;simp only at h1 h2 h3 hh hd;subst h1;subst h2;subst h3;show _=({heap:=W.heap++_,tape:=W.tape,drawn:=W.drawn+(dr-W.drawn),os:=W.os,output:=W.output}:bx)
 rw[<-hh,Nat.add_sub_cancel' hd]
section
variable {α:Type} {k:Nat} {enc:α->aq bc}
theorem Q9L (hk:∀x,(enc x).length=k):∀{l:aq α} {U:aq bc},U.length=l.length*k->(∀i x,l[i]? =some x->∀c,c<k->U[i*k+c]? =(enc x)[c]?)->fD k (λcs x=>cs=enc x) U l
 |[],U,h,_=>y' (du h)
 | x::l,U,h,hc=>by
   have hl:U.length=l.length*k+k:=by rw[h,C!,A!]
   refine⟨U.take k,U.drop k,(List.take_append_drop k U).symm,by rw[List.length_take];omega,?_,Q9L hk (by rw[List.length_drop];omega) λi y hy c AO=>?_⟩
   ·apply B!;intro c;rw[b!];split
    ·rename_i AO;have:=hc 0 x rfl c AO;simpa using this
    ·rename_i AO;symm;rw[e!,hk];omega
   ·rw[List.getElem?_drop,<-hc (i+1) y (du hy) c AO];congr 1;rw[A!];omega
theorem ux [Inhabited α] (hk:∀x,(enc x).length=k)(d:Array α):(flatK enc k d).toList=d.toList.flatMap enc:=by
 refine fD.flat_iff enc (Q9L hk bh λi x hx c U=>?_)
 have hi:i<d.size:=by
  have:=(f'.1 hx).1;simpa using this
 have ht:i*k+c<d.size*k:=by
  have:=R' k hi;rw[A!]at this;omega
 have h1:(i*k+c)/k=i:=by rw[I!,Nat.mul_add_div au,Nat.div_eq_of_lt U];rfl
 have h2:(i*k+c)%k=c:=by rw[I!,Nat.mul_add_mod,Nat.mod_eq_of_lt U]
 have IP:d[i]! =x:=by
  rw[F']at hx;rw[getElem!_def,hx]
 have Rf:c<(enc x).length:=by rw[hk];exact U
 simp only[flatK,Array.toList_map,j',Array.toList_range,List.getElem?_range ht,T',h1,h2,IP];rw[l' Rf,getElem!_pos (enc x) c Rf]
end
theorem MO (ys:aq bc)(cur:Array bc)(h:ys.length<=cur.size):(Go.Sort.putCells id 0 ys.toArray cur).toList.take ys.length=ys:=by
 apply B!;intro t;rw[b!];split
 ·rename_i U;have hc:t<cur.size:=au
  rw[F'];unfold Go.Sort.putCells;rw[Array.getElem?_mapIdx,g! hc,T',if_pos ⟨K! _,by simpa using U⟩,l' U];simp[U]
 ·rename_i U;symm;rw[e!];omega
theorem S6 {B g n c:Nat} {e:TypeId} {sz:Nat} {xs U:aq bc} {w w':bx} (h:w.ownsRow B e sz (.slice (some ⟨g,0,none⟩) n c) n xs)(hl:U.length=n*sz)(hw:w'.heap[g]? =(w.heap[g]?).map (Go.Sort.onCells (Go.Sort.putCells id 0 U.toArray))):
  w'.ownsRow B e sz (.slice (some ⟨g,0,none⟩) n c) n U:=by
 refine⟨hl,?_⟩;rcases h.2 with⟨h0,_⟩|⟨g',cap,cur,hv,hb,hg,h1,h2,h3,h4⟩
 · cases h0
 ·cases hv;have hle:U.length<=cur.size:=by rw[hl,h3];exact R' _ h1
  refine .inr ⟨g,c,Go.Sort.putCells id 0 U.toArray cur,rfl,hb,by rw[hw,hg];rfl,h1,h2,by simp[Go.Sort.putCells,h3],?_⟩;rw[<-hl];exact MO U cur hle
section
variable {α:Type} [Inhabited α] {enc:α->aq bc} {k:Nat} {w:bx} {g m:Nat} {d:Array α} {os:Array Obj}
theorem Fb (U:g<w.heap.size):(sortWorldK enc k w g 0 m d os).heap[g]? =(w.heap[g]?).map (Go.Sort.onCells (Go.Sort.putCells id 0 (flatK enc k d))):=by
 unfold sortWorldK putRowK Go.Sort.putRow Go.Sort.mapBlock;rw[Go.Sort.heap_grow_old _ _ (du U)];simp[t!,Go.Sort.ahead]
theorem qu:Mod (λj=>j=g) w (sortWorldK enc k w g 0 m d os):=by
 refine⟨rfl,rfl,rfl,?_,λj hj U=>?_⟩
 ·unfold sortWorldK putRowK Go.Sort.putRow Go.Sort.mapBlock;simp[Go.Sort.ahead]
 ·unfold sortWorldK putRowK Go.Sort.putRow Go.Sort.mapBlock;rw[Go.Sort.heap_grow_old _ _ (du hj)];have:g≠j:=λe=>U e.symm
  simp[t!,Go.Sort.ahead,this]
theorem II {e:TypeId} {n c:Nat} {xs:aq bc} (h:w.ownsRow 0 e k (.slice (some ⟨g,0,none⟩) n c) n xs)(hx:(flatK enc k d).toList=xs):HoldsK enc k w g 0 d:=by
 rcases h.2 with⟨h0,_⟩|⟨g',cap,cur,hv,hb,hg,h1,h2,h3,h4⟩
 · cases h0
 ·cases hv;intro j U;have hlen:(flatK enc k d).size=n*k:=by rw[<-h.1,<-hx,x!]
  have hc:j<cur.size:=by rw[h3];exact Q' (hlen▸U) (R' _ h1)
  have hv2:cur[j]? =some ((flatK enc k d)[j]!):=by
   have h5:(cur.toList.take (n*k))[j]? =(flatK enc k d).toList[j]?:=by rw[h4,hx]
   rw[b!,if_pos (hlen▸U),F',F']at h5;rw[h5,getElem!_pos _ j U,g! U]
  constructor;· simp[World.cell?,hg,hv2]
  · simp[World.frozen?,hg]
end
noncomputable def oN {α:Type} (cf:α->α->Int)(l:aq α):aq α:=
 @dite _ (∃U:aq α,U.Perm l/\U.Pairwise λa b=>¬cf b a<0) (Classical.propDecidable _) (λh=>h.choose) (λ_=>l)
theorem vv {α:Type} {cf:α->α->Int} {l U:aq α} (hp:U.Perm l)(hs:U.Pairwise λa b=>¬cf b a<0)(ha:∀a∈l,∀b∈l,¬cf a b<0->¬cf b a<0->a=b):oN cf l=U:=by
 have h:∃U:aq α,U.Perm l/\U.Pairwise λa b=>¬cf b a<0:=⟨U,hp,hs⟩
 unfold oN;rw[dif_pos h];have h2:=h.choose_spec;exact List.Perm.eq_of_pairwise (le:=λa b=>¬cf b a<0) (λa b h3 h4 h5 h6=>ha a (h2.1.mem_iff.1 h3) b (hp.mem_iff.1 h4) h6 h5) h2.2 hs (h2.1.trans hp.symm)
def tS (P:da)(f:FuncId)(sz:Nat)(arg:aq bc->bc):Prop:=
 ∀ (n:Nat) [Inhabited (Fin n)] (enc:Fin n->aq bc) (U:Fin n->Fin n->Int) (g:FuncId) (cb:Array bc) (blk cap:Nat) (d:Array (Fin n)) (w:bx),(∀x,(enc x).length=sz)->(∀x,∀v∈enc x,v.oneCell'=true)->Go.Sort.SWO (ltOf U)->
   (∀args w,(callFunc g args).run P w=.ok (.enter g args) w)->
   (∀(m:Nat) (os:Array Obj) (dk:Array (Fin n)),dk.size=d.size->∀x y,Calls P g (#[arg (enc x),arg (enc y)]++cb) (sortWorldK enc sz w blk 0 m dk os) λe w'=>e=.returned (.int .i64 (U x y))/\∃q os',w'=Go.Sort.grow ((sortWorldK enc sz w blk 0 m dk os).drewN q) os')->
   HoldsK enc sz w blk 0 d->blk<w.heap.size->d.size<4611686018427387904->
   Calls P f #[.slice (some ⟨blk,0,none⟩) d.size cap,.func (.func g) #[] cb] w λe w'=>e=.returned (.tuple #[])/\∃d' n os,Go.Sort.PermIn 0 d.size d d'/\Go.Sort.SortedIn (ltOf U) 0 d.size d'/\w'=sortWorldK enc sz w blk 0 n d' os
theorem fD.mapF {α β:Type} {sz:Nat} {R:aq bc->α->Prop} {U:aq bc->β->Prop} (f:α->β)(hR:∀cs x,R cs x->U cs (f x)):∀{l:aq α} {xs:aq bc},fD sz R xs l->fD sz U xs (l.map f)
 |[],_,h=>h
 |_::_,_,⟨cs,rest,e1,e2,e3,e4⟩=>⟨cs,rest,e1,e2,hR cs _ e3,fD.mapF f hR e4⟩
theorem S7 {α:Type} [Inhabited α] {d d':Array α} (h:Go.Sort.PermIn 0 d.size d d'):d'.toList.Perm d.toList:=by
 have U:=h.2.2;rwa [a! (by rw[h.1];exact k' _),a! (k' _)]at U
theorem sorted_in {α:Type} [Inhabited α] {lt:α->α->Bool} {d:Array α} {n:Nat} (hn:d.size=n)(h:Go.Sort.SortedIn lt 0 n d):d.toList.Pairwise λa b=>lt b a=false:=by
 rw[List.pairwise_iff_getElem];intro i j hi hj DW;have eW:i<d.size:=by simpa using hi
 have U:j<d.size:=by simpa using hj
 have:=h i j (K! _) DW (hn▸U);rw[getElem!_pos d j U,getElem!_pos d i eW]at this;simpa using this
theorem FO {α:Type} {P:da} {f g:FuncId} {cb:Array bc} {e sz c:Nat} {arg:aq bc->bc} {R:fc α} {l:aq α} {p:bf Addr} {Φ:aq Fact} (U:α->α->Int)
  (hS:tS P f sz arg) (Mf:∀(p:bf Addr) (cap:Nat) (fv:bc) (w:bx),Calls P f #[.slice p 0 cap,fv] w λe w'=>e=.returned (.tuple #[])/\w'=w) (eg:∀args w,(callFunc g args).run P w=.ok (.enter g args) w)
  (LX:∀(cs wh:aq bc) (x y:α) (F:eL) (W:bx),(∀k,F k->k<W.heap.size)->(∀φ∈Φ,φ.p F W)->R.p F W cs x->R.p F W wh y->x∈l->y∈l->Calls P g (#[arg cs,arg wh]++cb) W λe w'=>e=.returned (.int .i64 (U x y))/\Mod (λ_=>False) W w')
  (h1:∀x∈l,¬U x x<0) (h2:∀x∈l,∀y∈l,∀z∈l,U x y<0->U y z<0->U x z<0) (h3:∀x∈l,∀y∈l,∀z∈l,¬U x y<0->¬U y z<0->¬U x z<0)
  (h4:∀x∈l,∀y∈l,¬U x y<0->¬U y x<0->x=y) (hlen:l.length<4611686018427387904):
  QF P f [.slice p l.length c,.func (.func g) #[] cb] Φ [.own e sz R (.slice p l.length c) l] λv bz Hr=>v=.tuple #[]/\bz=[]/\Hr=[.own e sz R (.slice p l.length c) (oN U l)]:=by
 intro F N w hF eN hH cj qi;obtain⟨hblk,xs,fU,kY⟩:=hH 0 _ rfl;have hz:oN U []=([]:aq α):=vv (List.Perm.refl _) List.Pairwise.nil (λa ha=>by simp at ha)
 have U1:l=[]->Calls P f #[.slice p l.length c,.func (.func g) #[] cb] w (sf ⟨w,λk=>∃i,i<1/\N i k,F⟩ λv bz Hr=>v=.tuple #[]/\bz=[]/\Hr=[.own e sz R (.slice p l.length c) (oN U l)]):=by
  rintro rfl;refine(Mf p c _ w).mono ?_;rintro e' w' ⟨rfl,rfl⟩;refine⟨_,[],_,rfl,⟨rfl,rfl,rfl⟩,F,N,hF,λ_ h=>h,λ_ h=>.inl h,λφ h=>(by cases h),λi x hx=>?_,λi k hi hk=>⟨(cj i k hi hk).1,.inr ⟨i,hi,hk⟩,(cj i k hi hk).2⟩,qi,Mod.refl _ _⟩;rw[hz]at hx;exact hH i x hx
 rcases fU.2 with⟨h0,hn⟩|⟨g',cap,cur,hv,_,hg,hle,kb,th,ZS⟩
 · exact U1 (y' hn)
 ·cases hv;rcases Nat.eq_zero_or_pos l.length with hn|iM;· exact U1 (y' hn)
  ·have hN:N 0 g':=hblk g' rfl;have hgF:¬F g':=(cj 0 g' bh hN).2;have hgs:g'<w.heap.size:=(cj 0 g' bh hN).1
   haveI:Inhabited (Fin l.length):=⟨⟨0,iM⟩⟩
   have GV:∀i:Fin l.length,∃cs,cs.length=sz/\R.p F w cs l[i]/\∀j u,cs[j]? =some u->xs[i.val*sz+j]? =some u:=λi=>kY.at (l' i.isLt)
   let enc:Fin l.length->aq bc:=λi=>(GV i).choose
   have IB:∀i,(enc i).length=sz/\R.p F w (enc i) l[i]/\∀j u,(enc i)[j]? =some u->xs[i.val*sz+j]? =some u:=λi=>(GV i).choose_spec
   clear_value enc
   let d:Array (Fin l.length):=(y! l.length).toArray;have hd:d.size=l.length:=by simp[d]
   have Rh:d.toList=y! l.length:=by simp[d]
   clear_value d
   have hk:∀x,(enc x).length=sz:=λx=>(IB x).1
   have a0I:(flatK enc sz d).toList=xs:=by
     rw[ux hk,Rh];refine(fD.flat_iff enc (Q9L hk (by rw[fU.1];simp) λi x hx c hc=>?_)).symm
     have IP:x.val=i:=by
       obtain⟨h5,h6⟩:=f'.1 hx;rw[<-h6];simp
     have Rf:c<(enc x).length:=by rw[hk];exact hc
     rw[l' Rf,<-IP];exact(IB x).2.2 c _ (l' Rf)
   have gQ:∀(m:Nat) (os:Array Obj) (dk:Array (Fin l.length)),fX F w (sortWorldK enc sz w g' 0 m dk os):=λm os dk k eO=>qu.block k (hF k eO) (λh=>hgF (h▸eO))
   have a0F:=hS l.length enc (λi j=>U l[i] l[j]) g cb g' c d w hk (λx v hv=>R.one (IB x).2.1 v hv)
     { irrefl:=λx=>decide_eq_false (h1 _ (n' x.isLt))
       trans:=λx y z q r=>decide_eq_true (h2 _ (n' x.isLt) _ (n' y.isLt) _ (n' z.isLt) (of_decide_eq_true q) (of_decide_eq_true r))
       ntrans:=λx y z q r=>decide_eq_false (h3 _ (n' x.isLt) _ (n' y.isLt) _ (n' z.isLt) (of_decide_eq_false q) (of_decide_eq_false r))} eg
     (fun m os dk hs x y=>(Bl (LX (enc x) (enc y) l[x] l[y] F (sortWorldK enc sz w g' 0 m dk os) (λk eO=>Q' (hF k eO) qu.size) (λφ bs=>φ.good (λ_ h=>h) (gQ m os dk) (eN φ bs)) (R.good (λ_ h=>h) (gQ m os dk) (IB x).2.1) (R.good (λ_ h=>h) (gQ m os dk) (IB y).2.1) (n' x.isLt) (n' y.isLt))).mono
       λ_ _ ⟨⟨he,hm⟩,hdr⟩=>⟨he,grown_of hm (hdr _ he)⟩)
     (II fU a0I) hgs (by rw[hd];exact hlen)
   rw[hd]at a0F;refine a0F.mono ?_;rintro e' w' ⟨rfl,d',m,os,hp,hs,rfl⟩;have TH:d'.size=l.length:=by rw[hp.1];exact hd
   have rB:(d'.toList.map λi=>l[i]).Perm l:=by
     have h5:=(S7 (d:=d) (d':=d') (by rw[hd];exact hp)).map (λi:Fin l.length=>l[i]);rw[Rh]at h5
     have h6:(y! l.length).map (λi=>l[i])=l:=by
       apply List.ext_getElem bh;intro i h7 h8;simp
     rwa [h6]at h5
   have BU:(d'.toList.map λi=>l[i]).Pairwise λa b=>¬U b a<0:=by
     rw[List.pairwise_map];exact(sorted_in TH hs).imp λh=>of_decide_eq_false h
   have hL:oN U l=d'.toList.map λi=>l[i]:=vv rB BU h4;have hm:Mod (λj=>j=g') w (sortWorldK enc sz w g' 0 m d' os):=qu;refine⟨_,[],_,rfl,⟨rfl,rfl,rfl⟩,F,N,λk h=>Q' (hF k h) hm.size,λ_ h=>h,λ_ h=>.inl h,λφ h=>(by cases h),λi x hx=>?_,λi k hi hk=>⟨Q' (cj i k (du hi) hk).1 hm.size,.inr ⟨i,by simpa using hi,hk⟩,(cj i k (du hi) hk).2⟩,λi j k hi hj=>qi i j k (du hi) (du hj),hm.mono λk _ h=>⟨0,bh,h▸hN⟩⟩;cases i with
   |succ i=>simp at hx
   | zero=>
     simp only[n!,Option.some.injEq]at hx;subst hx;refine⟨hblk,(flatK enc sz d').toList,?_,?_⟩
     · have hll:(oN U l).length=l.length:=by rw[hL,List.length_map,x!,TH]
       rw[hll];exact S6 fU (by simp[TH]) (by rw[Fb hgs])
     · rw[hL,ux hk];refine(fD.flat enc hk d'.toList).mapF (λi=>l[i]) λcs i h=>?_
       subst h;exact R.good (λ_ h=>h) (gQ m os d') (IB i).2.1
end
section
open Go Go.RowKit Go.Shelf
open Go.Sort (flatK putRowK HoldsK)
variable {P:da} {ρ:Ren}
def Ti (cs:aq bc):bc:=.agg cs.toArray
theorem Si (L:SlLaysF0.n6 P ρ)(k:Nat)(aE:∀w,(isAgg (ρ.t 24)).run P w=.ok true w)(zE:∀w,(Go.sizeOf (ρ.t 24)).run P w=.ok k w):tS P (ρ.f 6) k Ti:=
 λ_ _ enc cf g cb blk cap d w hk h1 hO eg U hH hblk iR=>AnyQ.slices_SortFunc L k aE zE enc hk h1 cf hO g cb blk 0 cap d w eg (λm os dk hs x y=>U m os dk hs x y) hH hblk iR
end
end Go.Proofs.YtocfkfhdcnjklaaGreatDoor
