import Derived.Test.YtocfkfhdcnjklaaGreatDoorCeF
import Derived.RangeFuncRecord
import Derived.RangeFuncLeaves
import Derived.Test.YtocfkfhdcnjklaaGreatDoorChecked
import Derived.Shelf.SlSortCmp.Whole1
import Derived.Shelf.SlSortCmp.WholeK
import Derived.Shelf.SlSortCmp.NoneTotal
import Derived.Ground.SlsfProg
import Derived.Test.YtocfkfhdcnjklaaGreatDoorProg
import Derived.ProofKit
import Derived.OpenShut
import Derived.Deep.Slices
import Derived.Deep.Fields
import Derived.Deep.Strs
import Derived.Lib.SmallJoins
import Derived.Shelf.SlSortCmp.InsertionK
namespace Go.Proofs.YtocfkfhdcnjklaaGreatDoor
section
open Go Go.RowKit
section
variable {O:Type}
def cq (s:Nat->Option O)(a:Nat)(o:O):Nat->Option O:=λb=>if b=a then some o else s b
def pA (a:Nat):Addr:=⟨a,0,none⟩
def del (s:Nat->Option O)(a:Nat):Nat->Option O:=λb=>if b=a then none else s b
theorem iQ (s:Nat->Option O)(a:Nat)(o:O):cq s a o a=some o:=if_pos rfl
theorem Vl (s:Nat->Option O) {a b:Nat} (o:O)(h:b≠a):cq s a o b=s b:=if_neg h
theorem sj (s:Nat->Option O)(a:Nat):del s a a=none:=if_pos rfl
theorem kW (s:Nat->Option O) {a b:Nat} (h:b≠a):del s a b=s b:=if_neg h
theorem qf (s:Nat->Option O)(a:Nat)(o:O):cq (del s a) a o=cq s a o:=by
 funext b;unfold cq del;split<;>rfl
theorem OK {s:Nat->Option O} {a:Nat} {o:O} (h:s a=some o):cq s a o=s:=by
 funext b;unfold cq;split;· rename_i e;rw[e,h]
 · rfl
theorem RR {s:Nat->Option O} {a:Nat} {o:O} (h:s a=some o):cq (del s a) a o=s:=by rw[qf,OK h]
def qn {R:Type} (s:Nat->Option O)(o:Nat->O)(k:Nat->(Nat->Option O)->WM R):WM R:=λQ=>∀a,s a=none->∀s',s'=cq s a (o a)->k a s' Q
def iU {R:Type} (s:Nat->Option O)(a:Nat)(k:WM R):WM R:=λQ=>s a=none->k Q
def mc (gg:Nat->O->List Fact)(s:Nat->Option O)(N F:eh)(w:World):Prop:=
 ∃U:Nat->eh,(∀a q,U a q->N q)/\(∀a b q,a≠b->U a q->¬U b q)/\∀a o,s a=some o->U a a/\ml (gg a o) (U a) F w
theorem mc.good {gg:Nat->O->List Fact} {s:Nat->Option O} {N N' F G:eh} {w w':World} (hN:∀k,N k->N' k)(ha:fB N w w')(hF:∀k,F k->G k)(hb:fB F w w')(h:mc gg s N F w):mc gg s N' G w':=by
 obtain⟨Ns,h1,h2,h3⟩:=h;exact⟨Ns,λa q U=>hN q (h1 a q U),h2,λa o ho=>⟨(h3 a o ho).1,(h3 a o ho).2.good (λ_ h=>h) (λq U=>ha q (h1 a q U)) hF hb⟩⟩
def Q3 (gg:Nat->O->List Fact)(s:Nat->Option O):Fact:=.duo (λN F w=>mc gg s N F w) mc.good
def rB {α Λ:Type} (a ty:Nat)(K:α->Λ->List Value)(Fs:α->Λ->List Fact)(x:α)(N F:eh)(w:World):Prop:=
 N a/\∃r,w.heap[a]? =some (.cells (K x r).toArray ty)/\∀φ∈Fs x r,φ.p F w
theorem rB.good {α Λ:Type} {a ty:Nat} {K:α->Λ->List Value} {Fs:α->Λ->List Fact} {x:α} {N N' F G:eh} {w U:World} (hN:∀k,N k->N' k)(ha:fB N w U)(hF:∀k,F k->G k)(hb:fB F w U)(h:rB a ty K Fs x N F w):rB a ty K Fs x N' G U:=by
 obtain⟨h1,r,h2,h3⟩:=h;exact⟨hN _ h1,r,(ha a h1).trans h2,λφ bj=>φ.good hF hb (h3 φ bj)⟩
def pz {α Λ:Type} (a ty:Nat)(K:α->Λ->List Value)(Fs:α->Λ->List Fact)(x:α):Fact:=.duo (λN F w=>rB a ty K Fs x N F w) rB.good
end
section
variable {O α Λ:Type} {C:Ctx} {Φ H:List Fact} {w:World} {gg:Nat->O->List Fact} {s s':Nat->Option O} {a ty:Nat} {o:O} {K:α->Λ->List Value} {Fs:α->Λ->List Fact} {x:α} {l:List Fact}
theorem Qj.poolOut (h:Qj C Φ H w)(k:Nat)(hk:H[k]? =some (Q3 gg s))(hs:s a=some o):Qj C Φ ((gg a o).reverse++H.set k (Q3 gg (del s a))) w:=by
 obtain ⟨_,h1⟩:=h.split (Λ:=Unit) (φ1:=λ_=>Q3 gg (del s a)) (φ2:=λ_=>iF (gg a o)) k hk (λN F ⟨Ns,h1,h2,h3⟩=>
  ⟨(),Ns a,λq=>N q/\¬Ns a q,λq U=>h1 a q U,λq U=>U,⟨λb q=>Ns b q/\b≠a,λb q U=>⟨h1 b q U.1,λhn=>h2 b a q U.2 U.1 hn⟩,λb c q db U dW=>h2 b c q db U.1 dW.1,λb o' hb=>by
    have db:b≠a:=λe=>by subst e;rw[sj]at hb;cases hb
    rw[kW s db]at hb;exact⟨⟨(h3 b o' hb).1,db⟩,(h3 b o' hb).2.good (λq U=>⟨U,db⟩) (fB.refl _ _) (λ_ h=>h) (fB.refl _ _)⟩⟩,(h3 a o hs).2⟩)
 exact h1.stars
theorem Qj.poolNo (h:Qj C Φ H w)(k j:Nat)(U:Nat.beq k j=false)(hk:H[k]? =some (Q3 gg s))(hj:H[j]? =some (pz a ty K Fs x)):s a=none:=by
 obtain⟨F,N,hi⟩:=h;have U1:k≠j:=λe=>by subst e;rw[Nat.beq_refl]at U;cases U
 obtain⟨Ns,h1,h2,h3⟩:mc gg s (N k) F w:=hi.owns k _ hk;obtain⟨h4,_⟩:rB a ty K Fs x (N j) F w:=hi.owns j _ hj;cases hs:s a with
 |none=>rfl
 |some o=>exact absurd h4 (hi.apart k j a (List.getElem?_eq_some_iff.1 hk).1 (List.getElem?_eq_some_iff.1 hj).1 U1 (h1 a a (h3 a o hs).1))
theorem Qj.poolIn (h:Qj C Φ ((gg a o).reverse++H) w)(k:Nat)(hk:H[k]? =some (Q3 gg s))(hg:gg a o=pz a ty K Fs x::l):s a=none/\Qj C Φ (H.set k (Q3 gg (cq s a o))) w:=by
 have h0:s a=none:=by
  rw[hg,List.reverse_cons]at h;refine h.poolNo (gg:=gg) (K:=K) (Fs:=Fs) (x:=x) (ty:=ty) (l.length+1+k) l.length ?_ ?_ ?_
  ·cases hb:Nat.beq (l.length+1+k) l.length with
   |false=>rfl
   |true=>have:=Nat.eq_of_beq_eq_true hb;omega
  ·rw[List.getElem?_append_right (by simp<;>omega)];simp only[List.length_append,List.length_reverse,List.length_cons,List.length_nil];rw[show l.length+1+k-(l.length+(0+1))=k from by omega];exact hk
  ·rw[List.append_assoc,List.getElem?_append_right ax];simp
 refine⟨h0,?_⟩;have h1:Qj C Φ (iF (gg a o)::H) w:=h.starsUp
 have h2:=h1.join (φ:=Q3 gg (cq s a o)) (k+1) 0 an (cv hk) rfl (λA B F ha hb hd=>by
  obtain⟨Ns,h1,h2,h3⟩:mc gg s A F w:=ha;have kG:ml (gg a o) B F w:=hb
  have hBa:B a:=by
   rw[hg]at kG;obtain⟨A',B',q1,q2,⟨q3,_⟩,_⟩:=kG;exact q1 a q3
  refine⟨λb q=>if b=a then B q else Ns b q,λb q U=>?_,λb c q db U dW=>?_,λb o' hbo=>?_⟩
  ·dsimp only at U;by_cases e:b=a;· rw[if_pos e]at U;exact .inr U
   · rw[if_neg e]at U;exact .inl (h1 b q U)
  ·dsimp only at U dW;by_cases e:b=a
   ·have e':c≠a:=λe'=>db (e.trans e'.symm);rw[if_pos e]at U;rw[if_neg e']at dW;exact hd q (h1 c q dW) U
   ·rw[if_neg e]at U;by_cases e':c=a;· rw[if_pos e']at dW;exact hd q (h1 b q U) dW
    · rw[if_neg e']at dW;exact h2 b c q db U dW
  ·by_cases e:b=a
   ·subst e;rw[iQ]at hbo;cases hbo;simp only[if_true];exact⟨hBa,kG⟩
   ·rw[Vl s o e]at hbo;simp only[if_neg e];exact h3 b o' hbo)
 simpa using h2
theorem Qj.cellOut (h:Qj C Φ H w)(k:Nat)(hk:H[k]? =some (pz a ty K Fs x)):∃r,Qj C (Fs x r++Φ) (H.set k (.blk a (K x r) ty)) w:=by
 obtain⟨F,N,hi⟩:=h;have bq:=(List.getElem?_eq_some_iff.1 hk).1;obtain⟨h1,r,h2,h3⟩:rB a ty K Fs x (N k) F w:=hi.owns k _ hk;refine⟨r,F,N,{hi.set k bq (Mod.refl _ _) (.blk a (K x r) ty) ⟨h1,h2⟩with facts:=λφ U=>?_}⟩;rcases List.mem_append.1 U with U|U;· exact h3 φ U
 · exact hi.facts φ U
theorem Qj.cellIn {cs:List Value} (h:Qj C Φ H w)(k:Nat)(r:Λ)(hk:H[k]? =some (.blk a cs ty))(hc:cs=K x r)(hf:∀F w,(∀ψ∈Φ,ψ.p F w)->∀φ∈Fs x r,φ.p F w):Qj C Φ (H.set k (pz a ty K Fs x)) w:=by
 subst hc;obtain⟨F,N,hi⟩:=h;have U:=(List.getElem?_eq_some_iff.1 hk).1;obtain⟨h1,h2⟩:(Fact.blk a (K x r) ty).op (N k) F w:=hi.owns k _ hk;exact⟨F,N,hi.set k U (Mod.refl _ _) (pz a ty K Fs x) ⟨h1,r,h2,hf F w hi.facts⟩⟩
end
section rules
variable {O α Λ:Type} {gg:Nat->O->List Fact} {s s':Nat->Option O} {a ty:Nat} {o:O} {K:α->Λ->List Value} {Fs:α->Λ->List Fact} {x:α} {l:List Fact}
variable {P:Program} {C:Ctx} {n:FD} {Q:Exit->Act->World->Prop} {Φ:List Fact} {H H':List Fact} {S:List (Nat×Value)} {ops:Array Oper} {rest:List Oper} {c:Code} {e:Exit} {cs:List Value}
theorem Qj.pOpen {w:World} (h:Qj C Φ H w)(k:Nat)(hk:H[k]? =some (Q3 gg s))(hs:s a=some o)(hg:gg a o=pz a ty K Fs x::l):∃r,Qj C (Fs x r++Φ) (l.reverse++.blk a (K x r) ty::H.set k (Q3 gg (del s a))) w:=by
 have h1:=h.poolOut k hk hs;rw[hg,List.reverse_cons,List.append_assoc]at h1;obtain⟨r,U⟩:=h1.cellOut (a:=a) (ty:=ty) (K:=K) (Fs:=Fs) (x:=x) l.length (by rw[List.getElem?_append_right ax];simp);refine⟨r,?_⟩;rw[List.set_append_right _ _ ax]at U;simpa using U
theorem I8 (k:Nat)(hk:H[k]? =some (Q3 gg s))(hs:s a=some o)(hg:gg a o=pz a ty K Fs x::l)(G:Λ->List Fact)(U:∀r,l.reverse++.blk a (K x r) ty::H.set k (Q3 gg (del s a))=G r)(next:∀r,WL P C n Q (Fs x r++Φ) (G r) S ops rest):WL P C n Q Φ H S ops rest:=λac w hf hw=>by
 obtain⟨r,h⟩:=hw.pOpen k hk hs hg;rw[U r]at h;exact next r ac w hf h
theorem S7 (k:Nat)(hk:H[k]? =some (Q3 gg s))(hs:s a=some o)(hg:gg a o=pz a ty K Fs x::l)(G:Λ->List Fact)(U:∀r,l.reverse++.blk a (K x r) ty::H.set k (Q3 gg (del s a))=G r)(next:∀r,WC P C n Q (Fs x r++Φ) (G r) S c):WC P C n Q Φ H S c:=λac w hf hw=>by
 obtain⟨r,h⟩:=hw.pOpen k hk hs hg;rw[U r]at h;exact next r ac w hf h
theorem Qj.pShut {w:World} {U:List Fact} (h:Qj C Φ H w)(q:List Nat)(k:Nat)(r:Λ)(hg:gg a o=pz a ty K Fs x::l)(hl:fE q H.length=true)(hp:QO H q=l.reverse++.blk a cs ty::U)(hk:U[k]? =some (Q3 gg s))(hc:cs=K x r)(hf:∀F w,(∀ψ∈Φ,ψ.p F w)->∀φ∈Fs x r,φ.p F w):s a=none/\Qj C Φ (U.set k (Q3 gg (cq s a o))) w:=by
 have h1:=h.pick q hl;rw[hp]at h1;have h2:=h1.cellIn (a:=a) (ty:=ty) (cs:=cs) (K:=K) (Fs:=Fs) (x:=x) l.length r (by rw[List.getElem?_append_right ax];simp) hc hf;rw[List.set_append_right _ _ ax]at h2;simp only[List.length_reverse,Nat.sub_self,List.set_cons_zero]at h2;refine Qj.poolIn (H:=U) ?_ k hk hg;rw[hg,List.reverse_cons,List.append_assoc];exact h2
theorem Wc {U:List Fact} (q:List Nat)(k:Nat)(r:Λ)(hg:gg a o=pz a ty K Fs x::l)(hl:fE q H.length=true)(hp:QO H q=l.reverse++.blk a cs ty::U)(hk:U[k]? =some (Q3 gg s))(hc:cs=K x r)(hf:∀F w,(∀ψ∈Φ,ψ.p F w)->∀φ∈Fs x r,φ.p F w)(he:cq s a o=s')(hH:U.set k (Q3 gg s')=H')
  (next:s a=none->WL P C n Q Φ H' S ops rest):WL P C n Q Φ H S ops rest:=λac w eP hw=>by
 obtain⟨h0,h1⟩:=hw.pShut (o:=o) q k r hg hl hp hk hc hf;rw[he,hH]at h1;exact next h0 ac w eP h1
theorem BA {U:List Fact} (q:List Nat)(k:Nat)(r:Λ)(hg:gg a o=pz a ty K Fs x::l)(hl:fE q H.length=true)(hp:QO H q=l.reverse++.blk a cs ty::U)(hk:U[k]? =some (Q3 gg s))(hc:cs=K x r)(hf:∀F w,(∀ψ∈Φ,ψ.p F w)->∀φ∈Fs x r,φ.p F w)(he:cq s a o=s')(hH:U.set k (Q3 gg s')=H')
  (next:s a=none->WC P C n Q Φ H' S c):WC P C n Q Φ H S c:=λac w eP hw=>by
 obtain⟨h0,h1⟩:=hw.pShut (o:=o) q k r hg hl hp hk hc hf;rw[he,hH]at h1;exact next h0 ac w eP h1
theorem BF {U:List Fact} (q:List Nat)(k:Nat)(r:Λ)(hg:gg a o=pz a ty K Fs x::l)(hl:fE q H.length=true)(hp:QO H q=l.reverse++.blk a cs ty::U)(hk:U[k]? =some (Q3 gg s))(hc:cs=K x r)(hf:∀F w,(∀ψ∈Φ,ψ.p F w)->∀φ∈Fs x r,φ.p F w)(he:cq s a o=s')(hH:U.set k (Q3 gg s')=H')
  (next:s a=none->WE C n Q Φ H' S e):WE C n Q Φ H S e:=λac w eP hw=>by
 obtain⟨h0,h1⟩:=hw.pShut (o:=o) q k r hg hl hp hk hc hf;rw[he,hH]at h1;exact next h0 ac w eP h1
theorem CC {b:Nat} {U:O} (h:s b=some U)(hn:b≠a):del s a b=some U:=(kW s hn).trans h
theorem Cy (f:O->Nat) {b:Nat} {o':O} (ha:s a=some o)(U:s b=some o')(h:Nat.beq (f o) (f o')=false):b≠a:=λe=>by
 subst e;rw[ha]at U;cases U;rw[Nat.beq_refl]at h;cases h
def jy {M:Type} (o:Option (Nat×M))(f:Nat->M->Fact):Fact:=match o with
 |none=>iF []
 |some y=>f y.1 y.2
theorem Qj.itForget {U α:Type} {m:MS U α} {g b:Nat} {done:List U} {last:Option U} {w:World} (h:Qj C Φ H w)(i:Nat)(hi:H[i]? =some (dw m g b done last)):Qj C Φ (H.set i (dw m g b done none)) w:=
 h.as_ i hi λN F ⟨h1,seen,h2,h3,_⟩=>⟨h1,seen,h2,h3,λk hk=>by cases hk⟩
theorem RS {d:Nat} {S':List (Nat×Value)} {op:Oper} {α Λ:Type} {t e sz st m g:Nat} {x:Operand} {R:eO α} {cp:Nat} {l:List α} {ag:Bool} {y:α} {cells:α->Λ->List Value} {pure:α->Λ->Prop} {facts:α->Λ->List Fact} {v:Λ->Value} {p:Option Addr} (hp:p=some ⟨g,0,none⟩)(U:qg R cells pure facts)(k j i:Nat)
  (hg:QI ops S op=some true) (hd:op.dst=some d) (hn:Nat.blt d n=true) (hS:eL d S=S') (ho:op.op=.load t x)
  (bj:H[k]? =some (.own e sz R (.slice p m cp) l)) (hx:de S x=some (.pointer (some ⟨g,j*sz+i,none⟩))) (hj:l[j]? =some y) (hs:QP P t=some st) (ha:eY P t=some ag)
  (hl:∀r,(((cells y r).drop i).take st).length=st) (hv:∀r,ku ag (((cells y r).drop i).take st)=some (v r)) (next:∀r,pure y r->WL P C n Q (facts y r++Φ) H ((d,v r)::S') ops rest):WL P C n Q Φ H S ops (op::rest):=by
 subst hp;exact LR U k j i hg hd hn hS ho bj hx hj hs ha hl hv next
theorem NY {f:FuncId} {name:String} {r:Operand} {xs:Array Operand} {ts:Array TypeId} {t:TypeId} {v recv:Value} {U args:List Value} {op:Oper} (ho:op.op=.call {callee:=.invoke r name,args:=xs,argTypes:=ts})(hr:de S r=some (.iface t v))(hx:vq S xs.toList=some U)
  (jq:cz P f=true) (hm:∀w,(method (P.types.size+Made.depth) t v name).run P w=.ok (f,recv) w) (ha:recv::U=args):∀ac w,fq n S ac->(execOp ac.eval op).run P w=.ok (.enter f args.toArray) w:=by
 intro ac w hf
 have fx:xs.map ac.eval=U.toArray:=by
  have:=hf.evalL hx;have h0:xs=xs.toList.toArray:=ax
  rw[<-this,h0,List.map_toArray]
 subst ha;unfold execOp;simp[ho,resolve,invoke,callMethod,fx,hf.eval hr,hm,W5 jq]
theorem yN {d:Nat} {S':List (Nat×Value)} {op:Oper} {f:FuncId} {name:String} {r:Operand} {xs:Array Operand} {ts:Array TypeId} {t:TypeId} {v recv:Value} {ft args:List Value} {Φf Hf:List Fact} {R:Value->List Fact->List Fact->Prop} (p q:List Nat)(hg:QI ops S op=some true)(hd:op.dst=some d)(hn:Nat.blt d n=true)(hS:eL d S=S')
  (ho:op.op=.call {callee:=.invoke r name,args:=xs,argTypes:=ts}) (hr:de S r=some (.iface t v)) (hx:vq S xs.toList=some ft) (jq:cz P f=true) (hm:∀w,(method (P.types.size+Made.depth) t v name).run P w=.ok (f,recv) w) (ha:recv::ft=args)
  (hH:QO H p=Hf) (spec:QB P f args Φf Hf R) (ec:∀F w,(∀ψ∈Φ,ψ.p F w)->∀φ∈Φf,φ.p F w) (hl:fE (p++q) H.length=true) (hq:QO H q=H')
  (next:∀v U Hr,R v U Hr->WL P C n Q (U++Φ) (Hr++H') ((d,v)::S') ops rest):WL P C n Q Φ H S ops (op::rest):=
 sb p q hg (NY ho hr hx jq hm ha) hH spec ec hl hq λv U Hr hR ac w hf hw=>by rw[hd];exact next v U Hr hR _ w (hf.put (Nat.le_of_ble_eq_true hn) hS) hw
def Ii (gg:Nat->O->List Fact):Prop:=∀a o,∃(α Λ:Type)(ty:Nat)(K:α->Λ->List Value)(Fs:α->Λ->List Fact)(x:α)(l:List Fact),gg a o=pz a ty K Fs x::l
theorem Qj.domP {w:World} (h:Qj C Φ H w)(k:Nat)(hk:H[k]? =some (Q3 gg s))(hr:Ii gg)(y:Nat)(hy:s y≠none):kD w y:=by
 obtain⟨F,N,hi⟩:=h;obtain⟨Ns,h1,h2,h3⟩:mc gg s (N k) F w:=hi.owns k _ hk;cases ho:s y with
 |none=>exact absurd ho hy
 | some o=>
   obtain⟨_,U⟩:=h3 y o ho;obtain⟨α,Λ,ty,K,Fs,x,l,hg⟩:=hr y o;rw[hg]at U;obtain⟨A,B,_,_,⟨_,r,h5,_⟩,_⟩:=U;exact⟨_,_,h5⟩
theorem Qj.domB {w:World} {t:Nat} (h:Qj C Φ H w)(j:Nat)(hj:H[j]? =some (.blk a cs t)):kD w a:=by
 obtain⟨F,N,hi⟩:=h;obtain⟨_,U⟩:(Fact.blk a cs t).op (N j) F w:=hi.owns j _ hj;exact⟨_,_,U⟩
theorem MR {w:World} (h:∀y,del s a y≠none->kD w y)(U:kD w a):∀y,s y≠none->kD w y:=λy hy=>by
 by_cases e:y=a;· rw[e];exact U
 · exact h y (by rw[kW s e];exact hy)
end rules
end
section
open Go Go.RowKit
def qh (l:Nat)(r:Loop):Fact:=.duo (λN _ w=>N l/\w.heap[l]? =some (.loop r)) (λU ha _ _ h=>⟨U _ h.1,(ha l h.1).trans h.2⟩)
def rO (Ds:List Nat):Fact:=.duo (λN _ w=>Ds.Nodup/\∀D∈Ds,N D/\w.heap[D]? =some (.deferred (some []))) (λhN ha _ _ h=>⟨h.1,λD U=>⟨hN _ (h.2 D U).1,(ha D (h.2 D U).1).trans (h.2 D U).2⟩⟩)
abbrev Ke (D:Nat):Deferred:={target:=.collected D,args:=#[]}
def marks (Ds:List Nat):List Deferred:=Ds.map Ke
abbrev fw (r:Option Nat):Fence:={fn:=λ_=>True,depth:=none,alive:=false,round:=r}
def tv (l:List Oper):Bool:=l.all λo=>match o.op with
 | .defer _=>false
 |_=>true
def QN (K:Act->World->Prop):Exit->Act->World->Prop
 | .normal,a,w=>K a w
 |_,_,_=>False
theorem AK (K:Act->World->Prop):¬LetsOut (QN K):=λ⟨_,_,h⟩=>h
section
variable {P:Program}
theorem CM {r:Option Nat} {n:Nat} {f:FuncId} {args:Array Value} {w:World} {R:Ending->World->Prop} (h:Calls P f args w R):CallsIn (fw r) n P f args w R:=by
 have U:CallsIn Fence.wide n P f args w R:=callsIn_wide.2 h;exact⟨trivial,λcs hr=>U.2 cs (λ_ hd=>by cases hd)⟩
theorem GZ {r:Option Nat} {n:Nat} {f:String} {args:Array Value} {w:World} {R:Value->World->Prop} (h:Rows P f args w R):RowsIn (fw r) n P f args w R:=by
 intro c cs hr;obtain⟨v,w',U,hs⟩:=h c cs;exact⟨v,w',U,stepsIn_wide.2 hs⟩
theorem vI {r:Option Nat} {ops:Array Oper} {Q:Exit->Act->World->Prop} {l2:List Oper}:∀(l1:List Oper),tv l1=true->∀a w,wpList P ops (QN λa w=>wpListIn (fw r) 0 P ops Q l2 a w) l1 a w->wpListIn (fw r) 0 P ops Q (l1++l2) a w
 |[],_,a,w,h=>h
 | o ::l1,hp,a,w,h=>by
   simp only[tv,List.all_cons,Bool.and_eq_true]at hp;have U:=vI (r:=r) (Q:=Q) (l2:=l2) (ops:=ops) l1 hp.2;unfold wpList at h;show wpListIn (fw r) 0 P ops Q (o::(l1++l2)) a w;unfold wpListIn;by_cases hw:Region.wanted o (yielded ops a.tmps)=true
   ·rw [if_pos hw]at h⊢;rcases h with h|⟨_,h⟩
    ·refine⟨λ_ _=>trivial,?_⟩
     have hs:Oper.semAt (fw r).round a.eval o=execOp a.eval o:=by
       cases r with
       |none=>rfl
       |some l=>exact Oper.semAt_some l _ _ λc hc=>by have:=hp.1;rw[hc]at this;cases this
     rw[hs];unfold Oper.wp at h;generalize (execOp a.eval o).run P w=res at h⊢;cases res with
     | ok x w'=>
       cases x with
       |value v=>exact U _ _ h
       |skip=>exact U _ _ h
       |defer d=>exact U _ _ h
       | enter f args=>
         refine⟨λh=>(by cases h),CM (Calls.mono h ?_)⟩;intro e w'' he;cases e with
         |returned v=>exact U _ _ he
         |panicked ch=>exact he.elim
         |outgrown=>exact(AK _ he).elim
       |row f args=>exact⟨λh=>(by cases h),GZ (Rows.mono h λv w'' he=>U _ _ he)⟩
       |_=>exact h.elim
     |halt x w'=>cases x<;>exact h.elim
    · exact(AK _ h).elim
   ·rw[if_neg hw]at h⊢;exact⟨λ_ _=>trivial,U _ _ h⟩
end
section ln
variable (P:Program) (r:Option Nat) (C:Ctx) (n:FD) (Q:Exit->Act->World->Prop) (Φ:List Fact) (H:List Fact) (S:List (Nat×Value))
def Wg (ops:Array Oper)(rest:List Oper):Prop:=∀a w,fq n S a->Qj C Φ H w->wpListIn (fw r) 0 P ops Q rest a w
def Y7 (c:Code):Prop:=∀a w,fq n S a->Qj C Φ H w->c.wpIn (fw r) 0 P Q a w
end ln
section
variable {P:Program} {r:Option Nat} {C:Ctx} {n:FD} {Q:Exit->Act->World->Prop} {Φ Φ':List Fact} {H H':List Fact} {S S':List (Nat×Value)} {ops:Array Oper} {rest:List Oper} {o:Oper} {d:Nat} {c x y:Code}
theorem Pq (U:List Oper) {l2:List Oper} (hl:rest=U++l2)(hp:tv U=true)(h:WL P C n (QN λa w=>wpListIn (fw r) 0 P ops Q l2 a w) Φ H S ops U):Wg P r C n Q Φ H S ops rest:=by
 subst hl;exactλa w hf hw=>vI U hp a w (h a w hf hw)
theorem Ro {l2:List Oper} (h:Wg P r C n Q Φ H S ops l2):WE C n (QN λa w=>wpListIn (fw r) 0 P ops Q l2 a w) Φ H S .normal:=h
theorem ph (h:WE C n Q Φ H S .normal):WE C n (QN λa w=>wpListIn (fw r) 0 P ops Q [] a w) Φ H S .normal:=h
theorem Qb2 {id:Nat} {l:List Oper} (h:Wg P r C n Q Φ H S l.toArray l):Y7 P r C n Q Φ H S (.region id l.toArray false):=λa w U hw=>wpIn_region_lit (h a w U hw)
theorem wu {id:Nat} (h:Y7 P r C n (Exit.inBlock id Q) Φ H S c):Y7 P r C n Q Φ H S (.block id c):=λa w U hw=>wpIn_block (h a w U hw)
theorem u6 {id:Nat} {l:List Oper} (h:Wg P none C n Q Φ H S l.toArray l):WC P C n Q Φ H S (.region id l.toArray false):=λa w U hw=>wpIn_wide.1 (wpIn_region_lit (n:=0) (F:=fw none) (h a w U hw))
def xg (P:Program)(l:Nat)(fn:FuncId)(tmps:Array Value)(assign body:Code)(Φ U:List Fact)(R:Value->List Fact->List Fact->Prop):Prop:=
 ∀ (F:eh) (N:Nat->eh) (w:World),(∀k,F k->k<w.heap.size)->(∀φ∈Φ,φ.p F w)->(∀(i:Nat) (h:Fact),U[i]? =some h->h.op (N i) F w)->
   (∀i k,i<U.length->N i k->k<w.heap.size/\¬F k)->(∀i j k,i<U.length->j<U.length->i≠j->N i k->¬N j k)->
   RoundIn (fw none) 0 P l fn tmps assign body w (rR ⟨w,λk=>∃i,i<U.length/\N i k,F⟩ R)
theorem ly:∀(l:List Nat) {m:List Nat} {k:Nat},fE (l++m) k=true->fE l k=true
 |[],_,_,_=>rfl
 | i::l,m,k,h=>by
   simp only[List.cons_append,fE,Bool.and_eq_true,Bool.not_eq_true',List.any_append,Bool.or_eq_false_iff]at h⊢;exact⟨⟨h.1.1,h.1.2.1⟩,ly l h.2⟩
theorem F7 {N:eh} {w:World} {b:Nat} (o:Obj)(U:N b):Mod N w (w.putObj b o):=
 ⟨rfl,rfl,rfl,by simp[World.putObj],λk hk hn=>World.putObj_heap_other (λe=>hn (by rw[e];exact U) |>.elim)⟩
theorem Qj.loopAt {w:World} (h:Qj C Φ H w)(k l:Nat) {rc:Loop} (hk:H[k]? =some (qh l rc)):w.heap[l]? =some (.loop rc):=by
 obtain⟨F,N,hi⟩:=h;exact(hi.owns k _ hk).2
theorem Qj.loopPut {w:World} (h:Qj C Φ H w)(k l:Nat) {rc:Loop} (U:Loop)(hk:H[k]? =some (qh l rc)):Qj C Φ (H.set k (qh l U)) (w.putObj l (.loop U)):=by
 obtain⟨F,N,hi⟩:=h;obtain⟨h1,h2⟩:=hi.owns k _ hk;exact⟨F,N,hi.set k (List.getElem?_eq_some_iff.1 hk).1 (F7 _ h1) _ ⟨h1,World.putObj_heap_same (Array.getElem?_eq_some_iff.1 h2).1⟩⟩
theorem Qj.newObj {w:World} (h:Qj C Φ H w)(o:Obj)(φ:Fact)(U:∀F,φ.op (λk=>k=w.heap.size) F (w.alloc o)):Qj C Φ (φ::H) (w.alloc o):=by
 obtain⟨F,N,hi⟩:=h;have hb:Below w.heap.size w (w.alloc o):=(Below.refl _ _).alloc (Nat.le_refl _) _;refine⟨F,si (λk=>k=w.heap.size) N,(hi.grow hb).push _ _ (U F) ?_ ?_⟩
 ·rintro k rfl;exact⟨ax,.inl hi.mod.size,λhf=>Nat.lt_irrefl _ (hi.flt _ hf)⟩
 ·rintro i k hl rfl hn;exact Nat.lt_irrefl _ (hi.nlt i _ hl hn).1
theorem wy {l:Nat} {rc:Loop} {t:Operand} {xs:Array Operand} {ts:Array TypeId} {vs:List Value} {Φf Hf:List Fact} {R:Value->List Fact->List Fact->Prop} (p q:List Nat)(hg:QI ops S o=some true)(hd:o.dst=some d)(hn:Nat.blt d n=true)(hS:eL d S=S')
  (ho:o.op=.call {callee:=.value t,args:=xs,argTypes:=ts}) (ht:de S t=some (.func (.yield l) #[] #[])) (hx:vq S xs.toList=some vs) (hH:QO H p=qh l rc::Hf) (NQ:vs.length=rc.params.size)
  (spec:xg P l rc.fn ((rc.params.zip vs.toArray).foldl (λtmps (t,a)=>tmps.setIfInBounds t a) rc.tmps) rc.assign rc.body Φf (qh l rc::Hf) R) (ec:∀F w,(∀ψ∈Φ,ψ.p F w)->∀φ∈Φf,φ.p F w) (hl:fE (p++q) H.length=true) (hm:QO H q=H')
  (next:∀v U Hr,R v U Hr->Wg P none C n Q (U++Φ) (Hr++H') ((d,v)::S') ops rest):Wg P none C n Q Φ H S ops (o::rest):=by
 subst hm;intro a w hf ⟨F,N,hi⟩;have hp:=hi.pick p (ly p hl);rw[hH]at hp;have qX:w.heap[l]? =some (.loop rc):=(hp.owns 0 _ rfl).2;have U7:=spec F _ w hi.flt (λφ bj=>ec F w hi.facts φ bj) hp.owns (λi k ib hk=>⟨(hp.nlt i k ib hk).1,(hp.nlt i k ib hk).2.2⟩) hp.apart;unfold wpListIn;rw[Hn hf hg,if_pos rfl]
 have fx:xs.map a.eval=vs.toArray:=by
  have:=hf.evalL hx;have h0:xs=xs.toList.toArray:=ax
  rw[<-this,h0,List.map_toArray]
 have HJ:a.eval t=.func (.yield l) #[] #[]:=hf.eval ht
 have eR:((o.semAt (fw none).round a.eval).run P w)=.ok (.round l rc.fn ((rc.params.zip vs.toArray).foldl (λtmps (t,a)=>tmps.setIfInBounds t a) rc.tmps) rc.assign rc.body) w:=by
  have h2:(resolve a.eval {callee:=.value t,args:=xs,argTypes:=ts} o.type).run P w=.ok {target:=.fn (.yield l) #[],args:=vs.toArray} w:=by
   simp[resolve,HJ,Deferred.ofValue,fx]
  show(execOp a.eval o).run P w=_;unfold execOp;simp only[ho,Sem.run_bind,h2,Result.andThen_ok];have:=run_yield (P:=P) (args:=vs.toArray) qX (cv NQ);simp[invoke,go_sem,this]
 refine⟨λ_ _=>trivial,?_⟩;rw[eR,Oper.uponIn_round];refine⟨λh=>(by cases h),U7.mono ?_⟩;rintro e w' ⟨v,U,Hr,rfl,hR,hh⟩;rw[hd];have Z1:Qj ⟨w,λk=>∃i,i<(QO H p).length/\N (p.getD i 0) k,F⟩ U Hr w':=by rw[hH];exact hh
 exact next v U Hr hR _ _ (hf.put (Nat.le_of_ble_eq_true hn) hS) (hi.after hl Z1)
theorem B3 {l k:Nat} {fn:FuncId} {tmps:Array Value} {assign body:Code} {Φ U:List Fact} {R:Value->List Fact->List Fact->Prop} (hf:fq ⟨k,[]⟩ S {tmps:=tmps,defers:=[]})
  (h:∀C,Y7 P (some l) C ⟨k,[]⟩ (Exit.then (λuE uU=>∃E8,(Instr.beginRound l).run P uU=.ok () E8/\body.wpIn (fw (some l)) 0 P (roundPost P l (rR C R)) uE E8) (λ_ _ _=>False)) Φ U S assign):
  xg P l fn tmps assign body Φ U R:=by
 intro F N w hF ec hH bq sQ;exact roundIn_of_wpIn (F:=fw none) trivial (h ⟨w,λk=>∃i,i<U.length/\N i k,F⟩ _ w hf ⟨F,N,hF,λ_ h=>h,λ_ h=>.inl h,ec,hH,λi k hi hk=>⟨(bq i k hi hk).1,.inr ⟨i,hi,hk⟩,(bq i k hi hk).2⟩,sQ,Mod.refl _ _⟩)
theorem Jq {k:Nat} {D:List Deferred} {a:Act} {t:Tmp} {v:Value} (hf:fq ⟨k,D⟩ S a)(ht:Nat.blt t k=true)(U:eL t S=S'):
  fq ⟨k,[]⟩ ((t,v)::S') {tmps:=((#[t]:Array Tmp).zip #[v]).foldl (λtmps (t,a)=>tmps.setIfInBounds t a) a.tmps,defers:=[]}:=by
 have h:=hf.put (d:=t) (v:=v) (Nat.le_of_ble_eq_true ht) U;have e:((#[t]:Array Tmp).zip #[v]).foldl (λtmps (t,a)=>tmps.setIfInBounds t a) a.tmps=(a.put (some t) v).tmps:=by simp[Act.put]
 rw[e];exact⟨h.size,rfl,h.at_⟩
theorem Jr {k:Nat} {D:List Deferred} {a:Act} {t u:Tmp} {v x:Value} {S2:List (Nat×Value)} (hf:fq ⟨k,D⟩ S a)(ht:Nat.blt t k=true)(hu:Nat.blt u k=true)(hS:eL t S=S')(U:eL u ((t,v)::S')=S2):
  fq ⟨k,[]⟩ ((u,x)::S2) {tmps:=((#[t,u]:Array Tmp).zip #[v,x]).foldl (λtmps (t,a)=>tmps.setIfInBounds t a) a.tmps,defers:=[]}:=by
 have h:=(hf.put (d:=t) (v:=v) (Nat.le_of_ble_eq_true ht) hS).put (d:=u) (v:=x) (Nat.le_of_ble_eq_true hu) U;have e:((#[t,u]:Array Tmp).zip #[v,x]).foldl (λtmps (t,a)=>tmps.setIfInBounds t a) a.tmps=((a.put (some t) v).put (some u) x).tmps:=by simp[Act.put]
 rw[e];exact⟨h.size,rfl,h.at_⟩
theorem BC {l:Nat} {rc:Loop} {body:Code} {R:Ending->World->Prop} (k:Nat)(hk:H[k]? =some (qh l rc))(hr:rc.state=.ready)(hE:H.set k (qh l {rc with state:=.busy})=H')
  (h:Y7 P (some l) C n (roundPost P l R) Φ H' S body):WE C n (Exit.then (λuE uU=>∃U,(Instr.beginRound l).run P uU=.ok () U/\body.wpIn (fw (some l)) 0 P (roundPost P l R) uE U) (λ_ _ _=>False)) Φ H S .normal:=by
 subst hE;exactλa w hf hw=>⟨_,run_beginRound (hw.loopAt k l hk) hr,h a _ hf (hw.loopPut k l _ hk)⟩
theorem pZ {l:Nat} {rc:Loop} {R:Value->List Fact->List Fact->Prop} (k:Nat)(hk:H[k]? =some (qh l rc))(U:H.set k (qh l {rc with state:=.ready,pending:=none})=H')
  (hR:R (.bool true) Φ H'):WE C n (roundPost P l (rR C R)) Φ H S .normal:=by
 subst U;exactλa w hf hw=>⟨_,_,run_endRound none (hw.loopAt k l hk),_,_,_,rfl,hR,hw.loopPut k l _ hk⟩
theorem BB {g:Operand} {ps:Array Tmp} {assign body:Code} {gf:FuncId} {lb:List Value} {Φf Hf:List Fact} {R:List Fact->List Fact->Prop} (p q:List Nat)(hg:de S g=some (.func (.func gf) #[] lb.toArray))(jq:cz P gf=true)
  (hH:∀φ1 φ2,QO (φ1::φ2::H) p=φ1::Hf) (ec:∀F w,(∀ψ∈Φ,ψ.p F w)->∀φ∈Φf,φ.p F w) (hl:fE (p++q) (H.length+2)=true) (hq:∀φ1 φ2,QO (φ1::φ2::H) q=φ2::H')
  (spec:∀fn l D a,fq n S a->QB P gf (.func (.yield l) #[] #[]::lb) Φf (qh l {state:=.ready,pending:=none,fn:=fn,tmps:=a.tmps,params:=ps,assign:=assign,body:=body,defers:=D}::Hf) (λ_ bo Hr=>∃rr U,rr.state≠.busy/\rr.pending=none/\Hr=qh l rr::U/\R bo U))
  (next:∀D bo U,R bo U->WE C ⟨n.k,Ke D::n.D⟩ Q (bo++Φ) (U++rO [D]::H') S .normal):WC P C n Q Φ H S (.rangeFunc g ps assign body):=by
 intro a w hf hw;refine(wpIn_wide (n:=0)).1 (wpIn_rangeFunc λfn _=>?_)
 have h1:Qj C Φ (rO [w.heap.size]::H) (w.alloc (.deferred (some []))):=hw.newObj _ _ λF=>⟨ax,λD hD=>by
  rw[List.mem_singleton.1 hD];exact⟨rfl,World.alloc_heap_new _ _⟩⟩
 obtain⟨rec,NR⟩:∃rec:Loop,rec={state:=.ready,pending:=none,fn:=fn,tmps:=a.tmps,params:=ps,assign:=assign,body:=body,defers:=w.heap.size}:=⟨_,rfl⟩
 have h2:Qj C Φ (qh (w.heap.size+1) rec::rO [w.heap.size]::H) ((w.alloc (.deferred (some []))).alloc (.loop rec)):=by
  have e:(w.alloc (.deferred (some []))).heap.size=w.heap.size+1:=World.size_alloc _ _;exact h1.newObj _ (qh (w.heap.size+1) rec) λF=>⟨e.symm,by have:=World.alloc_heap_new (w.alloc (.deferred (some []))) (.loop rec);rwa [e]at this⟩
 rw[NR]at h2;generalize hW2:((w.alloc (.deferred (some []))).alloc (.loop {state:=.ready,pending:=none,fn:=fn,tmps:=a.tmps,params:=ps,assign:=assign,body:=body,defers:=w.heap.size}))=W2 at h2;rw[<-NR]at h2;refine⟨w.heap.size+1,[Ke w.heap.size],W2,{target:=.fn (.func gf) lb.toArray,args:=#[.func (.yield (w.heap.size+1)) #[] #[]]},W2,gf,#[.func (.yield (w.heap.size+1)) #[] #[]]++lb.toArray,W2,by rw[<-hW2];exact run_enterLoop_outer _ _ _ _ _,?_,λ_ _=>trivial,?_,λh=>(by cases h),?_⟩
 ·simp only[resolve,hf.eval hg];simp[go_sem]
 · simp[invoke,go_sem,W5 jq]
 ·obtain ⟨F,N,hi⟩:=h2;have hp:=hi.pick p (ly p hl);rw[hH]at hp;have hc:=spec fn (w.heap.size+1) w.heap.size a hf F _ _ hi.flt (λφ bj=>ec F _ hi.facts φ bj) (by rw[<-NR];exact hp.owns) (λi k ib hk=>⟨(hp.nlt i k ib hk).1,(hp.nlt i k ib hk).2.2⟩) (by exact hp.apart);rw[<-NR]at hc;have e0:(.func (.yield (w.heap.size+1)) #[] #[]::lb).toArray=#[Value.func (.yield (w.heap.size+1)) #[] #[]]++lb.toArray:=ax
  rw[e0]at hc;refine callsIn_wide.2 (hc.mono ?_);rintro e w' ⟨v,bo,Hr,rfl,⟨rr,U,hr1,hr2,rfl,hR⟩,hh⟩
  have Z1:Qj ⟨W2,λk=>∃i,i<(QO (qh (w.heap.size+1) rec::rO [w.heap.size]::H) p).length/\N (p.getD i 0) k,F⟩ bo (qh (w.heap.size+1) rr::U) w':=by
   rw[hH];exact hh
  have h3:=hi.after (m:=q) hl Z1;rw[hq]at h3;have hl3:=h3.loopAt 0 _ rfl;refine⟨none,_,(by have:=run_endLoop (P:=P) hl3 hr1;rwa [hr2]at this),?_⟩;have h4:=h3.loopPut 0 _ {rr with state:=.exhausted} rfl;rw[hr2]at h4;have h5:Qj C (bo++Φ) (U++rO [w.heap.size]::H') _:=h4.drop 0 ax rfl;exact next w.heap.size bo U hR _ _ ⟨hf.size,by simp[hf.defers],hf.at_⟩ h5
theorem Qj.dfrs {w:World} {Ds Es:List Nat} (h:Qj C Φ H w)(k j:Nat)(db:Nat.beq k j=false)(hk:H[k]? =some (rO Ds))(hj:H[j]? =some (rO Es)):Qj C Φ ((H.set k (rO (Es++Ds))).eraseIdx j) w:=
 h.join (φ:=rO (Es++Ds)) k j (Nat.ne_of_beq_eq_false db) hk hj λA B F U hb hd=>⟨List.nodup_append.2 ⟨hb.1,U.1,λx hx y hy e=>by subst e;exact hd x (U.2 x hy).1 (hb.2 x hx).1⟩,λD hD=>by
  rcases List.mem_append.1 hD with h|h;· exact⟨.inr (hb.2 D h).1,(hb.2 D h).2⟩
  · exact⟨.inl (U.2 D h).1,(U.2 D h).2⟩⟩
theorem FJ {Ds Es:List Nat} {e:Exit} (k j:Nat)(U:Nat.beq k j=false)(hk:H[k]? =some (rO Ds))(hj:H[j]? =some (rO Es))(hH:(H.set k (rO (Es++Ds))).eraseIdx j=H')(h:WE C n Q Φ H' S e):WE C n Q Φ H S e:=by
 subst hH;exactλa w hf hw=>h a w hf (hw.dfrs k j U hk hj)
theorem B8 {f:FuncId} {fn:Func} {body:Code} {n:Nat} {args:List Value} {S:List (Nat×Value)} {Φ U:List Fact} {R:Value->List Fact->List Fact->Prop}
  (hf:P.funcs[f]? =some fn) (hb:fn.body=some body) (hn:fn.ntmps=n) (hle:Nat.ble args.length n=true) (hS:BM 0 args=S) (h:∀C,WC P C ⟨n,marks []⟩ (bodyPostM Fence.wide 0 P fn (rR C R)) Φ (rO []::U) S body):QB P f args Φ U R:=by
 intro F N w hF ec hH bq sQ;refine callsIn_wide.1 (callsIn_of_wp_marks (n:=0) hf hb trivial ((wpIn_wide (n:=0)).2 (h ⟨w,λk=>∃i,i<U.length/\N i k,F⟩ _ w ⟨?_,rfl,?_⟩ ?_)))
 ·have:=Nat.le_of_ble_eq_true hle;simp[hn];try omega
 ·intro x hx;rw[<-hS]at hx;obtain⟨_,h2⟩:=uc hx;rw[Nat.sub_zero]at h2;have hl:=(List.getElem?_eq_some_iff.1 h2).1;rw[Array.getElem?_append_left (cv hl)];simpa using h2
 ·have h0:fP ⟨w,λk=>∃i,i<U.length/\N i k,F⟩ Φ U F N w:=⟨hF,λ_ h=>h,λ_ h=>.inl h,ec,hH,λi k hi hk=>⟨(bq i k hi hk).1,.inr ⟨i,hi,hk⟩,(bq i k hi hk).2⟩,sQ,Mod.refl _ _⟩
  exact⟨F,_,h0.push (rO []) (λ_=>False) ⟨List.nodup_nil,λD h=>by cases h⟩ (λk h=>h.elim) (λi k _ h=>h.elim)⟩
theorem mT {fn:Func} {tmps:Array Value} {R:Ending->World->Prop} {v:Value} (hr:∀w,(results fn tmps).run P w=.ok v w):∀(Ds:List Nat)(w:World),Qj C Φ (rO Ds::H) w->(∀w',Qj C Φ H w'->R (.returned v) w')->LeavesInM Fence.wide 0 P fn tmps R (marks Ds) .returning w
 |[],w,h,hR=>⟨v,hr w,hR w (h.drop 0 ax rfl)⟩
 | D::Ds,w,⟨F,N,hi⟩,hR=>by
   have U:=hi.owns 0 _ rfl;have hD:=U.2 D ax;have Gy:=List.nodup_cons.1 U.1;refine⟨ax,.inl ⟨D,_,rfl,run_takeDeferred hD.2,mT hr Ds _ ⟨F,N,hi.set 0 ax (F7 _ hD.1) (rO Ds) ⟨Gy.2,λE hE=>⟨(U.2 E (by simp[hE])).1,?_⟩⟩⟩ hR⟩⟩;exact(World.putObj_heap_other (λe=>Gy.1 (by rw[<-e];exact hE))).trans (U.2 E (by simp[hE])).2
theorem BE {fn:Func} {Ds:List Nat} {v:Value} {R:Value->List Fact->List Fact->Prop} {e:Exit} (he:e=.normal\/e=.ret)(hn:n.D=marks Ds)(hk:H=rO Ds::H')(hr:∀a w,fq n S a->(results fn a.tmps).run P w=.ok v w)(hR:R v Φ H'):
  WE C n (bodyPostM Fence.wide 0 P fn (rR C R)) Φ H S e:=by
 subst hk;intro a w U hw
 have:LeavesInM Fence.wide 0 P fn a.tmps (rR C R) a.defers .returning w:=by
  rw[U.defers,hn];exact mT (λw=>hr a w U) Ds w hw λw' h=>⟨_,_,_,rfl,hR,h⟩
 rcases he with rfl|rfl;· exact this
 · exact this
theorem results_tmp {fn:Func} {t:Nat} {v:Value} (h:fn.results=#[.tmp t])(hv:look S t=some v):∀a w,fq n S a->(results fn a.tmps).run P w=.ok v w:=λa w U=>by
 have:=U.at_ _ (LU hv);simp only at this;simp[results,h,this,go_sem]
theorem AY {fn:Func} (h:fn.results=#[]):∀a w,fq n S a->(results fn a.tmps).run P w=.ok (.tuple #[]) w:=λa w _=>by simp[results,h,go_sem]
theorem Lu {σ:Type} (ok:σ->Prop)(μ:σ->Nat)(Ut:σ->FD)(qj:σ->List (Nat×Value))(gy qa:σ->List Fact)(U:σ)(h0:ok U)(hn:n=Ut U)(l:List Nat)(hS:gD l S=qj U)(ec:∀F w,(∀ψ∈Φ,ψ.p F w)->∀φ∈gy U,φ.p F w)(hH:H=qa U)
  (round:∀s,ok s->WC P C (Ut s) (Exit.then (λa' w'=>∃s',μ s'<μ s/\og ok qj gy qa C (Ut s') s' a' w') Q) (gy s) (qa s) (qj s) c):WC P C n Q Φ H S (.loop c):=by
 subst hn;intro a w hf hw;refine tf (λm a w=>∃s,μ s=m/\og ok qj gy qa C (Ut s) s a w) ?_ (μ U) a w ⟨U,rfl,Bc U h0 l hS ec hH hf hw⟩;rintro m a w ⟨s,rfl,cn,hf,hw⟩;refine wp_mono (round s cn a w hf hw) λe a' w' hq=>?_
 cases e with
 |normal=>obtain⟨s',h1,h2⟩:=hq;exact⟨_,h1,s',rfl,h2⟩
 |_=>exact hq
theorem Hd {σ:Type} {ok:σ->Prop} {Ut:σ->FD} {qj:σ->List (Nat×Value)} {gy qa:σ->List Fact} {μ:σ->Nat} {k:Nat} (s':σ)(U:μ s'<k)(h0:ok s')(hn:n=Ut s')(l:List Nat)(hS:gD l S=qj s')(ec:∀F w,(∀ψ∈Φ,ψ.p F w)->∀φ∈gy s',φ.p F w)(hH:H=qa s'):
  WE C n (Exit.then (λa' w'=>∃s',μ s'<k/\og ok qj gy qa C (Ut s') s' a' w') Q) Φ H S .normal:=by
 subst hn;exactλa w hf hw=>⟨s',U,Bc s' h0 l hS ec hH hf hw⟩
end
end
section
open Tryz
open Go.RowKit
theorem hX:QP prog 2=some 1:=au
theorem hU:eY prog 2=some false:=au
theorem dt:QP prog 3=some 1:=au
theorem dX:eY prog 3=some false:=au
theorem a0m:gW prog 3=some (.int .i64 0):=au
theorem a0h:gO prog 3=some (.int .i64 0,1,8):=au
theorem qs:QP prog 4=some 1:=au
theorem UK:eY prog 4=some false:=au
theorem a0n:gW prog 4=some (.bool false):=au
theorem UX:gO prog 4=some (.bool false,1,1):=au
theorem lO:QP prog 9=some 1:=au
theorem lL:eY prog 9=some false:=au
theorem pX:QP prog 22=some 1:=au
theorem pS:eY prog 22=some false:=au
theorem iG:fR prog 22=some 78:=au
theorem FA:QP prog 23=some 1:=au
theorem Fm:eY prog 23=some false:=au
theorem pU:fR prog 23=some 73:=au
theorem FB:QP prog 25=some 2:=au
theorem KY:eY prog 25=some true:=au
theorem Rl:gW prog 25=some (.agg #[.slice none 0 0,.slice none 0 0]):=au
theorem a0d:qe prog 25=some [(0,1),(1,1)]:=au
theorem jU:QR prog 25 0=some 0:=au
theorem rl:QR prog 25 1=some 1:=au
theorem Le:QP prog 31=some 1:=au
theorem KZ:eY prog 31=some false:=au
theorem yS:QP prog 38=some 1:=au
theorem zl:eY prog 38=some false:=au
theorem qi:fR prog 38=some 63:=au
theorem pB:QP prog 40=some 3:=au
theorem C6:eY prog 40=some true:=au
theorem zm:gW prog 40=some (.agg #[.int .i64 0,.int .i64 0,.slice none 0 0]):=au
theorem Ri:gO prog 40=some (.agg #[.int .i64 0,.int .i64 0,.slice none 0 0],3,40):=au
theorem Rf:qe prog 40=some [(0,1),(1,1),(2,1)]:=au
theorem MU:QR prog 40 0=some 0:=au
theorem nz:QR prog 40 1=some 1:=au
theorem Sc:QR prog 40 2=some 2:=au
theorem wh:fR prog 50=some 40:=au
theorem j0:fR prog 51=some 101:=au
theorem wi:QP prog 58=some 1:=au
theorem wg:eY prog 58=some false:=au
theorem j1:QP prog 59=some 1:=au
theorem kN:eY prog 59=some false:=au
theorem x4:fR prog 59=some 76:=au
theorem Lf:QP prog 60=some 1:=au
theorem L2:eY prog 60=some false:=au
theorem FC:QP prog 61=some 1:=au
theorem Fo:eY prog 61=some false:=au
theorem QT:QP prog 63=some 3:=au
theorem gx:eY prog 63=some true:=au
theorem jJ:gW prog 63=some (.agg #[.int .u8 0,.int .i64 0,.string ⟨#[]⟩]):=au
theorem Fz:gO prog 63=some (.agg #[.int .u8 0,.int .i64 0,.string ⟨#[]⟩],3,32):=au
theorem CE:qe prog 63=some [(0,1),(1,1),(2,1)]:=au
theorem rm:QR prog 63 0=some 0:=au
theorem uv:QR prog 63 1=some 1:=au
theorem yu:QR prog 63 2=some 2:=au
theorem nF:QP prog 64=some 1:=au
theorem nm:eY prog 64=some false:=au
theorem qO:QP prog 65=some 1:=au
theorem rQ:eY prog 65=some false:=au
theorem od:fR prog 65=some 67:=au
theorem jI:QP prog 67=some 7:=au
theorem vc:eY prog 67=some true:=au
theorem Lm:gW prog 67=some (.agg #[.int .u8 0,.int .u8 0,.int .i64 0,.string ⟨#[]⟩,.int .i64 0,.int .u8 0,.slice none 0 0]):=au
theorem a0i:gO prog 67=some (.agg #[.int .u8 0,.int .u8 0,.int .i64 0,.string ⟨#[]⟩,.int .i64 0,.int .u8 0,.slice none 0 0],7,80):=au
theorem yv:QR prog 67 0=some 0:=au
theorem yw:QR prog 67 1=some 1:=au
theorem Pl:QR prog 67 2=some 4:=au
theorem MV:QR prog 67 3=some 5:=au
theorem Hu:QR prog 67 4=some 6:=au
theorem vd:QP prog 69=some 10:=au
theorem iZ:eY prog 69=some true:=au
theorem pY:gW prog 69=some (.agg #[.int .u8 0,.int .i64 0,.slice none 0 0,.int .u8 0,.int .u8 0,.int .i64 0,.string ⟨#[]⟩,.int .i64 0,.int .u8 0,.slice none 0 0]):=au
theorem a0j:gO prog 69=some (.agg #[.int .u8 0,.int .i64 0,.slice none 0 0,.int .u8 0,.int .u8 0,.int .i64 0,.string ⟨#[]⟩,.int .i64 0,.int .u8 0,.slice none 0 0],10,120):=au
theorem Rg:qe prog 69=some [(0,1),(1,1),(2,1),(3,7)]:=au
theorem jV:QR prog 69 0=some 0:=au
theorem rp:QR prog 69 1=some 1:=au
theorem Pm:QR prog 69 2=some 2:=au
theorem jW:QR prog 69 3=some 3:=au
theorem Bo:QP prog 70=some 1:=au
theorem Fp:eY prog 70=some false:=au
theorem pV:fR prog 70=some 69:=au
theorem Rk:QP prog 71=some 1:=au
theorem Rc:eY prog 71=some false:=au
theorem L5:fR prog 71=some 105:=au
theorem j2:QP prog 73=some 5:=au
theorem Be:eY prog 73=some true:=au
theorem Bs:gW prog 73=some (.agg #[.string ⟨#[]⟩,.int .i64 0,.int .i64 0,.slice none 0 0,.slice none 0 0]):=au
theorem a0e:qe prog 73=some [(0,1),(1,1),(2,1),(3,1),(4,1)]:=au
theorem rq:QR prog 73 0=some 0:=au
theorem Fu:QR prog 73 1=some 1:=au
theorem ru:QR prog 73 2=some 2:=au
theorem nA:QR prog 73 3=some 3:=au
theorem Fv:QR prog 73 4=some 4:=au
theorem Bp:QP prog 74=some 1:=au
theorem Bf:eY prog 74=some false:=au
theorem ui:QP prog 76=some 5:=au
theorem pT:eY prog 76=some true:=au
theorem jF:gW prog 76=some (.agg #[.int .u8 0,.int .i64 0,.int .u8 0,.int .i64 0,.string ⟨#[]⟩]):=au
theorem Rj:gO prog 76=some (.agg #[.int .u8 0,.int .i64 0,.int .u8 0,.int .i64 0,.string ⟨#[]⟩],5,48):=au
theorem L8:qe prog 76=some [(0,1),(1,1),(2,3)]:=au
theorem nB:QR prog 76 0=some 0:=au
theorem BU:QR prog 76 1=some 1:=au
theorem nC:QR prog 76 2=some 2:=au
theorem nG:QP prog 78=some 2:=au
theorem Re:eY prog 78=some true:=au
theorem Bt:gW prog 78=some (.agg #[.string ⟨#[]⟩,.int .i64 0]):=au
theorem a0k:gO prog 78=some (.agg #[.string ⟨#[]⟩,.int .i64 0],2,24):=au
theorem Rh:qe prog 78=some [(0,1),(1,1)]:=au
theorem jX:QR prog 78 0=some 0:=au
theorem Sd:QR prog 78 1=some 1:=au
theorem Bq:QP prog 81=some 1:=au
theorem Fq:eY prog 81=some false:=au
theorem pW:fR prog 81=some 108:=au
theorem Br:QP prog 82=some 1:=au
theorem Bg:eY prog 82=some false:=au
theorem jD:QP prog 83=some 1:=au
theorem jB:eY prog 83=some false:=au
theorem a0o:gW prog 85=some (.agg #[.slice none 0 0,.slice none 0 0,.map none,.map none,.int .i64 0]):=au
theorem a0f:qe prog 85=some [(0,1),(1,1),(2,1),(3,1),(4,1)]:=au
theorem Fw:QR prog 85 0=some 0:=au
theorem nD:QR prog 85 1=some 1:=au
theorem nE:QR prog 85 2=some 2:=au
theorem jY:QR prog 85 3=some 3:=au
theorem Se:QR prog 85 4=some 4:=au
theorem wj:QP prog 88=some 1:=au
theorem Bh:eY prog 88=some false:=au
theorem a0l:QP prog 96=some 2:=au
theorem a0p:gW prog 96=some (.agg #[.int .i64 0,.int .i64 0]):=au
theorem FE:QP prog 99=some 1:=au
theorem Ft:eY prog 99=some false:=au
theorem En:fR prog 99=some 3:=au
theorem DT:QP prog 101=some 2:=au
theorem Lh:gW prog 101=some (.agg #[.int .i64 0,.slice none 0 0]):=au
theorem Lc:gO prog 101=some (.agg #[.int .i64 0,.slice none 0 0],2,32):=au
theorem UL:qe prog 101=some [(0,1),(1,1)]:=au
theorem np:QR prog 101 1=some 1:=au
theorem Ld:QP prog 103=some 1:=au
theorem KW:eY prog 103=some false:=au
theorem DU:QP prog 105=some 4:=au
theorem KX:eY prog 105=some true:=au
theorem Bi:QR prog 105 0=some 0:=au
theorem S3:QR prog 105 1=some 1:=au
theorem W8:QR prog 105 2=some 2:=au
theorem Pe:QR prog 105 3=some 3:=au
theorem zk:QP prog 108=some 1:=au
theorem G2:eY prog 108=some false:=au
theorem Li:gW prog 108=some (.pointer none):=au
theorem UW:gO prog 108=some (.pointer none,1,8):=au
theorem C1:QP prog 109=some 1:=au
theorem BZ:eY prog 109=some false:=au
theorem HE:QP prog 110=some 1:=au
theorem MW:eY prog 110=some false:=au
theorem HD:fR prog 110=some 213:=au
theorem V0:gW prog 112=some (.agg #[.pointer none,.slice none 0 0,.map none]):=au
theorem UM:qe prog 112=some [(0,1),(1,1),(2,1)]:=au
theorem tP:QR prog 112 0=some 0:=au
theorem LV:QR prog 112 1=some 1:=au
theorem tQ:QR prog 112 2=some 2:=au
theorem yz:QP prog 115=some 13:=au
theorem DQ:eY prog 115=some true:=au
theorem Lj:gW prog 115=some (.agg #[.pointer none,.int .i64 0,.int .u8 0,.int .i64 0,.slice none 0 0,.int .u8 0,.int .u8 0,.int .i64 0,.string ⟨#[]⟩,.int .i64 0,.int .u8 0,.slice none 0 0,.map none]):=au
theorem UN:qe prog 115=some [(0,1),(1,1),(2,10),(12,1)]:=au
theorem I7:QR prog 115 0=some 0:=au
theorem tR:QR prog 115 1=some 1:=au
theorem nq:QR prog 115 2=some 2:=au
theorem MN:QR prog 115 3=some 12:=au
theorem yA:QP prog 117=some 1:=au
theorem yr:eY prog 117=some false:=au
theorem Lk:gW prog 117=some (.pointer none):=au
theorem V2:gW prog 120=some (.agg #[.pointer none,.pointer none,.int .i64 0,.int .u8 0,.int .i64 0,.slice none 0 0,.int .u8 0,.int .u8 0,.int .i64 0,.string ⟨#[]⟩,.int .i64 0,.int .u8 0,.slice none 0 0,.map none]):=au
theorem UO:qe prog 120=some [(0,1),(1,13)]:=au
theorem Bk:QR prog 120 0=some 0:=au
theorem MO:QR prog 120 1=some 1:=au
theorem Va:gW prog 122=some (.agg #[.pointer none,.pointer none,.int .i64 0,.int .u8 0,.int .i64 0,.slice none 0 0,.int .u8 0,.int .u8 0,.int .i64 0,.string ⟨#[]⟩,.int .i64 0,.int .u8 0,.slice none 0 0,.map none]):=au
theorem UP:qe prog 122=some [(0,1),(1,13)]:=au
theorem Bl:QR prog 122 0=some 0:=au
theorem LX:QR prog 122 1=some 1:=au
theorem Vb:gW prog 125=some (.agg #[.pointer none,.int .i64 0,.int .u8 0,.int .i64 0,.slice none 0 0,.int .u8 0,.int .u8 0,.int .i64 0,.string ⟨#[]⟩,.int .i64 0,.int .u8 0,.slice none 0 0,.map none]):=au
theorem UQ:qe prog 125=some [(0,13)]:=au
theorem Y2:QR prog 125 0=some 0:=au
theorem MX:QP prog 127=some 1:=au
theorem lK:eY prog 127=some false:=au
theorem jC:QP prog 128=some 1:=au
theorem jA:eY prog 128=some false:=au
theorem G3:fR prog 128=some 4:=au
theorem oc:QP prog 130=some 2:=au
theorem CA:eY prog 130=some true:=au
theorem Eg:gW prog 130=some (.agg #[.slice none 0 0,.slice none 0 0]):=au
theorem oT:qe prog 130=some [(0,1),(1,1)]:=au
theorem S4:QR prog 130 0=some 0:=au
theorem W9:QR prog 130 1=some 1:=au
theorem Ll:gW prog 133=some (.agg #[.slice none 0 0,.slice none 0 0,.pointer none,.int .i64 0,.map none,.map none]):=au
theorem L7:qe prog 133=some [(0,2),(2,1),(3,1),(4,1),(5,1)]:=au
theorem Wa:QR prog 133 0=some 0:=au
theorem Y3:QR prog 133 1=some 2:=au
theorem XR:QR prog 133 2=some 3:=au
theorem nu:QR prog 133 3=some 4:=au
theorem Wb:QR prog 133 4=some 5:=au
theorem Ih:QP prog 198=some 1:=au
theorem Ig:eY prog 198=some false:=au
theorem Vc:gW prog 200=some (.agg #[.slice none 0 0,.slice none 0 0]):=au
theorem UR:qe prog 200=some [(0,2)]:=au
theorem nv:QR prog 200 0=some 0:=au
theorem Vd:gW prog 202=some (.agg #[.slice none 0 0,.slice none 0 0,.int .i64 0,.int .i64 0]):=au
theorem US:qe prog 202=some [(0,2),(2,1),(3,1)]:=au
theorem XS:QR prog 202 0=some 0:=au
theorem FX:QR prog 202 1=some 2:=au
theorem nw:QR prog 202 2=some 3:=au
theorem Ve:gW prog 209=some (.agg #[.int .i64 0,.slice none 0 0,.map none]):=au
theorem UT:qe prog 209=some [(0,1),(1,1),(2,1)]:=au
theorem Bn:QR prog 209 0=some 0:=au
theorem ny:QR prog 209 1=some 1:=au
theorem XT:QR prog 209 2=some 2:=au
theorem MY:QP prog 213=some 1:=au
theorem DR:eY prog 213=some false:=au
theorem DV:gW prog 213=some (.nilIface):=au
theorem DS:gO prog 213=some (.nilIface,1,16):=au
theorem UY:QP prog 225=some 1:=au
theorem UJ:eY prog 225=some false:=au
theorem Vf:gW prog 448=some (.nilFunc):=au
theorem yB:QP prog 457=some 2:=au
theorem L0:eY prog 457=some true:=au
theorem DW:gW prog 457=some (.agg #[.slice none 0 0,.slice none 0 0]):=au
theorem UU:qe prog 457=some [(0,2)]:=au
theorem S5:QR prog 457 0=some 0:=au
theorem Vg:gW prog 486=some (.nilFunc):=au
theorem oU:QP prog 502=some 1:=au
theorem tN:eY prog 502=some false:=au
theorem Vh:gW prog 502=some (.nilFunc):=au
theorem yt:fR prog 535=some 127:=au
theorem a0F:cz prog 9=true:=au
theorem PA:cz prog 13=true:=au
theorem zN:cz prog 18=true:=au
theorem vv:cz prog 20=true:=au
theorem EI:cz prog 25=true:=au
theorem sI:cz prog 27=true:=au
theorem PB:cz prog 28=true:=au
theorem zO:cz prog 29=true:=au
theorem Ym:cz prog 32=true:=au
theorem Yn:cz prog 36=true:=au
theorem Yo:cz prog 37=true:=au
theorem Yp:cz prog 38=true:=au
theorem PC:cz prog 39=true:=au
theorem EJ:cz prog 40=true:=au
theorem Yq:cz prog 41=true:=au
theorem EK:cz prog 50=true:=au
theorem PD:cz prog 51=true:=au
theorem PE:cz prog 52=true:=au
theorem Yr:cz prog 55=true:=au
theorem Ys:cz prog 56=true:=au
theorem sJ:cz prog 57=true:=au
theorem PF:cz prog 58=true:=au
theorem Jl:cz prog 65=true:=au
theorem Yt:cz prog 66=true:=au
theorem Yu:cz prog 68=true:=au
theorem zP:cz prog 79=true:=au
theorem Yv:cz prog 80=true:=au
theorem PG:cz prog 81=true:=au
theorem Yw:cz prog 82=true:=au
theorem Yx:cz prog 83=true:=au
theorem zQ:cz prog 84=true:=au
theorem Yy:cz prog 85=true:=au
theorem Yz:cz prog 86=true:=au
theorem EL:cz prog 96=true:=au
theorem YA:cz prog 97=true:=au
theorem YB:cz prog 98=true:=au
theorem Jm:cz prog 99=true:=au
theorem SJ:cz prog 100=true:=au
theorem SK:cz prog 101=true:=au
theorem SL:cz prog 102=true:=au
theorem SM:cz prog 103=true:=au
theorem SN:cz prog 109=true:=au
theorem SO:cz prog 156=true:=au
theorem SP:cz prog 157=true:=au
theorem SQ:cz prog 158=true:=au
theorem SR:cz prog 159=true:=au
theorem SS:cz prog 160=true:=au
theorem SU:cz prog 161=true:=au
theorem SX:cz prog 162=true:=au
theorem SY:cz prog 163=true:=au
theorem SZ:cz prog 164=true:=au
theorem T1:cz prog 166=true:=au
theorem T2:cz prog 180=true:=au
theorem T3:cz prog 181=true:=au
theorem J4:cz prog 192=true:=au
theorem CV:cz prog 231=true:=au
theorem oy:cz prog 233=true:=au
theorem J5:cz prog 252=true:=au
theorem oz:cz prog 253=true:=au
theorem T4:cz prog 254=true:=au
theorem CW:cz prog 255=true:=au
theorem T5:cz prog 256=true:=au
theorem CX:cz prog 257=true:=au
theorem T6:cz prog 286=true:=au
theorem J6:cz prog 287=true:=au
theorem T7:cz prog 288=true:=au
theorem T8:cz prog 289=true:=au
theorem T9:cz prog 290=true:=au
theorem Td:cz prog 291=true:=au
theorem Te:cz prog 294=true:=au
theorem Tf:cz prog 295=true:=au
theorem Tg:cz prog 296=true:=au
theorem J7:cz prog 314=true:=au
theorem J8:cz prog 315=true:=au
theorem CY:cz prog 333=true:=au
theorem N1:cz prog 334=true:=au
theorem CZ:cz prog 335=true:=au
theorem Th:cz prog 337=true:=au
theorem J9:cz prog 349=true:=au
theorem lg:cz prog 360=true:=au
theorem Ti:cz prog 361=true:=au
theorem Tj:cz prog 362=true:=au
theorem Tk:cz prog 363=true:=au
theorem Tl:cz prog 364=true:=au
theorem Tm:cz prog 365=true:=au
theorem To:cz prog 366=true:=au
theorem Tp:cz prog 367=true:=au
theorem Tq:cz prog 368=true:=au
theorem Ts:cz prog 369=true:=au
theorem Tt:cz prog 380=true:=au
theorem D2:cz prog 397=true:=au
theorem Tu:cz prog 398=true:=au
theorem Ja:cz prog 399=true:=au
theorem Tv:cz prog 400=true:=au
theorem Jb:cz prog 401=true:=au
theorem Tw:cz prog 402=true:=au
theorem Tx:cz prog 403=true:=au
theorem Jc:cz prog 404=true:=au
theorem Jd:cz prog 405=true:=au
theorem Je:cz prog 406=true:=au
theorem Jf:cz prog 407=true:=au
theorem Jg:cz prog 408=true:=au
theorem Ty:cz prog 409=true:=au
theorem Tz:cz prog 410=true:=au
theorem D3:cz prog 411=true:=au
theorem Jh:cz prog 415=true:=au
theorem TA:cz prog 434=true:=au
theorem TB:cz prog 435=true:=au
theorem Ji:cz prog 436=true:=au
theorem D4:cz prog 437=true:=au
theorem TC:cz prog 438=true:=au
theorem Jj:cz prog 439=true:=au
theorem Jk:cz prog 440=true:=au
theorem TD:cz prog 441=true:=au
end
section
open Go.RowKit
theorem Jx (op:BinOp)(x y:Operand)(a b:Bool)(w:World):(eqGuard op 4 x y (.bool a) (.bool b)).run Tryz.prog w=.ok () w:=by
 have h:Tryz.prog.eqGuardType Tryz.prog.depth 4=false:=au
 cases op<;>simp[eqGuard,program,Sem.run,h]
theorem a1i (x y:Operand)(a b:Bool)(w:World):(do eqGuard .neq 4 x y (.bool a) (.bool b);binOp .neq 4 (.bool a) (.bool b):Sem Value).run Tryz.prog w=.ok (.bool (a !=b)) w:=by
 rw[Sem.run_bind,Jx,Result.andThen_ok];cases a<;>cases b<;>kernel_rfl
theorem Yh (x y:Operand)(a b:Bool)(w:World):(do eqGuard .eql 4 x y (.bool a) (.bool b);binOp .eql 4 (.bool a) (.bool b):Sem Value).run Tryz.prog w=.ok (.bool (a==b)) w:=by
 rw[Sem.run_bind,Jx,Result.andThen_ok];cases a<;>cases b<;>kernel_rfl
end
section
open Go.RowKit
theorem Jy (op:BinOp)(x y:Operand)(a b:Array Value)(w:World):(eqGuard op 63 x y (.agg a) (.agg b)).run Tryz.prog w=.ok () w:=by
 have h:Tryz.prog.eqGuardType Tryz.prog.depth 63=false:=au
 cases op<;>simp[eqGuard,program,Sem.run,h]
theorem Uo (x y:Operand)(a b:V)(w:World):(do eqGuard .neq 63 x y (.agg (M6 a ()).toArray) (.agg (M6 b ()).toArray);binOp .neq 63 (.agg (M6 a ()).toArray) (.agg (M6 b ()).toArray):Sem Value).run Tryz.prog w=.ok (.bool (!decide (a=b))) w:=by
 rw[Sem.run_bind,Jy,Result.andThen_ok];simp only[V.ext_iff',M6];simp[go_sem];by_cases h1:a.k=b.k<;>by_cases U:a.n=b.n<;>by_cases h3:a.s.toList=b.s.toList<;>simp[h1,U,h3]
theorem IV (x y:Operand)(a b:V)(w:World):(do eqGuard .eql 63 x y (.agg (M6 a ()).toArray) (.agg (M6 b ()).toArray);binOp .eql 63 (.agg (M6 a ()).toArray) (.agg (M6 b ()).toArray):Sem Value).run Tryz.prog w=.ok (.bool (decide (a=b))) w:=by
 rw[Sem.run_bind,Jy,Result.andThen_ok];simp only[V.ext_iff',M6];simp[go_sem];by_cases h1:a.k=b.k<;>by_cases U:a.n=b.n<;>by_cases h3:a.s.toList=b.s.toList<;>simp[h1,U,h3]
end
end Go.Proofs.YtocfkfhdcnjklaaGreatDoor
namespace Go.Proofs
open Go.Shelf
def Tryz.sort66_ren:Go.Shelf.Ren:=⟨λ|6=>66|15=>108|14=>107|28=>190|29=>191|20=>182|21=>183|22=>184|23=>185|24=>186|25=>187|26=>188|27=>189|46=>274|47=>275|48=>276|49=>277|50=>278|57=>332|n=>n,λ|22=>51|24=>101|25=>153|3=>3|39=>230|0=>0|53=>320|55=>322|4=>4|46=>314|45=>313|50=>142|5=>5|9=>9|66=>435|70=>439|76=>482|77=>483|n=>n,λ|n=>n⟩
theorem Tryz.sort66:Go.Proofs.SlLaysF0.n6 Tryz.prog Tryz.sort66_ren:={
 mixed:=by kernel_rfl
 f6:=⟨Tryz.f66.name,by decide,Tryz.func66.trans (congrArg some (by kernel_rfl))⟩
 f14:=⟨Tryz.f107.name,by decide,Tryz.func107.trans (congrArg some (by kernel_rfl))⟩
 f15:=Tryz.func108.trans (congrArg some (by kernel_rfl))
 f20:=⟨Tryz.f182.name,by decide,Tryz.func182.trans (congrArg some (by kernel_rfl))⟩
 f21:=⟨Tryz.f183.name,by decide,Tryz.func183.trans (congrArg some (by kernel_rfl))⟩
 f22:=⟨Tryz.f184.name,by decide,Tryz.func184.trans (congrArg some (by kernel_rfl))⟩
 f23:=⟨Tryz.f185.name,by decide,Tryz.func185.trans (congrArg some (by kernel_rfl))⟩
 f24:=⟨Tryz.f186.name,by decide,Tryz.func186.trans (congrArg some (by kernel_rfl))⟩
 f25:=⟨Tryz.f187.name,by decide,Tryz.func187.trans (congrArg some (by kernel_rfl))⟩
 f26:=⟨Tryz.f188.name,by decide,Tryz.func188.trans (congrArg some (by kernel_rfl))⟩
 f27:=⟨Tryz.f189.name,by decide,Tryz.func189.trans (congrArg some (by kernel_rfl))⟩
 f28:=Tryz.func190.trans (congrArg some (by kernel_rfl))
 f29:=Tryz.func191.trans (congrArg some (by kernel_rfl))
 f46:=⟨Tryz.f274.name,by decide,Tryz.func274.trans (congrArg some (by kernel_rfl))⟩
 f47:=Tryz.func275.trans (congrArg some (by kernel_rfl))
 f48:=Tryz.func276.trans (congrArg some (by kernel_rfl))
 f49:=⟨Tryz.f277.name,by decide,Tryz.func277.trans (congrArg some (by kernel_rfl))⟩
 f50:=⟨Tryz.f278.name,by decide,Tryz.func278.trans (congrArg some (by kernel_rfl))⟩
 f57:=⟨Tryz.f332.name,by decide,Tryz.func332.trans (congrArg some (by kernel_rfl))⟩
 t0:=Tryz.underlying0
 a0:=Tryz.isAgg0
 z0:=Tryz.sizeOf0
 v0:=Tryz.zeroValue0
 t3:=Tryz.underlying3
 a3:=Tryz.isAgg3
 z3:=Tryz.sizeOf3
 v3:=Tryz.zeroValue3
 t4:=Tryz.underlying4
 a4:=Tryz.isAgg4
 z4:=Tryz.sizeOf4
 v4:=Tryz.zeroValue4
 t5:=Tryz.underlying5
 a5:=Tryz.isAgg5
 z5:=Tryz.sizeOf5
 v5:=Tryz.zeroValue5
 t9:=Tryz.underlying9
 a9:=Tryz.isAgg9
 z9:=Tryz.sizeOf9
 v9:=Tryz.zeroValue9
 t22:=Tryz.underlying51
 a22:=Tryz.isAgg51
 z22:=Tryz.sizeOf51
 v22:=Tryz.zeroValue51
 t25:=Tryz.underlying153
 a25:=Tryz.isAgg153
 z25:=Tryz.sizeOf153
 v25:=Tryz.zeroValue153
 t39:=Tryz.underlying230
 a39:=Tryz.isAgg230
 z39:=Tryz.sizeOf230
 v39:=Tryz.zeroValue230
 t45:=Tryz.underlying313
 a45:=Tryz.isAgg313
 z45:=Tryz.sizeOf313
 v45:=Tryz.zeroValue313
 t46:=Tryz.underlying314
 a46:=Tryz.isAgg314
 z46:=Tryz.sizeOf314
 v46:=Tryz.zeroValue314
 t50:=Tryz.underlying142
 a50:=Tryz.isAgg142
 z50:=Tryz.sizeOf142
 v50:=Tryz.zeroValue142
 t53:=Tryz.underlying320
 a53:=Tryz.isAgg320
 z53:=Tryz.sizeOf320
 v53:=Tryz.zeroValue320
 t55:=Tryz.underlying322
 a55:=Tryz.isAgg322
 z55:=Tryz.sizeOf322
 v55:=Tryz.zeroValue322
 t66:=Tryz.underlying435
 a66:=Tryz.isAgg435
 z66:=Tryz.sizeOf435
 v66:=Tryz.zeroValue435
 t70:=Tryz.underlying439
 a70:=Tryz.isAgg439
 z70:=Tryz.sizeOf439
 v70:=Tryz.zeroValue439
 t76:=Tryz.underlying482
 a76:=Tryz.isAgg482
 z76:=Tryz.sizeOf482
 v76:=Tryz.zeroValue482
 t77:=Tryz.underlying483
 a77:=Tryz.isAgg483
 z77:=Tryz.sizeOf483
 v77:=Tryz.zeroValue483}
end Go.Proofs
namespace Go.Proofs.YtocfkfhdcnjklaaGreatDoor
section
open Go
def Result.wld {α:Type}:Result α->World
 | .ok _ w=>w
 | .halt _ w=>w
theorem CH {α:Type}:∀(a:Ask α)(w:World),w.drawn<=(w.ask a).2.drawn
 | .done _,_=>Nat.le_refl _
 | .ask what range k,w=>by
   unfold World.ask;simp only;split;· exact CH (k 0) w
   · exact Nat.le_trans (Nat.le_succ _) (CH _ {w with drawn:=w.drawn+1})
theorem UI (w:World)(c:Sys):w.drawn<=(w.sys c).2.drawn:=by
 have h:=CH (Kernel.perform c w.os) w;unfold World.sys;split;· exact Nat.le_refl _
 ·rename_i r os U _ e;rw[e]at h;exact h
theorem Gn (w:World)(a:Addr)(n:Nat):(w.freeze a n).drawn=w.drawn:=by
 unfold World.freeze;split<;>rfl
theorem zK {p:Program} {w w':World} {a:Addr} {v:Value} {b:Bool} {l:List Addr} (h:w.farStore p a v b=.ok (w',l)):w'.drawn=w.drawn:=by
 unfold World.farStore at h;split at h
 ·split at h
  ·rename_i r U;cases h;unfold World.viewStore at U;simp only[bind,Except.bind,pure,Except.pure,throw,throwThe,MonadExceptOf.throw]at U;repeat' split at U
   all_goals first|(cases U;done)|(cases U;rfl)|skip
  · cases h
 · cases h
theorem lE {α:Type} (p:Program):∀(s:Sem α) (w:World),w.drawn<=(Result.wld (s.run p w)).drawn:=by
 intro s;induction s with
 |pure a=>intro w;exact Nat.le_refl _
 | load m a k U=>
   intro w;unfold Sem.run;split;· exact U _ w
   ·split;· exact U _ w
    · exact Nat.le_refl _
 | store m a v k U=>
   intro w
   cases v<;>unfold Sem.run<;>first
    |exact Nat.le_refl _
    | (split
       ·split;· exact Nat.le_refl _
        · exact U (w.setCell a _)
       ·split
        ·rename_i hf;have:=U (by assumption);rw[zK hf]at this;exact this
        · exact Nat.le_refl _)
 |new o k U=>intro w;exact U _ {w with heap:=w.heap.push o}
 |shape r k U=>intro w;exact U _ w
 |freeze a n k U=>intro w;have:=U (w.freeze a n);rw[Gn]at this;exact this
 |frozen a k U=>intro w;exact U _ w
 | getObj r k U=>
   intro w;unfold Sem.run;split;· exact Nat.le_refl _
   · exact U _ w
   · exact Nat.le_refl _
 | setObj r o k U=>
   intro w;unfold Sem.run;split;· exact Nat.le_refl _
   · exact U {w with heap:=w.heap.setIfInBounds r o}
   · exact Nat.le_refl _
 | choose q k U=>
   intro w;unfold Sem.run;split;· exact U _ w
   · exact Nat.le_trans (Nat.le_succ _) (U _ {w with drawn:=w.drawn+1})
 |sys c k U=>intro w;exact Nat.le_trans (UI w c) (U _ (w.sys c).2)
 |program k U=>intro w;exact U _ w
 |mark m k U=>intro w;exact U w
 |halt h=>intro w;exact Nat.le_refl _
theorem KH {α:Type} (p:Program):∀(s:Sem α) (w:World) (es:Array Event),(s.runT p w es).1=s.run p w:=by
 intro s;induction s with
 |pure a=>intro w es;rfl
 | load m a k U=>
   intro w es;simp only[Sem.runT,Sem.run];cases w.cell? a with
   |some v=>exact U _ _ _
   | none=>
     simp only;cases w.farLoad p a (m==.atomic)with
     |ok r=>exact U _ _ _
     |error h=>rfl
 | store m a v k U=>
   intro w es
   cases v<;>simp only[Sem.runT,Sem.run]<;>
     (cases w.cell? a with
      | some v=>
        simp only;split;· rfl
        · exact U _ _
      | none=>
        simp only;split;· exact U _ _
        · rfl)
 |new o k U=>intro w es;exact U _ _ _
 |shape r k U=>intro w es;exact U _ _ _
 |freeze a n k U=>intro w es;exact U _ _
 |frozen a k U=>intro w es;exact U _ _ _
 | getObj r k U=>
   intro w es;simp only[Sem.runT,Sem.run];split;· rfl
   · exact U _ _ _
   · rfl
 | setObj r o k U=>
   intro w es;simp only[Sem.runT,Sem.run];split;· rfl
   · exact U _ _
   · rfl
 | choose q k U=>
   intro w es;simp only[Sem.runT,Sem.run];split;· exact U _ _ _
   · exact U _ _ _
 |sys c k U=>intro w es;exact U _ _ _
 |program k U=>intro w es;exact U _ _ _
 |mark m k U=>intro w es;exact U _ _
 |halt h=>intro w es;rfl
theorem Sb {α:Type} (p:Program)(s:Sem α)(w:World)(es:Array Event):w.drawn<=(Result.wld (s.runT p w es).1).drawn:=by
 rw[KH];exact lE p s w
theorem ym {α:Type} {p:Program} {s:Sem α} {w:World} {es U:Array Event} {r:Result α} (e:s.runT p w es=(r,U)):w.drawn<=(Result.wld r).drawn:=by
 have h:=Sb p s w es;rw[e]at h;exact h
theorem HB {α:Type} {p:Program} {s:Sem α} {w:World} {r:Result α} (e:s.run p w=r):w.drawn<=(Result.wld r).drawn:=by
 have h:=lE p s w;rw[e]at h;exact h
def GStep.dr (d:Nat):GStep->Prop
 | .go _ w _=>d<=w.drawn
 | .comm _ _ _ _ w _=>d<=w.drawn
 | .spawn _ _ w _=>d<=w.drawn
 | .count _ w _=>d<=w.drawn
 | .timer _ _ w _=>d<=w.drawn
 | .alone _ _ w _=>d<=w.drawn
 | .newcoro _ _ _ w _=>d<=w.drawn
 | .coroswitch _ _ _ w _=>d<=w.drawn
 | .collect _ w _=>d<=w.drawn
 | .watch _ w _=>d<=w.drawn
 | .ended _ _ _=>True
theorem td {d:Nat} {c:Prop} [Decidable c] {a b:GStep} (U:GStep.dr d a)(hb:GStep.dr d b):GStep.dr d (if c then a else b):=by split<;>assumption
theorem Pa {d:Nat} {es:Array Event} {g:GStep} (h:GStep.dr d g):GStep.dr d (g.after es):=by cases g<;>exact h
section
variable {p:Program} {main:Bool} {fr:Frame} {callers:List Frame} {dying:Option Dying} {w:World} {d:Nat}
theorem Qbl (h:d<=w.drawn)(v:Value):GStep.dr d (doReturn p main fr callers dying v w):=by
 unfold doReturn;repeat' split
 all_goals first|trivial|exact h
theorem Qbo (h:d<=w.drawn)(m:String):GStep.dr d (endThrow fr m w):=h
theorem Qbn (h:d<=w.drawn)(v:Value):GStep.dr d (endPrinting p fr v w):=by
 unfold endPrinting;simp only;split;· exact h
 · trivial
theorem pE (h:d<=w.drawn)(m:String):GStep.dr d (endFatal p fr callers dying m w):=by
 unfold endFatal;extract_lets chain raw shown;have h1:=lE p shown w;generalize shown.run p w=r at h1;match r with
 | .ok (texts,U) w'=>exact Nat.le_trans h h1
 | .halt (.unsupported u) w'=>trivial
 | .halt (.panic _) _| .halt .goexit _| .halt .blocked _| .halt .waiting _| .halt (.exit _) _| .halt (.fatal _) _| .halt (.throw _) _| .halt (.stuck _) _=>trivial
theorem CT (fd:Nat)(text:ByteArray)(o:Outcome):GStep.dr d (endWith w fd text o):=by
 unfold endWith;simp only;split;· split<;>trivial
 · trivial
 · trivial
theorem E7 (h:d<=w.drawn)(y:Dying)(f:Fatal):GStep.dr d (writeOn p fr y f w):=by
 unfold writeOn;extract_lets on;split;· trivial
 ·extract_lets;split;all_goals first|trivial|exact Nat.le_trans h (ym (by assumption))
theorem Sy (h:d<=w.drawn)(y:Dying):GStep.dr d (die p fr y w):=by
 unfold die;split;· exact E7 h _ _
 ·split
  ·split;· exact h
   · exact CT _ _ _
  ·extract_lets y2;split;· exact h
   ·rename_i s _;have h1:=lE p (withAddress s) w;generalize (withAddress s).run p w=r at h1;match r with
    | .ok s w'=>exact Nat.le_trans h h1
    | .halt _ w'=>trivial
   ·rename_i v _ _ _ t recv name _;have h1:=Sb p (invoke (.fn (.method name) #[]) #[.iface t recv]) w #[];generalize (invoke (.fn (.method name) #[]) #[.iface t recv]).runT p w #[]=r at h1;obtain⟨r,es⟩:=r;simp only;refine Pa ?_;split;· exact Nat.le_trans h h1
    · exact Nat.le_trans h h1
    · trivial
    · exact Qbn (Nat.le_trans h h1) _
    · trivial
   · trivial
theorem ql (h:d<=w.drawn)(y:Deferred):GStep.dr d (callDeferred p fr callers dying y w):=by
 unfold callDeferred;refine td trivial ?_
 ·have h1:=Sb p (invoke y.target y.args) w #[];generalize (invoke y.target y.args).runT p w #[]=r at h1;obtain⟨r,es⟩:=r;simp only;refine Pa ?_;split;all_goals first|trivial|exact Nat.le_trans h h1|exact pE (Nat.le_trans h h1) _|exact Qbo (Nat.le_trans h h1) _|(split<;>exact Nat.le_trans h h1)
theorem Hc (h:d<=w.drawn):GStep.dr d (unwind p main fr callers dying w):=by
 unfold unwind;split
 ·rename_i block _ ds _;have h1:=Sb p (Instr.takeDeferred block) w #[];generalize (Instr.takeDeferred block).runT p w #[]=r at h1;obtain⟨r,es⟩:=r;simp only;refine Pa ?_;split;· exact Nat.le_trans h h1
  · trivial
 · exact ql h _
 ·split;· trivial
  ·split;· trivial
   ·split;· exact h
    ·split
     ·split;· exact h
      ·rename_i chain _ _ _ _ _;have h1:=lE p (reportChain chain false) w;generalize (reportChain chain false).run p w=r at h1;split;· exact Nat.le_trans h h1
       · trivial
       · trivial
     ·split;· exact Qbn h _
      · trivial
  ·split;· exact Qbl h _
   ·rename_i fn _;have h1:=Sb p (results fn fr.tmps) w #[];generalize (results fn fr.tmps).runT p w #[]=r at h1;obtain⟨r,es⟩:=r;simp only;refine Pa ?_;split;· exact Qbl (Nat.le_trans h h1) _
    · trivial
    · trivial
theorem IP (h:d<=w.drawn) (g:Nat):GStep.dr d (early p fr callers dying g w):=by
 unfold early;extract_lets refuse notYet
 have U:∀w:World,d<=w.drawn->GStep.dr d (notYet w):=λw hw=>by
  show GStep.dr d (match w.heap[g]? with
   |some (.pending c elem)=>.go {frame:=fr,callers,status:=.running,dying} {w with heap:=w.heap.setIfInBounds g (.cells c elem)}
   |_=>.ended (.stuck "early: the variable does not wait" (fr.pos p)) w)
  split;· exact hw
  · trivial
 split;· exact U w h
 ·split;· trivial
  ·rename_i f _;extract_lets there;have ht:∀w:World,d<=w.drawn->GStep.dr d (there w):=λw hw=>hw
   split;· exact U w h
   ·split;· exact U w h
    ·split;· trivial
     · exact ht w h
     · trivial
     · exact U w h
     ·split;· exact ht w h
      ·split;· exact U w h
       ·have h1:=lE p (choose (.early g)) w;generalize (choose (.early g)).run p w=r at h1;split;· exact U _ (Nat.le_trans h h1)
        · exact ht _ (Nat.le_trans h h1)
        · trivial
theorem EF {α:Type} {d:Nat} {o:Option α} {a:GStep} {f:α->GStep} (U:GStep.dr d a)(hf:∀x,GStep.dr d (f x)):GStep.dr d (o.elim a f):=by
 cases o with
 |none=>exact U
 |some x=>exact hf x
theorem XY {listen:Bool} (h:d<=w.drawn)(s:Sem Next):GStep.dr d (stepG.apply p listen fr callers dying s w):=by
 unfold stepG.apply;extract_lets go kind
 have key:w.drawn<=(Result.wld (if listen=true then s.runT p w #[]else(s.run p w,#[])).1).drawn:=by
  split;· exact Sb p s w #[]
  · exact lE p s w
 generalize (if listen=true then s.runT p w #[]else(s.run p w,#[]))=re at key;obtain⟨r,es⟩:=re;simp only;refine Pa ?_;have h1:=Nat.le_trans h key;simp only at h1;clear key;split
 all_goals first
  |trivial
  |exact h1
  |exact pE h1 _
  |exact Qbo h1 _
  |exact IP h1 _
  |exact td (Qbo h1 _) h1
  |(split<;>exact h1)
  |(split<;>split<;>exact h1)
theorem Og {listen:Bool} (h:d<=w.drawn):GStep.dr d (stepG.oper p listen fr callers dying w):=by
 unfold stepG.oper;split;· trivial
 ·split;· exact XY h _
  · exact XY h _
theorem Nj {listen:Bool} (h:d<=w.drawn):GStep.dr d (stepG.exec p main listen fr callers dying w):=by
 unfold stepG.exec;extract_lets go toK lost leave;have U:∀f w',d<=w'.drawn->GStep.dr d (go f w'):=λf w' hw=>hw
 have Wp:∀k,GStep.dr d (toK k):=λk=>h;have JU:∀s,GStep.dr d (lost s):=λs=>trivial
 have JR:∀j,GStep.dr d (leave j):=by
  intro j;simp only[leave];split;· exact td h trivial
  ·rename_i l _;have h1:=Sb p (Instr.endRound l j) w #[];generalize (Instr.endRound l j).runT p w #[]=r at h1;obtain⟨r,es⟩:=r;simp only;refine Pa ?_;split;· exact Qbl (Nat.le_trans h h1) _
   · trivial
 clear_value leave
 split
 all_goals first
  |exact JR _
  |exact Wp _
  |exact JU _
  |trivial
  |exact XY h _
  |exact EF (JR _) Wp
  |exact EF (JU _) (λ_=>XY h _)
  |exact td (Og h) (U _ _ h)
  |(split<;>first|exact Wp _|exact JU _)
  | (refine td (Wp _) ?_
     split;· exact U _ _ (Nat.le_trans h (HB (by assumption)))
     · trivial)
  | (split
     rename_i r es heq;have h1:=Nat.le_trans h (ym heq);refine Pa ?_;split;· exact U _ _ h1
     · exact U _ _ h1
     · trivial)
  | (split
     rename_i r es heq;have h1:=Nat.le_trans h (ym heq);refine Pa ?_;split;· exact XY h1 _
     · trivial)
theorem KS {listen:Bool} {g:Goroutine} (h:d<=w.drawn):GStep.dr d (stepG p main g w listen):=by
 unfold stepG;split;split;· exact Sy h _
 · exact Nj h
 · exact Hc h
end
def Stepped.dr (d:Nat):Stepped->Prop
 | .next m=>d<=m.world.drawn
 | .ended _ _=>True
section
variable {p:Program} {d:Nat}
theorem F2 {gs:Array Goroutine} {rest:Rest} {w:World} (h:d<=w.drawn):Stepped.dr d (Go.look p gs rest w):=by
 unfold Go.look
 repeat' first
  |trivial
  |exact Nat.le_trans h (HB (by assumption))
  |split
  |extract_lets
theorem KK {m:Machine} (h:d<=m.world.drawn)(k:Nat):Stepped.dr d (serve p m k):=by
 unfold serve;split;· trivial
 · exact h
 ·extract_lets;split;· trivial
  · exact h
theorem yE {rest:Rest} {cases:Array CommCase} {w U:World} (e:waitingAt rest cases w=some U):U.drawn=w.drawn:=by
 unfold waitingAt at e;split at e
 ·split at e;· cases e;rfl
  · cases e
 · cases e;rfl
theorem IK (w:World)(c:Nat):(drain w c).2.drawn=w.drawn:=by
 unfold drain;split<;>rfl
theorem w5 (m:Machine)(k:Nat)(t:Timer)(a b:Nat):(retime m k t a b).2.world.drawn=m.world.drawn:=by
 unfold retime;split;rename_i U world heq;simp only;split at heq
 ·rename_i c _;have:=IK m.world c;rw[heq]at this;exact this
 · cases heq;rfl
theorem DZ {m m':Machine} {op:TimerOp} {v:Value} (e:timerOp m op=.ok (v,m')):m'.world.drawn=m.world.drawn:=by
 have U:∀(m0:Machine) (var:Addr) (f:Nat->Timer->Value×Machine),(∀k t,(f k t).2.world.drawn=m0.world.drawn)->timerOp.named m0 var f=.ok (v,m')->m'.world.drawn=m0.world.drawn:=λm0 var f hf h=>by
  unfold timerOp.named at h;split at h
  ·rename_i k _;have:=hf k (m0.rest.timers.getD k default);cases hv:f k (m0.rest.timers.getD k default)with
   | mk a b=>
     rw[hv]at h this;cases h;exact this
  · cases h
 unfold timerOp at e;split at e
 ·split at e;· cases e;rfl
  ·split at e
   · split at e;· cases e
     · cases e;rfl
   · cases e
 · exact U m _ _ (λk t=>w5 m k t _ _) e
 ·split at e
  ·rename_i m1 hm
   have h1:m1.world.drawn=m.world.drawn:=by
     unfold timerOp.opened at hm;split at hm
     ·split at hm;· cases hm;rfl
      · cases hm
     · cases hm;rfl
   exact U m _ _ (λk t=>(w5 m1 k t _ _).trans h1) e
  · cases e
 · cases e;rfl
theorem sf {rest:Rest} {gs:Array Goroutine} {i:Nat} {g:Goroutine} {cases:Array CommCase} {zt:Bool} {shape:CommShape} {w:World} (h:d<=w.drawn):Stepped.dr d (communicate p rest gs i g cases zt shape w).1:=by
 unfold communicate;extract_lets put a0v me other ready pick;split;· trivial
 ·split
  ·split
   ·split
    ·rename_i U e;show d<=U.drawn;rw[yE e];exact h
    · trivial
   · exact h
  ·split;· trivial
   ·rename_i k c way U e;have h1:d<=U.drawn:=Nat.le_trans h (HB e)
    repeat' first
     |exact h1
     |trivial
     |exact Nat.le_trans h1 (HB (by assumption))
     |split
     |extract_lets
     |(have e2:=‹Sem.run p (runtimePanic _) U=_›;exact Nat.le_trans h1 (HB e2))
theorem KI {m:Machine} (h:d<=m.world.drawn)(i:Nat)(listen:Bool):Stepped.dr d (runT p m i listen).1:=by
 unfold runT;extract_lets rest world;split;extract_lets a1I fn pos s ops done;have hs:GStep.dr d s:=KS h
 clear_value s
 split;· trivial
 ·rename_i g cases U shape w es;split;rename_i r more e;show Stepped.dr d (r,more).1;rw[<-e];exact sf (show d<=w.drawn from hs)
 · exact hs
 · exact hs
 ·extract_lets;refine(?_:Stepped.dr d _);split;· trivial
  · exact hs
 · exact hs
 · exact F2 hs
 · exact hs
 · exact hs
 ·split;· exact hs
  · exact hs
  · trivial
 ·split
  ·rename_i e;show d<=_;have:=DZ e;rw[this];exact hs
  · exact hs
  · trivial
  · trivial
def Move.dr (d:Nat):Move->Prop
 | .goroutine m _=>d<=m.world.drawn
 | .machine s _=>Stepped.dr d s
theorem rZ {m:Machine} (h:d<=m.world.drawn):Move.dr d (askOn p m):=by
 unfold askOn;extract_lets mono rs ds pick
 have hp:∀m1:Machine,d<=m1.world.drawn->Move.dr d (pick m1):=λm1 h1=>by
  simp only[pick];split;· trivial
  ·rename_i k w1 e;have U:=Nat.le_trans h1 (HB e);split;· exact U
   ·split;· trivial
    ·rename_i n w2 e2;exact Nat.le_trans U (HB e2)
 clear_value pick
 split;· trivial
 ·rename_i k w1 e;have h1:d<=w1.drawn:=Nat.le_trans h (HB e)
  clear_value rs
  extract_lets m1
  repeat' first
   |exact h1
   |trivial
   |exact KK h1 _
   |exact hp _ h1
   |exact hp _ (Nat.le_trans h1 (HB (by assumption)))
   |exact Nat.le_trans h1 (HB (by assumption))
   |split
   |extract_lets
theorem Ew {m:Machine} (h:d<=m.world.drawn):Move.dr d (Go.ask p m):=by
 unfold Go.ask;split
 ·split;· trivial
  ·rename_i w1 e;have h1:d<=w1.drawn:=Nat.le_trans h (HB e);have U:=F2 (p:=p) (gs:=m.gs) (rest:=m.rest) h1;split
   ·rename_i m2 e2;rw[e2]at U;exact rZ U
   · exact U
  ·rename_i w1 e;exact rZ (Nat.le_trans h (HB e))
 · exact rZ h
theorem Oa {m:Machine} (h:d<=m.world.drawn):Move.dr d (move p m):=by
 unfold move;split
 ·split;· exact h
  · trivial
 ·split
  ·split;· exact h
   · exact Ew h
  · exact Ew h
theorem Oz {m m':Machine} (e:step p m=.next m'):m.world.drawn<=m'.world.drawn:=by
 have h:Stepped.dr m.world.drawn (step p m):=by
  unfold step stepT;have hm:=Oa (p:=p) (Nat.le_refl m.world.drawn);split
  ·rename_i m1 i U;rw[U]at hm;exact KI hm i true
  ·rename_i s ops U;rw[U]at hm;exact hm
 rw[e]at h;exact h
theorem KU {m m':Machine} (h:Steps p m m'):m.world.drawn<=m'.world.drawn:=by
 obtain⟨n,U⟩:=h;induction n generalizing m with
 |zero=>cases U;exact Nat.le_refl _
 | succ n ih=>
   unfold runN at U;split at U
   ·rename_i m1 e;exact Nat.le_trans (Oz e) (ih U)
   ·rename_i db;exact absurd U (λe=>db _ e)
theorem zv {f:FuncId} {args:Array Value} {w:World} {R:Ending->World->Prop} (h:Calls p f args w R):Calls p f args w (λe U=>R e U/\∀v,e=.returned v->w.drawn<=U.drawn):=λcs=>by
 obtain⟨e,U,fr,hR,hC,hf,hl⟩:=h cs;refine⟨e,U,fr,⟨hR,λv hv=>?_⟩,hC,hf,hl⟩;subst hv;exact KU (m:=lone (Frame.enter p f args .normal) cs w) (m':=lone fr cs U) hC
end
end
section
open Go.RowKit Go.ChangeShapes Go.WideShapes Go.Deep
theorem Qc9 {H:Type} {enc:TypeId×Value->H} {P:Program} (hl:laidOutB P=true) {W W':World} (hb:Below W.heap.size W W'):∀{ts:List TypeId} {vs:List Value} {ds:List (DataW H)} {U:List MemPlace},(∀t∈ts,P.readableRec t=true/\t<P.types.size)->
   DataW.TrodAll enc P W 0 (λ_=>true) true ts vs ds U->(∀x∈U,x.block<W.heap.size)->DataW.TrodAll enc P W' 0 (λb=>decide (b<W.heap.size)) true ts vs ds U
 | [],vs,ds,U,_,h,_=>by
   cases vs with
   | nil=>cases ds with
     |nil=>exact h
     |cons d ds=>exact h
   |cons v vs=>cases ds<;>exact h
 | t::ts,vs,ds,U,ht,h,bq=>by
   obtain⟨v0,vs0,d0,ds0,p0,q0,rfl,rfl,rfl,h0,r0⟩:=trodAll_cons h;exact trodAll_cons_mk (Below.trod hl (ht t ax).1 (ht t ax).2 h0 hb (λx hx=>bq x (by simp[hx]))) (Qc9 hl hb (λt h=>ht t (by simp[h])) r0 (λx hx=>bq x (by simp[hx])))
theorem Kd {H:Type} {enc:TypeId×Value->H} {P:Program} {f:Func} {s:ChangeSpec} {apart fresh handsOn:Bool} {W W':World} {args:Array Value} {ds gs:List (DataW H)} {before:List MemPlace} {tb:TypeId}
  (hl:laidOutB P=true) (hr:∀t∈f.params.toList,P.readableRec t=true/\t<P.types.size) (lk:f.resultTypes=#[tb]) (htb:P.underlying tb=some .bool) (hv:s.vars=[])
  (hW:DataW.Whole enc P f.params.toList s.vars apart W args.toList ds gs before) (jq:(s.fn H (ds++gs)).results=[.lit (.bool true)]) (hfa:(s.fn H (ds++gs)).args=ds) (hfv:(s.fn H (ds++gs)).vars=[])
  (hb:Below W.heap.size W W'):s.post enc P f apart fresh handsOn false W args (.bool true) W':=by
 have U:=hW;obtain⟨p,q,hA,hV,rfl,hfz,Gy⟩:=hW;rw[hv]at hV;obtain⟨rfl,rfl⟩:=trodVars_none hV;refine⟨ds,[],p++[],[],p++[],[],U,?_,?_,?_,hb.frame _,λh=>by cases h⟩
 ·rw[jq,lk];exact trodAll_mk1 (shut_bool htb true)
 ·rw[hfa,List.append_nil];exact Qc9 hl hb hr hA (λx hx=>U.lt x (cv hx))
 · rw[hfv,hv];rfl
end
section
open Go.RowKit Go.Deep
theorem tI {P:Program} {f:FuncId} {args:List Value} {Φ:List Fact} {v:Value} {w:World} (h:QB P f args Φ [] (λu U Hr=>u=v/\U=[]/\Hr=[]))(ec:∀φ∈Φ,φ.p (λk=>k<w.heap.size) w):
  Calls P f args.toArray w λe w'=>e=.returned v/\Mod (λ_=>False) w w':=by
 refine Calls.mono (h (λk=>k<w.heap.size) (λ_ _=>False) w (λ_ h=>h) ec (λi x hx=>by simp at hx) (λi k hi=>by simp at hi) (λi j k hi=>by simp at hi)) λe w' he=>?_;obtain⟨u,U,Hr,rfl,⟨rfl,_⟩,F,N,hm⟩:=he;exact⟨rfl,hm.mod.mono λk _ hk=>by obtain⟨i,hi,_⟩:=hk;simp at hi⟩
end
section
open Go Go.RowKit Go.Shelf
open Go.Sort (flatK putRowK HoldsK)
theorem grown_of {W U:World} (hm:Mod (λ_=>False) W U)(hd:W.drawn<=U.drawn):∃q os',U=Go.Sort.grow (W.drewN q) os':=by
 refine⟨U.drawn-W.drawn,U.heap.extract W.heap.size U.heap.size,?_⟩
 have hh:U.heap=W.heap++U.heap.extract W.heap.size U.heap.size:=by
  apply Array.ext_getElem?;intro k;rw[Array.getElem?_append];split;· rename_i h;exact hm.block k h (λh=>h.elim)
  ·rename_i h;rw[Array.getElem?_extract];split;· congr 1;omega
   · rw[Array.getElem?_eq_none_iff];omega
 have h1:=hm.os;have h2:=hm.tape;have h3:=hm.output;obtain⟨hp,tp,dr,os,ot⟩:=U;simp only at h1 h2 h3 hh hd;subst h1;subst h2;subst h3;show _=({heap:=W.heap++_,tape:=W.tape,drawn:=W.drawn+(dr-W.drawn),os:=W.os,output:=W.output}:World)
 rw[<-hh,Nat.add_sub_cancel' hd]
section
variable {α:Type} {k:Nat} {enc:α->List Value}
theorem Q8A (hk:∀x,(enc x).length=k):∀{l:List α} {U:List Value},U.length=l.length*k->(∀i x,l[i]? =some x->∀c,c<k->U[i*k+c]? =(enc x)[c]?)->fZ k (λcs x=>cs=enc x) U l
 |[],U,h,_=>List.eq_nil_of_length_eq_zero (cv h)
 | x::l,U,h,hc=>by
   have hl:U.length=l.length*k+k:=by rw[h,List.length_cons,Nat.succ_mul]
   refine⟨U.take k,U.drop k,(List.take_append_drop k U).symm,by rw[List.length_take];omega,?_,Q8A hk (by rw[List.length_drop];omega) λi y hy c Mf=>?_⟩
   ·apply List.ext_getElem?;intro c;rw[List.getElem?_take];split
    ·rename_i Mf;have:=hc 0 x rfl c Mf;simpa using this
    ·rename_i Mf;symm;rw[List.getElem?_eq_none_iff,hk];omega
   ·rw[List.getElem?_drop,<-hc (i+1) y (cv hy) c Mf];congr 1;rw[Nat.succ_mul];omega
theorem sH [Inhabited α] (hk:∀x,(enc x).length=k)(d:Array α):(flatK enc k d).toList=d.toList.flatMap enc:=by
 refine fZ.flat_iff enc (Q8A hk ax λi x hx c U=>?_)
 have hi:i<d.size:=by
  have:=(List.getElem?_eq_some_iff.1 hx).1;simpa using this
 have ht:i*k+c<d.size*k:=by
  have:=Nat.mul_le_mul_right k hi;rw[Nat.succ_mul]at this;omega
 have h1:(i*k+c)/k=i:=by rw[Nat.mul_comm,Nat.mul_add_div an,Nat.div_eq_of_lt U];rfl
 have h2:(i*k+c)%k=c:=by rw[Nat.mul_comm,Nat.mul_add_mod,Nat.mod_eq_of_lt U]
 have GI:d[i]! =x:=by
  rw[Array.getElem?_toList]at hx;rw[getElem!_def,hx]
 have HI:c<(enc x).length:=by rw[hk];exact U
 simp only[flatK,Array.toList_map,List.getElem?_map,Array.toList_range,List.getElem?_range ht,Option.map_some,h1,h2,GI];rw[List.getElem?_eq_getElem HI,getElem!_pos (enc x) c HI]
end
theorem Kw (ys:List Value)(cur:Array Value)(h:ys.length<=cur.size):(Go.Sort.putCells id 0 ys.toArray cur).toList.take ys.length=ys:=by
 apply List.ext_getElem?;intro t;rw[List.getElem?_take];split
 ·rename_i U;have hc:t<cur.size:=an
  rw[Array.getElem?_toList];unfold Go.Sort.putCells;rw[Array.getElem?_mapIdx,Array.getElem?_eq_getElem hc,Option.map_some,if_pos ⟨Nat.zero_le _,by simpa using U⟩,List.getElem?_eq_getElem U];simp[U]
 ·rename_i U;symm;rw[List.getElem?_eq_none_iff];omega
theorem Oj {B g n c:Nat} {e:TypeId} {sz:Nat} {xs U:List Value} {w w':World} (h:w.ownsRow B e sz (.slice (some ⟨g,0,none⟩) n c) n xs)(hl:U.length=n*sz)(hw:w'.heap[g]? =(w.heap[g]?).map (Go.Sort.onCells (Go.Sort.putCells id 0 U.toArray))):
  w'.ownsRow B e sz (.slice (some ⟨g,0,none⟩) n c) n U:=by
 refine⟨hl,?_⟩;rcases h.2 with⟨h0,_⟩|⟨g',cap,cur,hv,hb,hg,h1,h2,h3,h4⟩
 · cases h0
 ·cases hv;have hle:U.length<=cur.size:=by rw[hl,h3];exact Nat.mul_le_mul_right _ h1
  refine .inr ⟨g,c,Go.Sort.putCells id 0 U.toArray cur,rfl,hb,by rw[hw,hg];rfl,h1,h2,by simp[Go.Sort.putCells,h3],?_⟩;rw[<-hl];exact Kw U cur hle
section
variable {α:Type} [Inhabited α] {enc:α->List Value} {k:Nat} {w:World} {g m:Nat} {d:Array α} {os:Array Obj}
theorem Dj (U:g<w.heap.size):(sortWorldK enc k w g 0 m d os).heap[g]? =(w.heap[g]?).map (Go.Sort.onCells (Go.Sort.putCells id 0 (flatK enc k d))):=by
 unfold sortWorldK putRowK Go.Sort.putRow Go.Sort.mapBlock;rw[Go.Sort.heap_grow_old _ _ (cv U)];simp[Array.getElem?_modify,Go.Sort.ahead]
theorem oN:Mod (λj=>j=g) w (sortWorldK enc k w g 0 m d os):=by
 refine⟨rfl,rfl,rfl,?_,λj hj U=>?_⟩
 ·unfold sortWorldK putRowK Go.Sort.putRow Go.Sort.mapBlock;simp[Go.Sort.ahead]
 ·unfold sortWorldK putRowK Go.Sort.putRow Go.Sort.mapBlock;rw[Go.Sort.heap_grow_old _ _ (cv hj)];have:g≠j:=λe=>U e.symm
  simp[Array.getElem?_modify,Go.Sort.ahead,this]
theorem GA {e:TypeId} {n c:Nat} {xs:List Value} (h:w.ownsRow 0 e k (.slice (some ⟨g,0,none⟩) n c) n xs)(hx:(flatK enc k d).toList=xs):HoldsK enc k w g 0 d:=by
 rcases h.2 with⟨h0,_⟩|⟨g',cap,cur,hv,hb,hg,h1,h2,h3,h4⟩
 · cases h0
 ·cases hv;intro j U;have hlen:(flatK enc k d).size=n*k:=by rw[<-h.1,<-hx,Array.length_toList]
  have hc:j<cur.size:=by rw[h3];exact Nat.lt_of_lt_of_le (hlen▸U) (Nat.mul_le_mul_right _ h1)
  have hv2:cur[j]? =some ((flatK enc k d)[j]!):=by
   have h5:(cur.toList.take (n*k))[j]? =(flatK enc k d).toList[j]?:=by rw[h4,hx]
   rw[List.getElem?_take,if_pos (hlen▸U),Array.getElem?_toList,Array.getElem?_toList]at h5;rw[h5,getElem!_pos _ j U,Array.getElem?_eq_getElem U]
  constructor;· simp[World.cell?,hg,hv2]
  · simp[World.frozen?,hg]
end
noncomputable def nj {α:Type} (cf:α->α->Int)(l:List α):List α:=
 @dite _ (∃U:List α,U.Perm l/\U.Pairwise λa b=>¬cf b a<0) (Classical.propDecidable _) (λh=>h.choose) (λ_=>l)
theorem tH {α:Type} {cf:α->α->Int} {l U:List α} (hp:U.Perm l)(hs:U.Pairwise λa b=>¬cf b a<0)(ha:∀a∈l,∀b∈l,¬cf a b<0->¬cf b a<0->a=b):nj cf l=U:=by
 have h:∃U:List α,U.Perm l/\U.Pairwise λa b=>¬cf b a<0:=⟨U,hp,hs⟩
 unfold nj;rw[dif_pos h];have h2:=h.choose_spec;exact List.Perm.eq_of_pairwise (le:=λa b=>¬cf b a<0) (λa b h3 h4 h5 h6=>ha a (h2.1.mem_iff.1 h3) b (hp.mem_iff.1 h4) h6 h5) h2.2 hs (h2.1.trans hp.symm)
def rS (P:Program)(f:FuncId)(sz:Nat)(arg:List Value->Value):Prop:=
 ∀ (n:Nat) [Inhabited (Fin n)] (enc:Fin n->List Value) (U:Fin n->Fin n->Int) (g:FuncId) (cb:Array Value) (blk cap:Nat) (d:Array (Fin n)) (w:World),(∀x,(enc x).length=sz)->(∀x,∀v∈enc x,v.oneCell'=true)->Go.Sort.SWO (ltOf U)->
   (∀args w,(callFunc g args).run P w=.ok (.enter g args) w)->
   (∀(m:Nat) (os:Array Obj) (dk:Array (Fin n)),dk.size=d.size->∀x y,Calls P g (#[arg (enc x),arg (enc y)]++cb) (sortWorldK enc sz w blk 0 m dk os) λe w'=>e=.returned (.int .i64 (U x y))/\∃q os',w'=Go.Sort.grow ((sortWorldK enc sz w blk 0 m dk os).drewN q) os')->
   HoldsK enc sz w blk 0 d->blk<w.heap.size->d.size<4611686018427387904->
   Calls P f #[.slice (some ⟨blk,0,none⟩) d.size cap,.func (.func g) #[] cb] w λe w'=>e=.returned (.tuple #[])/\∃d' n os,Go.Sort.PermIn 0 d.size d d'/\Go.Sort.SortedIn (ltOf U) 0 d.size d'/\w'=sortWorldK enc sz w blk 0 n d' os
theorem fZ.mapF {α β:Type} {sz:Nat} {R:List Value->α->Prop} {U:List Value->β->Prop} (f:α->β)(hR:∀cs x,R cs x->U cs (f x)):∀{l:List α} {xs:List Value},fZ sz R xs l->fZ sz U xs (l.map f)
 |[],_,h=>h
 |_::_,_,⟨cs,rest,e1,e2,e3,e4⟩=>⟨cs,rest,e1,e2,hR cs _ e3,fZ.mapF f hR e4⟩
theorem Ol {α:Type} [Inhabited α] {d d':Array α} (h:Go.Sort.PermIn 0 d.size d d'):d'.toList.Perm d.toList:=by
 have U:=h.2.2;rwa [Array.extract_eq_self_of_le (by rw[h.1];exact Nat.le_refl _),Array.extract_eq_self_of_le (Nat.le_refl _)]at U
theorem sorted_in {α:Type} [Inhabited α] {lt:α->α->Bool} {d:Array α} {n:Nat} (hn:d.size=n)(h:Go.Sort.SortedIn lt 0 n d):d.toList.Pairwise λa b=>lt b a=false:=by
 rw[List.pairwise_iff_getElem];intro i j hi hj Ce;have eo:i<d.size:=by simpa using hi
 have U:j<d.size:=by simpa using hj
 have:=h i j (Nat.zero_le _) Ce (hn▸U);rw[getElem!_pos d j U,getElem!_pos d i eo]at this;simpa using this
theorem DM {α:Type} {P:Program} {f g:FuncId} {cb:Array Value} {e sz c:Nat} {arg:List Value->Value} {R:eO α} {l:List α} {p:Option Addr} {Φ:List Fact} (U:α->α->Int)
  (hS:rS P f sz arg) (JZ:∀(p:Option Addr) (cap:Nat) (fv:Value) (w:World),Calls P f #[.slice p 0 cap,fv] w λe w'=>e=.returned (.tuple #[])/\w'=w) (eg:∀args w,(callFunc g args).run P w=.ok (.enter g args) w)
  (JI:∀(cs yU:List Value) (x y:α) (F:eh) (W:World),(∀k,F k->k<W.heap.size)->(∀φ∈Φ,φ.p F W)->R.p F W cs x->R.p F W yU y->x∈l->y∈l->Calls P g (#[arg cs,arg yU]++cb) W λe w'=>e=.returned (.int .i64 (U x y))/\Mod (λ_=>False) W w')
  (h1:∀x∈l,¬U x x<0) (h2:∀x∈l,∀y∈l,∀z∈l,U x y<0->U y z<0->U x z<0) (h3:∀x∈l,∀y∈l,∀z∈l,¬U x y<0->¬U y z<0->¬U x z<0)
  (h4:∀x∈l,∀y∈l,¬U x y<0->¬U y x<0->x=y) (hlen:l.length<4611686018427387904):
  QB P f [.slice p l.length c,.func (.func g) #[] cb] Φ [.own e sz R (.slice p l.length c) l] λv bo Hr=>v=.tuple #[]/\bo=[]/\Hr=[.own e sz R (.slice p l.length c) (nj U l)]:=by
 intro F N w hF ec hH bq sQ;obtain⟨hblk,xs,fb,lX⟩:=hH 0 _ rfl;have hz:nj U []=([]:List α):=tH (List.Perm.refl _) List.Pairwise.nil (λa ha=>by simp at ha)
 have R8:l=[]->Calls P f #[.slice p l.length c,.func (.func g) #[] cb] w (rR ⟨w,λk=>∃i,i<1/\N i k,F⟩ λv bo Hr=>v=.tuple #[]/\bo=[]/\Hr=[.own e sz R (.slice p l.length c) (nj U l)]):=by
  rintro rfl;refine(JZ p c _ w).mono ?_;rintro e' w' ⟨rfl,rfl⟩;refine⟨_,[],_,rfl,⟨rfl,rfl,rfl⟩,F,N,hF,λ_ h=>h,λ_ h=>.inl h,λφ h=>(by cases h),λi x hx=>?_,λi k hi hk=>⟨(bq i k hi hk).1,.inr ⟨i,hi,hk⟩,(bq i k hi hk).2⟩,sQ,Mod.refl _ _⟩;rw[hz]at hx;exact hH i x hx
 rcases fb.2 with⟨h0,hn⟩|⟨g',cap,cur,hv,_,hg,hle,JH,qW,Wo⟩
 · exact R8 (List.eq_nil_of_length_eq_zero hn)
 ·cases hv;rcases Nat.eq_zero_or_pos l.length with hn|gJ;· exact R8 (List.eq_nil_of_length_eq_zero hn)
  ·have hN:N 0 g':=hblk g' rfl;have hgF:¬F g':=(bq 0 g' ax hN).2;have hgs:g'<w.heap.size:=(bq 0 g' ax hN).1
   haveI:Inhabited (Fin l.length):=⟨⟨0,gJ⟩⟩
   have Mb:∀i:Fin l.length,∃cs,cs.length=sz/\R.p F w cs l[i]/\∀j u,cs[j]? =some u->xs[i.val*sz+j]? =some u:=λi=>lX.at (List.getElem?_eq_getElem i.isLt)
   let enc:Fin l.length->List Value:=λi=>(Mb i).choose
   have Gu:∀i,(enc i).length=sz/\R.p F w (enc i) l[i]/\∀j u,(enc i)[j]? =some u->xs[i.val*sz+j]? =some u:=λi=>(Mb i).choose_spec
   clear_value enc
   let d:Array (Fin l.length):=(List.finRange l.length).toArray;have hd:d.size=l.length:=by simp[d]
   have NG:d.toList=List.finRange l.length:=by simp[d]
   clear_value d
   have hk:∀x,(enc x).length=sz:=λx=>(Gu x).1
   have YW:(flatK enc sz d).toList=xs:=by
     rw[sH hk,NG];refine(fZ.flat_iff enc (Q8A hk (by rw[fb.1];simp) λi x hx c hc=>?_)).symm
     have GI:x.val=i:=by
       obtain⟨h5,h6⟩:=List.getElem?_eq_some_iff.1 hx;rw[<-h6];simp
     have HI:c<(enc x).length:=by rw[hk];exact hc
     rw[List.getElem?_eq_getElem HI,<-GI];exact(Gu x).2.2 c _ (List.getElem?_eq_getElem HI)
   have fa:∀(m:Nat) (os:Array Obj) (dk:Array (Fin l.length)),fB F w (sortWorldK enc sz w g' 0 m dk os):=λm os dk k dy=>oN.block k (hF k dy) (λh=>hgF (h▸dy))
   have YS:=hS l.length enc (λi j=>U l[i] l[j]) g cb g' c d w hk (λx v hv=>R.one (Gu x).2.1 v hv)
     { irrefl:=λx=>decide_eq_false (h1 _ (List.getElem_mem x.isLt))
       trans:=λx y z q r=>decide_eq_true (h2 _ (List.getElem_mem x.isLt) _ (List.getElem_mem y.isLt) _ (List.getElem_mem z.isLt) (of_decide_eq_true q) (of_decide_eq_true r))
       ntrans:=λx y z q r=>decide_eq_false (h3 _ (List.getElem_mem x.isLt) _ (List.getElem_mem y.isLt) _ (List.getElem_mem z.isLt) (of_decide_eq_false q) (of_decide_eq_false r))} eg
     (fun m os dk hs x y=>(zv (JI (enc x) (enc y) l[x] l[y] F (sortWorldK enc sz w g' 0 m dk os) (λk dy=>Nat.lt_of_lt_of_le (hF k dy) oN.size) (λφ bj=>φ.good (λ_ h=>h) (fa m os dk) (ec φ bj)) (R.good (λ_ h=>h) (fa m os dk) (Gu x).2.1) (R.good (λ_ h=>h) (fa m os dk) (Gu y).2.1) (List.getElem_mem x.isLt) (List.getElem_mem y.isLt))).mono
       λ_ _ ⟨⟨he,hm⟩,hdr⟩=>⟨he,grown_of hm (hdr _ he)⟩)
     (GA fb YW) hgs (by rw[hd];exact hlen)
   rw[hd]at YS;refine YS.mono ?_;rintro e' w' ⟨rfl,d',m,os,hp,hs,rfl⟩;have PK:d'.size=l.length:=by rw[hp.1];exact hd
   have pJ:(d'.toList.map λi=>l[i]).Perm l:=by
     have h5:=(Ol (d:=d) (d':=d') (by rw[hd];exact hp)).map (λi:Fin l.length=>l[i]);rw[NG]at h5
     have h6:(List.finRange l.length).map (λi=>l[i])=l:=by
       apply List.ext_getElem ax;intro i h7 h8;simp
     rwa [h6]at h5
   have Aa:(d'.toList.map λi=>l[i]).Pairwise λa b=>¬U b a<0:=by
     rw[List.pairwise_map];exact(sorted_in PK hs).imp λh=>of_decide_eq_false h
   have hL:nj U l=d'.toList.map λi=>l[i]:=tH pJ Aa h4;have hm:Mod (λj=>j=g') w (sortWorldK enc sz w g' 0 m d' os):=oN;refine⟨_,[],_,rfl,⟨rfl,rfl,rfl⟩,F,N,λk h=>Nat.lt_of_lt_of_le (hF k h) hm.size,λ_ h=>h,λ_ h=>.inl h,λφ h=>(by cases h),λi x hx=>?_,λi k hi hk=>⟨Nat.lt_of_lt_of_le (bq i k (cv hi) hk).1 hm.size,.inr ⟨i,by simpa using hi,hk⟩,(bq i k (cv hi) hk).2⟩,λi j k hi hj=>sQ i j k (cv hi) (cv hj),hm.mono λk _ h=>⟨0,ax,h▸hN⟩⟩;cases i with
   |succ i=>simp at hx
   | zero=>
     simp only[List.getElem?_cons_zero,Option.some.injEq]at hx;subst hx;refine⟨hblk,(flatK enc sz d').toList,?_,?_⟩
     · have hll:(nj U l).length=l.length:=by rw[hL,List.length_map,Array.length_toList,PK]
       rw[hll];exact Oj fb (by simp[PK]) (by rw[Dj hgs])
     · rw[hL,sH hk];refine(fZ.flat enc hk d'.toList).mapF (λi=>l[i]) λcs i h=>?_
       subst h;exact R.good (λ_ h=>h) (fa m os d') (Gu i).2.1
end
section
open Go Go.RowKit Go.Shelf
open Go.Sort (flatK putRowK HoldsK)
variable {P:Program} {ρ:Ren}
def Ps (cs:List Value):Value:=.agg cs.toArray
theorem Oy (L:SlLaysF0.n6 P ρ)(k:Nat)(aE:∀w,(isAgg (ρ.t 24)).run P w=.ok true w)(zE:∀w,(Go.sizeOf (ρ.t 24)).run P w=.ok k w):rS P (ρ.f 6) k Ps:=
 λ_ _ enc cf g cb blk cap d w hk h1 hO eg U hH hblk jd=>AnyQ.slices_SortFunc L k aE zE enc hk h1 cf hO g cb blk 0 cap d w eg (λm os dk hs x y=>U m os dk hs x y) hH hblk jd
end
section
open Go Go.RowKit Go.Shelf
section
variable {α:Type}
def C9 (U:α->α->Option Int)(x y:α):Int:=(U x y).getD 0
structure xh (cm:α->α->Option Int) (l:List α):Prop where
 some:∀x∈l,∀y∈l,∃z,cm x y=some z
 irrefl:∀x∈l,¬C9 cm x x<0
 trans:∀x∈l,∀y∈l,∀z∈l,C9 cm x y<0->C9 cm y z<0->C9 cm x z<0
 ntrans:∀x∈l,∀y∈l,∀z∈l,¬C9 cm x y<0->¬C9 cm y z<0->¬C9 cm x z<0
 parts:∀x∈l,∀y∈l,¬C9 cm x y<0->¬C9 cm y x<0->x=y
 len:l.length<4611686018427387904
noncomputable def pQ (U:α->α->Option Int)(l:List α):Option (List α):=
 @ite _ (xh U l) (Classical.propDecidable _) (some (nj (C9 U) l)) none
theorem KP {U:α->α->Option Int} {l l':List α} (h:pQ U l=some l'):xh U l/\nj (C9 U) l=l':=by
 unfold pQ at h;by_cases hk:xh U l
 ·rw[if_pos hk]at h;exact⟨hk,Option.some.inj h⟩
 ·rw[if_neg hk]at h;cases h
theorem KO {U:α->α->Option Int} {l l':List α} (h:xh U l)(hp:l'.Perm l)(hs:l'.Pairwise λa b=>¬C9 U b a<0):pQ U l=some l':=by
 unfold pQ;rw[if_pos h,tH hp hs h.parts]
theorem DN {P:Program} {f g:FuncId} {cb:Array Value} {e sz c:Nat} {arg:List Value->Value} {R:eO α} {l l':List α} {p:Option Addr} {Φ:List Fact} {U:α->α->Option Int}
  (hS:rS P f sz arg) (JZ:∀(p:Option Addr) (cap:Nat) (fv:Value) (w:World),Calls P f #[.slice p 0 cap,fv] w λe w'=>e=.returned (.tuple #[])/\w'=w) (eg:∀args w,(callFunc g args).run P w=.ok (.enter g args) w)
  (JI:∀(cs yU:List Value) (x y:α) (z:Int) (F:eh) (W:World),(∀k,F k->k<W.heap.size)->(∀φ∈Φ,φ.p F W)->R.p F W cs x->R.p F W yU y->U x y=some z->Calls P g (#[arg cs,arg yU]++cb) W λe w'=>e=.returned (.int .i64 z)/\Mod (λ_=>False) W w')
  (hm:pQ U l=some l'):
  QB P f [.slice p l.length c,.func (.func g) #[] cb] Φ [.own e sz R (.slice p l.length c) l] λv bo Hr=>v=.tuple #[]/\bo=[]/\Hr=[.own e sz R (.slice p l.length c) l']:=by
 obtain⟨hk,rfl⟩:=KP hm;refine DM (C9 U) hS JZ eg (λcs yU x y F W h1 h2 h3 h4 h5 h6=>?_) hk.irrefl hk.trans hk.ntrans hk.parts hk.len;obtain⟨z,hz⟩:=hk.some x h5 y h6;have:C9 U x y=z:=by unfold C9;rw[hz];rfl
 rw[this];exact JI cs yU x y z F W h1 h2 h3 h4 hz
theorem IC {P:Program} {g:FuncId} {args:List Value} {Φ:List Fact} {v:Value} {F:eh} {W:World} (h:QB P g args Φ [] (λu bo Hr=>u=v/\bo=[]/\Hr=[]))(hF:∀k,F k->k<W.heap.size)(ec:∀φ∈Φ,φ.p F W):
  Calls P g args.toArray W λe w'=>e=.returned v/\Mod (λ_=>False) W w':=
 tI h λφ U=>φ.good hF (fB.refl _ _) (ec φ U)
theorem DO {Λ:Type} {P:Program} {f g:FuncId} {cb:Array Value} {e sz c:Nat} {arg:List Value->Value} {R:eO α} {C:α->Λ->List Value} {Fx:α->Λ->List Fact} {l l':List α} {p:Option Addr} {Φ:List Fact} {cm:α->α->Option Int}
  (jc:qg R C (λ_ _=>True) Fx) (hS:rS P f sz arg) (JZ:∀(p:Option Addr) (cap:Nat) (fv:Value) (w:World),Calls P f #[.slice p 0 cap,fv] w λe w'=>e=.returned (.tuple #[])/\w'=w) (eg:∀args w,(callFunc g args).run P w=.ok (.enter g args) w)
  (hc:∀x y r r' z,cm x y=some z->QB P g ([arg (C x r),arg (C y r')]++cb.toList) (Fx x r++(Fx y r'++Φ)) [] λv bo Hr=>v=.int .i64 z/\bo=[]/\Hr=[])
  (hm:pQ cm l=some l'):
  QB P f [.slice p l.length c,.func (.func g) #[] cb] Φ [.own e sz R (.slice p l.length c) l] λv bo Hr=>v=.tuple #[]/\bo=[]/\Hr=[.own e sz R (.slice p l.length c) l']:=by
 refine DN hS JZ eg (λcs yU x y z F W hF ec h1 h2 hz=>?_) hm;obtain⟨r,rfl,_,q1⟩:=jc _ _ _ _ h1;obtain⟨r',rfl,_,q2⟩:=jc _ _ _ _ h2
 have h3:=IC (W:=W) (hc x y r r' z hz) hF (λφ U=>by
  rcases List.mem_append.1 U with U|U;· exact q1 φ U
  ·rcases List.mem_append.1 U with U|U;· exact q2 φ U
   · exact ec φ U)
 have e:#[arg (C x r),arg (C y r')]++cb=([arg (C x r),arg (C y r')]++cb.toList).toArray:=by apply Array.ext';simp
 rw[<-e]at h3;exact h3
end
end
section
open Go Go.RowKit Go.Shelf
theorem UF:rS Tryz.prog 66 2 Ps:=Oy Tryz.sort66 2 (tO au) (yM au)
theorem H7 (p:Option Addr)(cap:Nat)(U:Value)(w:World):Calls Tryz.prog 66 #[.slice p 0 cap,U] w λe w'=>e=.returned (.tuple #[])/\w'=w:=AnyF.slices_SortFunc_none (P:=Tryz.prog) (ρ:=Tryz.sort66_ren) {Tryz.sort66 with} p cap U w
end
end Go.Proofs.YtocfkfhdcnjklaaGreatDoor
