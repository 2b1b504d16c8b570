import Derived.Test.YtbgodclhmgmcgaaGreatDoorAb
import Derived.Test.YtbgodclhmgmcgaaGreatDoorPan
import Derived.Test.YtbgodclhmgmcgaaGreatDoorStar
namespace Go.Proofs.YtbgodclhmgmcgaaGreatDoor
open Go Go.RowKit
abbrev R0 (a:Value) (b c:List Fact):Value→List Fact→List Fact→Prop:=fun v p q=>v=a∧p=b∧q=c
theorem zs {α:Type} {a b : α} (h:some a=some b):b=a:=(Option.some.inj h).symm
theorem kn {p:Prop} {α β:Type} {m:Option α} {k : α→Option β} {b : β} (h:Qa m k=some b)(next : ∀ x,m=some x→k x=some b→p):p:=by
 obtain ⟨a,h1,h2⟩:=Qy h
 exact next a h1 h2
theorem kg {p c:Prop} [Decidable c] {α:Type} {m:Option α} {b : α} (h:gd c m=some b)(next:c→m=some b→p):p:=(gd_some h).elim next
theorem ks {p:Prop} {σ O:Type} {X:Option (σ⊕O)} {Y : σ→Option O} {b:O} (h:Q1x X Y=some b)(next : ∀ x,X=some x→linkS Y x b→p):p:=by
 obtain ⟨a,h1,h2⟩:=bindS_some h
 exact next a h1 h2
section
variable {P:Program} {C:Ctx} {n:FD} {Q:Exit → Act → World → Prop} {Φ Φ' : List Fact} {H H' : List Fact} {S S' : List (Nat × Value)} {ops:Array Oper} {rest:List Oper} {o:Oper} {d:Nat} {c x y:Code}
theorem Qi {v v' : Value} (h:v=v')(next:WL P C n Q Φ H ((d,v') :: S) ops rest):WL P C n Q Φ H ((d,v) :: S) ops rest:=by subst h;exact next
theorem Qs {o:Operand} {α:Type} {t:Bool} {m1 m2 r : α} (hm:(if t=true then m1 else m2)=r)(hc:evS S o=some (.bool t))(ht:m1=r→WC P C n Q Φ H S x)(hf:m2=r→WC P C n Q Φ H S y):WC P C n Q Φ H S (.cond o x y) :=
 wc_cond hc (fun h=>ht (iteT hm h)) (fun h=>hf (iteF hm h))
theorem wl_sB {α:Type} {t:Bool} {m1 m2 r : α} (hm:(if t=true then m1 else m2)=r)(ht:t=true→m1=r→WL P C n Q Φ H ((d,.bool true) :: S) ops rest)(hf:t=false→m2=r→WL P C n Q Φ H ((d,.bool false) :: S) ops rest):WL P C n Q Φ H ((d,.bool t) :: S) ops rest:=by
 cases t
 · exact hf rfl (iteF hm rfl)
 · exact ht rfl (iteT hm rfl)
theorem QE {α:Type} {t:Bool} {m1 m2 r : α} (hm:(if t=true then m1 else m2)=r)(ht:m1=r→WL P C n Q Φ H ((d,.bool true) :: S) ops rest)(hf:m2=r→WL P C n Q Φ H ((d,.bool false) :: S) ops rest):WL P C n Q Φ H ((d,.bool t) :: S) ops rest:=wl_sB hm (fun _=>ht) (fun _=>hf)
private theorem p4.{u,v} {α:Type u} {β:Type v} {a a' : α} {b b' : β} (h:(a,b)=(a',b')):a=a' ∧b=b':=by cases h;exact ⟨rfl,rfl⟩
theorem wP2 {o2:Oper} {d2:Nat} {v v2:Value} (h:((Q18 ops S o,o.dst,Nat.blt d n,Q8J d S,Q8T S o.op),(Q18 ops ((d,v) :: S) o2,o2.dst,Nat.blt d2 n,Q8J d2 ((d,v) :: S),Q8T ((d,v) :: S) o2.op))=((some true,some d,true,true,some v),(some true,some d2,true,true,some v2)))
  (next:WL P C n Q Φ H ((d2,v2) :: (d,v) :: S) ops rest):WL P C n Q Φ H S ops (o :: o2 :: rest):=by
 obtain ⟨h1,h2⟩:=p4 h
 exact wP h1 (wP h2 next)
theorem wO2 {o2:Oper} {d2:Nat} (h:((Q18 ops S o,o.dst,Nat.blt d n,Q8J d S),(Q18 ops ((d,undef) :: S) o2,o2.dst,Nat.blt d2 n,Q8J d2 ((d,undef) :: S)))=((some false,some d,true,true),(some false,some d2,true,true)))
  (next:WL P C n Q Φ H ((d2,undef) :: (d,undef) :: S) ops rest):WL P C n Q Φ H S ops (o :: o2 :: rest):=by
 obtain ⟨h1,h2⟩:=p4 h
 exact wO h1 (wO h2 next)
theorem wO4 {o2 o3 o4:Oper} {d2 d3 d4:Nat} (h:(((Q18 ops S o,o.dst,Nat.blt d n,Q8J d S),(Q18 ops ((d,undef) :: S) o2,o2.dst,Nat.blt d2 n,Q8J d2 ((d,undef) :: S))),((Q18 ops ((d2,undef) :: (d,undef) :: S) o3,o3.dst,Nat.blt d3 n,Q8J d3 ((d2,undef) :: (d,undef) :: S)),(Q18 ops ((d3,undef) :: (d2,undef) :: (d,undef) :: S) o4,o4.dst,Nat.blt d4 n,Q8J d4 ((d3,undef) :: (d2,undef) :: (d,undef) :: S))))=(((some false,some d,true,true),(some false,some d2,true,true)),((some false,some d3,true,true),(some false,some d4,true,true))))
  (next:WL P C n Q Φ H ((d4,undef) :: (d3,undef) :: (d2,undef) :: (d,undef) :: S) ops rest):WL P C n Q Φ H S ops (o :: o2 :: o3 :: o4 :: rest):=by
 obtain ⟨h1,h2⟩:=p4 h
 exact wO2 h1 (wO2 h2 next)
def SpecQ (P:Program)(f:FuncId)(args:List Value)(Φ Hin:List Fact)(K:Ctx→Ending→World→Prop):Prop :=
 ∀ (F:Q1O) (N:Nat → Q1O) (w:World),(∀ k,F k → k < w.heap.size) → (∀ φ ∈ Φ,φ.p F w) → (∀ (i:Nat) (h:Fact),Hin[i]? = some h → h.op (N i) F w) →
   (∀ i k,i < Hin.length→N i k→k < w.heap.size∧¬ F k)→(∀ i j k,i < Hin.length→j < Hin.length→i≠j→N i k→¬ N j k)→
   Calls P f args.toArray w (K ⟨w,fun k=>∃ i,i < Hin.length∧N i k,F⟩)
def RQ {A:Type} (K:A→Value→List Fact→List Fact→Prop)(u:Value):A⊕Unit→Ctx→Ending→World→Prop
 | .inl x,C=>Ret C (K x)
 | .inr _,C=>RetX C u
theorem sqL {P:Program} {f:FuncId} {args:List Value} {Φ Hin:List Fact} {A:Type} {K:A→Value→List Fact→List Fact→Prop} {u:Value} {o:A} (h:SpecQ P f args Φ Hin (RQ K u (.inl o))):QY P f args Φ Hin (K o):=h
theorem sqR {P:Program} {f:FuncId} {args:List Value} {Φ Hin:List Fact} {A:Type} {K:A→Value→List Fact→List Fact→Prop} {u:Value} (h:SpecQ P f args Φ Hin (RQ K u (.inr ()))):SpecX P f args Φ Hin u:=h
theorem spec_ofQ {P:Program} {f:FuncId} {fn:Func} {body:Code} {n:Nat} {args:List Value} {S:List (Nat×Value)} {Φ Hin:List Fact} {K:Ctx→Ending→World→Prop}
  (hf:P.funcs[f]? =some fn) (hb:fn.body=some body) (hn:fn.ntmps=n) (hle:Nat.ble args.length n=true) (hS:zipS 0 args=S) (h : ∀ C,WC P C ⟨n,[]⟩ (bodyPost P fn (K C)) Φ Hin S body):SpecQ P f args Φ Hin K:=by
 intro F N w hF hΦ hH hlt hap
 refine calls_of_wp hf hb (h ⟨w,fun k=>∃ i,i < Hin.length∧N i k,F⟩ _ w ⟨?_,rfl,?_⟩ ⟨F,N,hF,fun _ h=>h,fun _ h=>.inl h,hΦ,hH,fun i k hi hk=>⟨(hlt i k hi hk).1,.inr ⟨i,hi,hk⟩,(hlt i k hi hk).2⟩,hap,Mod.refl _ _⟩)
 ·have:=Nat.le_of_ble_eq_true hle
  simp [hn];try omega
 ·intro x hx
  rw [← hS] at hx
  obtain ⟨_,h2⟩:=zipS_mem hx
  rw [Nat.sub_zero] at h2
  have hl:=(List.getElem?_eq_some_iff.1 h2).1
  rw [Array.getElem?_append_left (by simpa using hl)]
  simpa using h2
theorem wM {t b tb sz:Nat} {x:Operand} {g:Bool} {all:List Value} {v:Value} (k j:Nat)(cs:List Value)(h:(Q18 ops S o,o.dst,Nat.blt d n,Q8J d S,o.op,H[k]?,evS S x,(all.drop j).take sz)=(some true,some d,true,true,.load t x,some (.blk b all tb),some (.pointer (some ⟨b,j,none⟩)),cs))
  (hs:Q1m P t=some sz) (ha:Q58 P t=some g) (hv:(cs.length,Q8V g cs)=(sz,some v)) (next:WL P C n Q Φ H ((d,v) :: S) ops rest):WL P C n Q Φ H S ops (o :: rest):=by
 obtain ⟨h1,h⟩:=p4 h;obtain ⟨h2,h⟩:=p4 h;obtain ⟨h3,h⟩:=p4 h;obtain ⟨h4,h⟩:=p4 h;obtain ⟨h5,h⟩:=p4 h;obtain ⟨h6,h⟩:=p4 h;obtain ⟨h7,h8⟩:=p4 h
 obtain ⟨g1,g2⟩:=p4 hv
 exact wl_loadH k j h1 h2 h3 (Q1 h4) h5 h6 h7 h8 hs ha g1 g2 next
def JP {σ β:Type} (b : β)(K : σ→β×List (Nat×Value)×List Fact×List Fact)(C:Ctx)(n:FD):Act→World→Prop:=fun a w=>∃ s,StAt (fun s=>b=(K s).1) (fun s=>(K s).2.1) (fun s=>(K s).2.2.1) (fun s=>(K s).2.2.2) C n s a w
theorem cut {σ β:Type} (b : β)(K : σ→β×List (Nat×Value)×List Fact×List Fact)(hx:WC P C n (Exit.then (JP b K C n) Q) Φ H S x)(hy : ∀ s,b=(K s).1→WC P C n Q (K s).2.2.1 (K s).2.2.2 (K s).2.1 y):WC P C n (Exit.then (fun a w=>y.wp P Q a w) Q) Φ H S x :=
 wc_cut _ _ _ _ hx hy
theorem jn {σ β:Type} {b : β} {K : σ→β×List (Nat×Value)×List Fact×List Fact} (s : σ)(h:b=(K s).1)(l l2:List Nat)(h2:(Q5d l S,Q1d Φ l2,H)=(K s).2):WE C n (Exit.then (JP b K C n) Q) Φ H S .normal:=by
 have h3:Q5d l S=(K s).2.1:=congrArg (·.1) h2
 have h4:Q1d Φ l2=(K s).2.2.1:=congrArg (·.2.1) h2
 have h5:H=(K s).2.2.2:=congrArg (·.2.2) h2
 exact Qbo s h l h3 (asK l2 h4) h5
theorem jM {σ β:Type} {b : β} {K : σ→β×List (Nat×Value)×List Fact×List Fact} (s : σ)(hm:some (K s).1=some b)(l l2:List Nat)(h2:(Q5d l S,Q1d Φ l2,H)=(K s).2):WE C n (Exit.then (JP b K C n) Q) Φ H S .normal:=jn s (zs hm) l l2 h2
def LP {σ τ O:Type} (f : τ→Option (τ⊕O))(b:O)(K : σ→τ×List (Nat×Value)×List Fact×List Fact)(m:Nat)(C:Ctx)(n:FD):Act→World→Prop:=fun a w=>∃ s:Nat×σ,s.1 < m+1∧StAt (fun s:Nat×σ=>Q1e f s.1 (K s.2).1=some b) (fun s=>(K s.2).2.1) (fun s=>(K s.2).2.2.1) (fun s=>(K s.2).2.2.2) C n s a w
theorem lop {σ τ O:Type} (f : τ→Option (τ⊕O)) {N:Nat} {b:O} (K : σ→τ×List (Nat×Value)×List Fact×List Fact)(s0 : σ)(hm:Q1e f N (K s0).1=some b)(l l2:List Nat)(h2:(Q5d l S,Q1d Φ l2,H)=(K s0).2)
  (round : ∀ s m v,f (K s).1=some v→linkS (Q1e f m) v b→WC P C n (Exit.then (LP f b K m C n) Q) (K s).2.2.1 (K s).2.2.2 (K s).2.1 c):WC P C n Q Φ H S (.loop c):=by
 have h3:Q5d l S=(K s0).2.1:=congrArg (·.1) h2
 have h4:Q1d Φ l2=(K s0).2.2.1:=congrArg (·.2.1) h2
 have h5:H=(K s0).2.2.2:=congrArg (·.2.2) h2
 refine wc_loop (σ:=Nat×σ) (fun s=>Q1e f s.1 (K s.2).1=some b) (fun s=>s.1) (fun s=>(K s.2).2.1) (fun s=>(K s.2).2.2.1) (fun s=>(K s.2).2.2.2) (N,s0) hm l h3 (asK l2 h4) h5 ?_
 rintro ⟨k,s⟩ hs
 obtain ⟨m,v,rfl,h6,h7⟩:=iter_some hs
 exact round s m v h6 h7
theorem rnd {σ τ O:Type} {f : τ→Option (τ⊕O)} {b:O} {K : σ→τ×List (Nat×Value)×List Fact×List Fact} {m:Nat} (s : σ)(h:Q1e f m (K s).1=some b)(l l2:List Nat)(h2:(Q5d l S,Q1d Φ l2,H)=(K s).2):WE C n (Exit.then (LP f b K m C n) Q) Φ H S .normal:=by
 have h3:Q5d l S=(K s).2.1:=congrArg (·.1) h2
 have h4:Q1d Φ l2=(K s).2.2.1:=congrArg (·.2.1) h2
 have h5:H=(K s).2.2.2:=congrArg (·.2.2) h2
 exact we_roundK (μ:=fun s:Nat×σ=>s.1) (m,s) (Nat.lt_succ_self _) h l h3 (asK l2 h4) h5
def isEnd:Exit→Bool
 | .ret=>true
 | .normal=>true
 | _=>false
theorem isEnd_or {e:Exit} (h:isEnd e=true):e=.ret∨e=.normal:=by cases e <;> simp_all [isEnd]
private theorem p6.{u,v} {α:Type u} {β:Type v} {a a' : α} {b b' : β} (h:(a,b)=(a',b')):a=a' ∧b=b':=by cases h;exact ⟨rfl,rfl⟩
theorem re1 {fn:Func} {m:Nat} {R:Value→List Fact→List Fact→Prop} {v:Value} {Φr Hr:List Fact} {t:Nat} {e:Exit} (l l2:List Nat)(hres:fn.results=#[.tmp t])(h1:look S t=some v)(hR:R v Φr Hr)(h:(Q1d Φ l2,Q2o l H.length,Q1d H l,isEnd e)=(Φr,true,Hr,true)):WE C ⟨m,[]⟩ (bodyPost P fn (Ret C R)) Φ H S e:=by
 obtain ⟨g1,h⟩:=p6 h;obtain ⟨g2,h⟩:=p6 h;obtain ⟨g3,g4⟩:=p6 h
 exact Q2p l hres (Q1w h1) hR (asK l2 g1) g2 g3 (isEnd_or g4)
theorem re2 {fn:Func} {m:Nat} {R:Value→List Fact→List Fact→Prop} {v u:Value} {Φr Hr:List Fact} {t t' : Nat} {e:Exit} (l l2:List Nat)(hres:fn.results=#[.tmp t,.tmp t'])(h1:(look S t,look S t')=(some v,some u))(hR:R (.tuple #[v,u]) Φr Hr)(h:(Q1d Φ l2,Q2o l H.length,Q1d H l,isEnd e)=(Φr,true,Hr,true)):WE C ⟨m,[]⟩ (bodyPost P fn (Ret C R)) Φ H S e:=by
 obtain ⟨g1,h⟩:=p6 h;obtain ⟨g2,h⟩:=p6 h;obtain ⟨g3,g4⟩:=p6 h;obtain ⟨g5,g6⟩:=p6 h1
 exact Q1P l hres (Q1w g5) (Q1w g6) hR (asK l2 g1) g2 g3 (isEnd_or g4)
theorem re0 {fn:Func} {m:Nat} {R:Value→List Fact→List Fact→Prop} {Φr Hr:List Fact} {e:Exit} (l l2:List Nat)(hres:fn.results=#[])(hR:R (.tuple #[]) Φr Hr)(h:(Q1d Φ l2,Q2o l H.length,Q1d H l,isEnd e)=(Φr,true,Hr,true)):WE C ⟨m,[]⟩ (bodyPost P fn (Ret C R)) Φ H S e:=by
 obtain ⟨g1,h⟩:=p6 h;obtain ⟨g2,h⟩:=p6 h;obtain ⟨g3,g4⟩:=p6 h
 exact ret_none l hres hR (asK l2 g1) g2 g3 (isEnd_or g4)
theorem wI {α:Type} {t e sz:Nat} {x i:Operand} {R:Rep α} {p:Option Addr} {cp:Nat} {l:List α} {ik:IntKind} {u : α} (k j:Nat)(h:(Q18 ops S o,o.dst,Nat.blt d n,Q8J d S,o.op,Φ[k]?,evS S x,evS S i)=(some true,some d,true,true,.indexAddr t x i,some (.sli sz R p cp l),some (.slice p l.length cp),some (.int ik (j:Int))))(hu:l[j]? =some u)(he:Q2d P t=some e)(hs:Q1m P e=some sz)
  (next : ∀ b q cs,cs.length=sz→WL P C n Q (.cells b q cs :: .rep R cs u :: Φ) H ((d,.pointer (some ⟨b,q,none⟩)) :: S) ops rest):WL P C n Q Φ H S ops (o :: rest):=by
 obtain ⟨h1,h⟩:=p6 h;obtain ⟨h2,h⟩:=p6 h;obtain ⟨h3,h⟩:=p6 h;obtain ⟨h4,h⟩:=p6 h;obtain ⟨h5,h⟩:=p6 h;obtain ⟨h6,h⟩:=p6 h;obtain ⟨h7,h8⟩:=p6 h
 exact Qbv k j h1 h2 h3 (Q1 h4) h5 h6 h7 h8 rfl hu he hs next
theorem wLd {t sz b q:Nat} {x:Operand} {g:Bool} {all:List Value} {v:Value} (k j:Nat)(cs:List Value)(h:(Q18 ops S o,o.dst,Nat.blt d n,Q8J d S,o.op,Φ[k]?,evS S x,(all.drop j).take sz)=(some true,some d,true,true,.load t x,some (.cells b q all),some (.pointer (some ⟨b,q+j,none⟩)),cs))
  (hs:Q1m P t=some sz) (ha:Q58 P t=some g) (hv:(cs.length,Q8V g cs)=(sz,some v)) (next:WL P C n Q Φ H ((d,v) :: S) ops rest):WL P C n Q Φ H S ops (o :: rest):=by
 obtain ⟨h1,h⟩:=p6 h;obtain ⟨h2,h⟩:=p6 h;obtain ⟨h3,h⟩:=p6 h;obtain ⟨h4,h⟩:=p6 h;obtain ⟨h5,h⟩:=p6 h;obtain ⟨h6,h⟩:=p6 h;obtain ⟨h7,h8⟩:=p6 h
 obtain ⟨g1,g2⟩:=p6 hv
 exact wl_load k j h1 h2 h3 (Q1 h4) h5 h6 h7 h8 hs ha g1 g2 next
theorem Nlt (a b:Nat):Value.bool (decide ((a:Int) < (b:Int)))=.bool (decide (a < b)):=natlt
theorem Nle (a b:Nat):Value.bool (decide ((a:Int)≤(b:Int)))=.bool (decide (a≤b)):=natle
theorem Ngt (a b:Nat):Value.bool (decide ((a:Int) > (b:Int)))=.bool (decide (b < a)):=natgt
theorem Nge (a b:Nat):Value.bool (decide ((a:Int) ≥ (b:Int)))=.bool (decide (b≤a)):=natge
theorem Neq (a b:Nat):Value.bool ((a:Int)==(b:Int))=.bool (a==b):=nateq
theorem Nne (a b:Nat):Value.bool ((a:Int) !=(b:Int))=.bool (a !=b):=natne
theorem sq {id:Nat} {l:List Oper} (h:WL P C n (Exit.then (fun a w=>y.wp P Q a w) Q) Φ H S l.toArray l):WC P C n Q Φ H S (.seq (.region id l.toArray false) y):=Q5 (Qe h)
theorem nt (h:WC P C n Q Φ H S y):WL P C n (Exit.then (fun a w=>y.wp P Q a w) Q) Φ H S ops []:=Q2 (Qv h)
theorem kt (h:WC P C n Q Φ H S y):WC P C n (Exit.then (fun a w=>y.wp P Q a w) Q) Φ H S .skip:=QT (Qv h)
theorem nr (h:WE C n Q Φ H S .ret):WL P C n (Exit.then (fun a w=>Code.ret.wp P Q a w) Q) Φ H S ops []:=Q2 (Qv (Qm h))
theorem rb {id:Nat} {K:Act→World→Prop} (h:WE C n Q Φ H S .ret):WE C n (Exit.then K (Exit.inBlock id Q)) Φ H S .ret:=Q3 (Qg h)
theorem k0 (h:Q5d [] S=[])(y:WC P C n Q Φ H [] c):WC P C n Q Φ H S c:=Q5r _ h y
theorem k1 (a:Nat) {A:Nat×Value} (h:Q5d [a] S=[A])(y:WC P C n Q Φ H [A] c):WC P C n Q Φ H S c:=Q5r _ h y
theorem nk1 (a:Nat) {A:Nat×Value} (h:Q5d [a] S=[A])(x:WC P C n Q Φ H [A] y):WL P C n (Exit.then (fun a w=>y.wp P Q a w) Q) Φ H S ops []:=nt (Q5r _ h x)
theorem k2 (a b:Nat) {A B:Nat×Value} (h:Q5d [a,b] S=[A,B])(y:WC P C n Q Φ H [A,B] c):WC P C n Q Φ H S c:=Q5r _ h y
theorem nk2 (a b:Nat) {A B:Nat×Value} (h:Q5d [a,b] S=[A,B])(x:WC P C n Q Φ H [A,B] y):WL P C n (Exit.then (fun a w=>y.wp P Q a w) Q) Φ H S ops []:=nt (Q5r _ h x)
theorem k3 (a b e:Nat) {A B D:Nat×Value} (h:Q5d [a,b,e] S=[A,B,D])(y:WC P C n Q Φ H [A,B,D] c):WC P C n Q Φ H S c:=Q5r _ h y
theorem nk3 (a b e:Nat) {A B D:Nat×Value} (h:Q5d [a,b,e] S=[A,B,D])(x:WC P C n Q Φ H [A,B,D] y):WL P C n (Exit.then (fun a w=>y.wp P Q a w) Q) Φ H S ops []:=nt (Q5r _ h x)
theorem k4 (a b e f:Nat) {A B D E:Nat×Value} (h:Q5d [a,b,e,f] S=[A,B,D,E])(y:WC P C n Q Φ H [A,B,D,E] c):WC P C n Q Φ H S c:=Q5r _ h y
theorem nk4 (a b e f:Nat) {A B D E:Nat×Value} (h:Q5d [a,b,e,f] S=[A,B,D,E])(x:WC P C n Q Φ H [A,B,D,E] y):WL P C n (Exit.then (fun a w=>y.wp P Q a w) Q) Φ H S ops []:=nt (Q5r _ h x)
theorem k5 (a b e f g:Nat) {A B D E F:Nat×Value} (h:Q5d [a,b,e,f,g] S=[A,B,D,E,F])(y:WC P C n Q Φ H [A,B,D,E,F] c):WC P C n Q Φ H S c:=Q5r _ h y
theorem nk5 (a b e f g:Nat) {A B D E F:Nat×Value} (h:Q5d [a,b,e,f,g] S=[A,B,D,E,F])(x:WC P C n Q Φ H [A,B,D,E,F] y):WL P C n (Exit.then (fun a w=>y.wp P Q a w) Q) Φ H S ops []:=nt (Q5r _ h x)
theorem k6 (a b e f g i:Nat) {A B D E F G:Nat×Value} (h:Q5d [a,b,e,f,g,i] S=[A,B,D,E,F,G])(y:WC P C n Q Φ H [A,B,D,E,F,G] c):WC P C n Q Φ H S c:=Q5r _ h y
theorem nk6 (a b e f g i:Nat) {A B D E F G:Nat×Value} (h:Q5d [a,b,e,f,g,i] S=[A,B,D,E,F,G])(x:WC P C n Q Φ H [A,B,D,E,F,G] y):WL P C n (Exit.then (fun a w=>y.wp P Q a w) Q) Φ H S ops []:=nt (Q5r _ h x)
theorem k7 (a b e f g i j:Nat) {A B D E F G I:Nat×Value} (h:Q5d [a,b,e,f,g,i,j] S=[A,B,D,E,F,G,I])(y:WC P C n Q Φ H [A,B,D,E,F,G,I] c):WC P C n Q Φ H S c:=Q5r _ h y
theorem nk7 (a b e f g i j:Nat) {A B D E F G I:Nat×Value} (h:Q5d [a,b,e,f,g,i,j] S=[A,B,D,E,F,G,I])(x:WC P C n Q Φ H [A,B,D,E,F,G,I] y):WL P C n (Exit.then (fun a w=>y.wp P Q a w) Q) Φ H S ops []:=nt (Q5r _ h x)
theorem k8 (a b e f g i j k:Nat) {A B D E F G I J:Nat×Value} (h:Q5d [a,b,e,f,g,i,j,k] S=[A,B,D,E,F,G,I,J])(y:WC P C n Q Φ H [A,B,D,E,F,G,I,J] c):WC P C n Q Φ H S c:=Q5r _ h y
theorem nk8 (a b e f g i j k:Nat) {A B D E F G I J:Nat×Value} (h:Q5d [a,b,e,f,g,i,j,k] S=[A,B,D,E,F,G,I,J])(x:WC P C n Q Φ H [A,B,D,E,F,G,I,J] y):WL P C n (Exit.then (fun a w=>y.wp P Q a w) Q) Φ H S ops []:=nt (Q5r _ h x)
theorem k9 (a b e f g i j k l:Nat) {A B D E F G I J K:Nat×Value} (h:Q5d [a,b,e,f,g,i,j,k,l] S=[A,B,D,E,F,G,I,J,K])(y:WC P C n Q Φ H [A,B,D,E,F,G,I,J,K] c):WC P C n Q Φ H S c:=Q5r _ h y
theorem nk9 (a b e f g i j k l:Nat) {A B D E F G I J K:Nat×Value} (h:Q5d [a,b,e,f,g,i,j,k,l] S=[A,B,D,E,F,G,I,J,K])(x:WC P C n Q Φ H [A,B,D,E,F,G,I,J,K] y):WL P C n (Exit.then (fun a w=>y.wp P Q a w) Q) Φ H S ops []:=nt (Q5r _ h x)
theorem k10 (a b e f g i j k l m:Nat) {A B D E F G I J K L:Nat×Value} (h:Q5d [a,b,e,f,g,i,j,k,l,m] S=[A,B,D,E,F,G,I,J,K,L])(y:WC P C n Q Φ H [A,B,D,E,F,G,I,J,K,L] c):WC P C n Q Φ H S c:=Q5r _ h y
theorem nk10 (a b e f g i j k l m:Nat) {A B D E F G I J K L:Nat×Value} (h:Q5d [a,b,e,f,g,i,j,k,l,m] S=[A,B,D,E,F,G,I,J,K,L])(x:WC P C n Q Φ H [A,B,D,E,F,G,I,J,K,L] y):WL P C n (Exit.then (fun a w=>y.wp P Q a w) Q) Φ H S ops []:=nt (Q5r _ h x)
theorem nk11 (a b e f g i j k l m p:Nat) {A B D E F G I J K L M:Nat×Value} (h:Q5d [a,b,e,f,g,i,j,k,l,m,p] S=[A,B,D,E,F,G,I,J,K,L,M])(x:WC P C n Q Φ H [A,B,D,E,F,G,I,J,K,L,M] y):WL P C n (Exit.then (fun a w=>y.wp P Q a w) Q) Φ H S ops []:=nt (Q5r _ h x)
theorem c0 {f:FuncId} {xs:Array Operand} {ts:Array TypeId} {args:List Value} {Φf Hf:List Fact} {X:Prop} {e1:Value} {e2 e3:List Fact} (l m:List Nat)
  (h:(Q18 ops S o,o.dst,Nat.blt d n,Q8J d S,o.op,evL S xs.toList)=(some true,some d,true,true,.call { callee:=.value (.func f),args:=xs,argTypes:=ts },some args)) (hfn:Q15 P f=true) (hc:X)
  (spec:X→QY P f args Φf Hf (fun v Φr Hr=>v=e1∧Φr=e2∧Hr=e3)) (l2:List Nat) (H' : List Fact) (h2:(Q1d H l,Q1d Φ l2,Q2o (l++m) H.length,Q1d H m)=(Hf,Φf,true,H'))
  (next:WL P C n Q (e2++Φ) (e3++H') ((d,e1) :: S) ops rest):WL P C n Q Φ H S ops (o :: rest):=by
 obtain ⟨g1,h2⟩:=p6 h2;obtain ⟨g2,h2⟩:=p6 h2;obtain ⟨g3,g4⟩:=p6 h2
 refine wC l m h hfn g1 (spec hc) (asK l2 g2) g3 g4 ?_
 rintro _ _ _ ⟨rfl,rfl,rfl⟩
 exact next
theorem c1 {A0:Type} {f:FuncId} {xs:Array Operand} {ts:Array TypeId} {args:List Value} {Φf Hf:List Fact} {X:Prop} {e1:A0→Value} {e2 e3:A0→List Fact} (l m:List Nat)
  (h:(Q18 ops S o,o.dst,Nat.blt d n,Q8J d S,o.op,evL S xs.toList)=(some true,some d,true,true,.call { callee:=.value (.func f),args:=xs,argTypes:=ts },some args)) (hfn:Q15 P f=true) (hc:X)
  (spec:X→QY P f args Φf Hf (fun v Φr Hr=>∃ a0,v=e1 a0∧Φr=e2 a0∧Hr=e3 a0)) (l2:List Nat) (H' : List Fact) (h2:(Q1d H l,Q1d Φ l2,Q2o (l++m) H.length,Q1d H m)=(Hf,Φf,true,H'))
  (next : ∀ a0,WL P C n Q (e2 a0++Φ) (e3 a0++H') ((d,e1 a0) :: S) ops rest):WL P C n Q Φ H S ops (o :: rest):=by
 obtain ⟨g1,h2⟩:=p6 h2;obtain ⟨g2,h2⟩:=p6 h2;obtain ⟨g3,g4⟩:=p6 h2
 refine wC l m h hfn g1 (spec hc) (asK l2 g2) g3 g4 ?_
 rintro _ _ _ ⟨a0,rfl,rfl,rfl⟩
 exact next a0
theorem c2 {A0 A1:Type} {f:FuncId} {xs:Array Operand} {ts:Array TypeId} {args:List Value} {Φf Hf:List Fact} {X:Prop} {e1:A0→A1→Value} {e2 e3:A0→A1→List Fact} (l m:List Nat)
  (h:(Q18 ops S o,o.dst,Nat.blt d n,Q8J d S,o.op,evL S xs.toList)=(some true,some d,true,true,.call { callee:=.value (.func f),args:=xs,argTypes:=ts },some args)) (hfn:Q15 P f=true) (hc:X)
  (spec:X→QY P f args Φf Hf (fun v Φr Hr=>∃ a0 a1,v=e1 a0 a1∧Φr=e2 a0 a1∧Hr=e3 a0 a1)) (l2:List Nat) (H' : List Fact) (h2:(Q1d H l,Q1d Φ l2,Q2o (l++m) H.length,Q1d H m)=(Hf,Φf,true,H'))
  (next : ∀ a0 a1,WL P C n Q (e2 a0 a1++Φ) (e3 a0 a1++H') ((d,e1 a0 a1) :: S) ops rest):WL P C n Q Φ H S ops (o :: rest):=by
 obtain ⟨g1,h2⟩:=p6 h2;obtain ⟨g2,h2⟩:=p6 h2;obtain ⟨g3,g4⟩:=p6 h2
 refine wC l m h hfn g1 (spec hc) (asK l2 g2) g3 g4 ?_
 rintro _ _ _ ⟨a0,a1,rfl,rfl,rfl⟩
 exact next a0 a1
theorem c3 {A0 A1 A2:Type} {f:FuncId} {xs:Array Operand} {ts:Array TypeId} {args:List Value} {Φf Hf:List Fact} {X:Prop} {e1:A0→A1→A2→Value} {e2 e3:A0→A1→A2→List Fact} (l m:List Nat)
  (h:(Q18 ops S o,o.dst,Nat.blt d n,Q8J d S,o.op,evL S xs.toList)=(some true,some d,true,true,.call { callee:=.value (.func f),args:=xs,argTypes:=ts },some args)) (hfn:Q15 P f=true) (hc:X)
  (spec:X→QY P f args Φf Hf (fun v Φr Hr=>∃ a0 a1 a2,v=e1 a0 a1 a2∧Φr=e2 a0 a1 a2∧Hr=e3 a0 a1 a2)) (l2:List Nat) (H' : List Fact) (h2:(Q1d H l,Q1d Φ l2,Q2o (l++m) H.length,Q1d H m)=(Hf,Φf,true,H'))
  (next : ∀ a0 a1 a2,WL P C n Q (e2 a0 a1 a2++Φ) (e3 a0 a1 a2++H') ((d,e1 a0 a1 a2) :: S) ops rest):WL P C n Q Φ H S ops (o :: rest):=by
 obtain ⟨g1,h2⟩:=p6 h2;obtain ⟨g2,h2⟩:=p6 h2;obtain ⟨g3,g4⟩:=p6 h2
 refine wC l m h hfn g1 (spec hc) (asK l2 g2) g3 g4 ?_
 rintro _ _ _ ⟨a0,a1,a2,rfl,rfl,rfl⟩
 exact next a0 a1 a2
theorem c4 {A0 A1 A2 A3:Type} {f:FuncId} {xs:Array Operand} {ts:Array TypeId} {args:List Value} {Φf Hf:List Fact} {X:Prop} {e1:A0→A1→A2→A3→Value} {e2 e3:A0→A1→A2→A3→List Fact} (l m:List Nat)
  (h:(Q18 ops S o,o.dst,Nat.blt d n,Q8J d S,o.op,evL S xs.toList)=(some true,some d,true,true,.call { callee:=.value (.func f),args:=xs,argTypes:=ts },some args)) (hfn:Q15 P f=true) (hc:X)
  (spec:X→QY P f args Φf Hf (fun v Φr Hr=>∃ a0 a1 a2 a3,v=e1 a0 a1 a2 a3∧Φr=e2 a0 a1 a2 a3∧Hr=e3 a0 a1 a2 a3)) (l2:List Nat) (H' : List Fact) (h2:(Q1d H l,Q1d Φ l2,Q2o (l++m) H.length,Q1d H m)=(Hf,Φf,true,H'))
  (next : ∀ a0 a1 a2 a3,WL P C n Q (e2 a0 a1 a2 a3++Φ) (e3 a0 a1 a2 a3++H') ((d,e1 a0 a1 a2 a3) :: S) ops rest):WL P C n Q Φ H S ops (o :: rest):=by
 obtain ⟨g1,h2⟩:=p6 h2;obtain ⟨g2,h2⟩:=p6 h2;obtain ⟨g3,g4⟩:=p6 h2
 refine wC l m h hfn g1 (spec hc) (asK l2 g2) g3 g4 ?_
 rintro _ _ _ ⟨a0,a1,a2,a3,rfl,rfl,rfl⟩
 exact next a0 a1 a2 a3
theorem c6 {A0 A1 A2 A3 A4 A5:Type} {f:FuncId} {xs:Array Operand} {ts:Array TypeId} {args:List Value} {Φf Hf:List Fact} {X:Prop} {e1:A0→A1→A2→A3→A4→A5→Value} {e2 e3:A0→A1→A2→A3→A4→A5→List Fact} (l m:List Nat)
  (h:(Q18 ops S o,o.dst,Nat.blt d n,Q8J d S,o.op,evL S xs.toList)=(some true,some d,true,true,.call { callee:=.value (.func f),args:=xs,argTypes:=ts },some args)) (hfn:Q15 P f=true) (hc:X)
  (spec:X→QY P f args Φf Hf (fun v Φr Hr=>∃ a0 a1 a2 a3 a4 a5,v=e1 a0 a1 a2 a3 a4 a5∧Φr=e2 a0 a1 a2 a3 a4 a5∧Hr=e3 a0 a1 a2 a3 a4 a5)) (l2:List Nat) (H' : List Fact) (h2:(Q1d H l,Q1d Φ l2,Q2o (l++m) H.length,Q1d H m)=(Hf,Φf,true,H'))
  (next : ∀ a0 a1 a2 a3 a4 a5,WL P C n Q (e2 a0 a1 a2 a3 a4 a5++Φ) (e3 a0 a1 a2 a3 a4 a5++H') ((d,e1 a0 a1 a2 a3 a4 a5) :: S) ops rest):WL P C n Q Φ H S ops (o :: rest):=by
 obtain ⟨g1,h2⟩:=p6 h2;obtain ⟨g2,h2⟩:=p6 h2;obtain ⟨g3,g4⟩:=p6 h2
 refine wC l m h hfn g1 (spec hc) (asK l2 g2) g3 g4 ?_
 rintro _ _ _ ⟨a0,a1,a2,a3,a4,a5,rfl,rfl,rfl⟩
 exact next a0 a1 a2 a3 a4 a5
end
section
variable {P:Program} {C:Ctx} {n:FD} {Q:Exit → Act → World → Prop} {ops:Array Oper} {lights L:List Nat} {D:List (Nat × Fact)} {Φ H:List Fact} {S S' : List (Nat × Value)} {d:Nat}
private theorem p7.{u,v} {α:Type u} {β:Type v} {a a' : α} {b b' : β} (h:(a,b)=(a',b')):a=a' ∧b=b':=by cases h;exact ⟨rfl,rfl⟩
theorem QA {v v' : Value} (h:v=v')(next:WX P C n Q ops lights L D Φ H ((d,v') :: S)):WX P C n Q ops lights L D Φ H ((d,v) :: S):=by subst h;exact next
theorem wx_sB {α:Type} {t:Bool} {m1 m2 r : α} (hm:(if t=true then m1 else m2)=r)(ht:t=true→m1=r→WX P C n Q ops lights L D Φ H ((d,.bool true) :: S))(hf:t=false→m2=r→WX P C n Q ops lights L D Φ H ((d,.bool false) :: S)):WX P C n Q ops lights L D Φ H ((d,.bool t) :: S):=by
 cases t
 · exact hf rfl (iteF hm rfl)
 · exact ht rfl (iteT hm rfl)
theorem Q5M {α:Type} {t:Bool} {m1 m2 r : α} (hm:(if t=true then m1 else m2)=r)(ht:m1=r→WX P C n Q ops lights L D Φ H ((d,.bool true) :: S))(hf:m2=r→WX P C n Q ops lights L D Φ H ((d,.bool false) :: S)):WX P C n Q ops lights L D Φ H ((d,.bool t) :: S):=wx_sB hm (fun _=>ht) (fun _=>hf)
theorem xP2 (hok:Q22 ops lights=true)(i:Nat) {o o2:Oper} {d d2:Nat} {v v2:Value} (h:((ops[i]?,o.dst,Q4L ops lights L i n d o,Q8J d S,Q18 ops S o,Q8T S o.op),(ops[i+1]?,o2.dst,Q4L ops lights (i :: L) (i+1) n d2 o2,Q8J d2 ((d,v) :: S),Q18 ops ((d,v) :: S) o2,Q8T ((d,v) :: S) o2.op))=((some o,some d,true,true,some true,some v),(some o2,some d2,true,true,some true,some v2)))
  (next:WX P C n Q ops lights ((i+1) :: i :: L) D Φ H ((d2,v2) :: (d,v) :: S)):WX P C n Q ops lights L D Φ H S:=by
 obtain ⟨h1,h2⟩:=p7 h
 exact xP hok i h1 (xP hok (i+1) h2 next)
theorem xO2 (hok:Q22 ops lights=true)(i:Nat) {o o2:Oper} {d d2:Nat} (h:((ops[i]?,o.dst,Q4L ops lights L i n d o,Q8J d S,Q18 ops S o),(ops[i+1]?,o2.dst,Q4L ops lights (i :: L) (i+1) n d2 o2,Q8J d2 ((d,undef) :: S),Q18 ops ((d,undef) :: S) o2))=((some o,some d,true,true,some false),(some o2,some d2,true,true,some false)))
  (next:WX P C n Q ops lights ((i+1) :: i :: L) D Φ H ((d2,undef) :: (d,undef) :: S)):WX P C n Q ops lights L D Φ H S:=by
 obtain ⟨h1,h2⟩:=p7 h
 exact xO hok i h1 (xO hok (i+1) h2 next)
theorem xF (hok:Q22 ops lights=true)(i:Nat) {o:Oper} {d t k off b q:Nat} {x:Operand} (h:(ops[i]?,o.dst,Q4L ops lights L i n d o,Q8J d S,Q18 ops S o,o.op,evS S x)=(some o,some d,true,true,some true,.fieldAddr t x k,some (.pointer (some ⟨b,q,none⟩))))(hk:Q1H P t k=some off)
  (next:WX P C n Q ops lights (i :: L) D Φ H ((d,.pointer (some ⟨b,q+off,none⟩)) :: S)):WX P C n Q ops lights L D Φ H S:=by
 obtain ⟨h1,h⟩:=p7 h;obtain ⟨h2,h⟩:=p7 h;obtain ⟨h3,h⟩:=p7 h;obtain ⟨h4,h⟩:=p7 h;obtain ⟨h5,h⟩:=p7 h;obtain ⟨h6,h7⟩:=p7 h
 exact wx_fieldAddr hok i h1 h2 h3 (Q1 h4) h5 h6 h7 hk next
theorem xN (hok:Q22 ops lights=true)(i:Nat) {o:Oper} {d t:Nat} {x:Operand} {p:Option Addr} {k c e:Nat} (h:(ops[i]?,o.dst,Q4L ops lights L i n d o,Q8J d S,Q18 ops S o,o.op,evS S x)=(some o,some d,true,true,some true,.call { callee:=.builtin .len,args:=#[x],argTypes:=#[t] },some (.slice p k c)))(ht:Q2d P t=some e)
  (next:WX P C n Q ops lights (i :: L) D Φ H ((d,.int .i64 (k:Int)) :: S)):WX P C n Q ops lights L D Φ H S:=by
 obtain ⟨h1,h⟩:=p7 h;obtain ⟨h2,h⟩:=p7 h;obtain ⟨h3,h⟩:=p7 h;obtain ⟨h4,h⟩:=p7 h;obtain ⟨h5,h⟩:=p7 h;obtain ⟨h6,h7⟩:=p7 h
 exact wx_len hok i h1 h2 h3 (Q1 h4) h5 h6 h7 ht next
theorem xM (hok:Q22 ops lights=true)(i:Nat) {o:Oper} {d t sz b tb:Nat} {x:Operand} {g:Bool} {all:List Value} {v:Value} (k j:Nat)(cs:List Value)(h:(ops[i]?,o.dst,Q4L ops lights L i n d o,Q8J d S,Q18 ops S o,o.op,Q1d H [k],evS S x,(all.drop j).take sz)=(some o,some d,true,true,some true,.load t x,[.blk b all tb],some (.pointer (some ⟨b,j,none⟩)),cs))
  (hs:Q1m P t=some sz) (ha:Q58 P t=some g) (hv:(cs.length,Q8V g cs)=(sz,some v))
  (next:WX P C n Q ops lights (i :: L) ((i,.blk b all tb) :: D) Φ H ((d,v) :: S)):WX P C n Q ops lights L D Φ H S:=by
 obtain ⟨h1,h⟩:=p7 h;obtain ⟨h2,h⟩:=p7 h;obtain ⟨h3,h⟩:=p7 h;obtain ⟨h4,h⟩:=p7 h;obtain ⟨h5,h⟩:=p7 h;obtain ⟨h6,h⟩:=p7 h;obtain ⟨h7,h⟩:=p7 h;obtain ⟨h8,h9⟩:=p7 h
 obtain ⟨g1,g2⟩:=p7 hv
 exact wx_loadH hok i k j h1 h2 h3 (Q1 h4) h5 h6 h7 h8 h9 hs ha g1 g2 next
theorem xD (hok:Q22 ops lights=true)(i:Nat) {o:Oper} {d t b tb:Nat} {x:Operand} {g:Bool} {all:List Value} {c v:Value} (k j:Nat)(h:(ops[i]?,o.dst,Q4L ops lights L i n d o,Q8J d S,Q18 ops S o,o.op,Q1d H [k],evS S x,all[j]?)=(some o,some d,true,true,some true,.load t x,[.blk b all tb],some (.pointer (some ⟨b,j,none⟩)),some c))
  (hs:Q1m P t=some 1) (ha:Q58 P t=some g) (hv:Q8V g [c]=some v)
  (next:WX P C n Q ops lights (i :: L) ((i,.blk b all tb) :: D) Φ H ((d,v) :: S)):WX P C n Q ops lights L D Φ H S:=by
 obtain ⟨h1,h⟩:=p7 h;obtain ⟨h2,h⟩:=p7 h;obtain ⟨h3,h⟩:=p7 h;obtain ⟨h4,h⟩:=p7 h;obtain ⟨h5,h⟩:=p7 h;obtain ⟨h6,h⟩:=p7 h;obtain ⟨h7,h⟩:=p7 h;obtain ⟨h8,h9⟩:=p7 h
 refine wx_loadH hok i k j h1 h2 h3 (Q1 h4) h5 h6 h7 h8 (cs:=[c]) ?_ hs ha rfl hv next
 obtain ⟨hj,hc⟩:=List.getElem?_eq_some_iff.1 h9
 rw [List.drop_eq_getElem_cons hj,hc];rfl
theorem xL (hok:Q22 ops lights=true)(i:Nat) {o:Oper} {d t sz b q:Nat} {x:Operand} {g:Bool} {all:List Value} {v:Value} (k j:Nat)(cs:List Value)(h:(ops[i]?,o.dst,Q4L ops lights L i n d o,Q8J d S,Q18 ops S o,o.op,Φ[k]?,evS S x,(all.drop j).take sz)=(some o,some d,true,true,some true,.load t x,some (.cells b q all),some (.pointer (some ⟨b,q+j,none⟩)),cs))
  (hs:Q1m P t=some sz) (ha:Q58 P t=some g) (hv:(cs.length,Q8V g cs)=(sz,some v))
  (next:WX P C n Q ops lights (i :: L) D Φ H ((d,v) :: S)):WX P C n Q ops lights L D Φ H S:=by
 obtain ⟨h1,h⟩:=p7 h;obtain ⟨h2,h⟩:=p7 h;obtain ⟨h3,h⟩:=p7 h;obtain ⟨h4,h⟩:=p7 h;obtain ⟨h5,h⟩:=p7 h;obtain ⟨h6,h⟩:=p7 h;obtain ⟨h7,h⟩:=p7 h;obtain ⟨h8,h9⟩:=p7 h
 obtain ⟨g1,g2⟩:=p7 hv
 exact wx_load hok i k j h1 h2 h3 (Q1 h4) h5 h6 h7 h8 h9 hs ha g1 g2 next
theorem xI {α:Type} (hok:Q22 ops lights=true)(i:Nat) {o:Oper} {d t e sz:Nat} {x y:Operand} {R:Rep α} {p:Option Addr} {cp:Nat} {l:List α} {ik:IntKind} {u : α} (k j:Nat)(h:(ops[i]?,o.dst,Q4L ops lights L i n d o,Q8J d S,Q18 ops S o,o.op,Φ[k]?,evS S x,evS S y)=(some o,some d,true,true,some true,.indexAddr t x y,some (.sli sz R p cp l),some (.slice p l.length cp),some (.int ik (j:Int))))(hu:l[j]? =some u)(he:Q2d P t=some e)(hs:Q1m P e=some sz)
  (next : ∀ b q cs,cs.length=sz→WX P C n Q ops lights (i :: L) D (.cells b q cs :: .rep R cs u :: Φ) H ((d,.pointer (some ⟨b,q,none⟩)) :: S)):WX P C n Q ops lights L D Φ H S:=by
 obtain ⟨h1,h⟩:=p7 h;obtain ⟨h2,h⟩:=p7 h;obtain ⟨h3,h⟩:=p7 h;obtain ⟨h4,h⟩:=p7 h;obtain ⟨h5,h⟩:=p7 h;obtain ⟨h6,h⟩:=p7 h;obtain ⟨h7,h⟩:=p7 h;obtain ⟨h8,h9⟩:=p7 h
 exact Qbw hok i k j h1 h2 h3 (Q1 h4) h5 h6 h7 h8 h9 rfl hu he hs next
theorem wxx {k:Nat} {Φ' H' : List Fact} {S' : List (Nat×Value)} (i:Nat)(m:List Nat)(h:(Φ'.drop i,Q1d H' m)=(Φ,liveD ops k D))(next:WX P C n Q ops lights (k :: L) D Φ' H' S'):WE C n (QX P C n Q ops lights L D Φ k) Φ' H' S' .normal:=by
 obtain ⟨h1,h2⟩:=p7 h
 refine Q3b ((List.range Φ'.length).drop i) m ?_ h2 next
 rw [← h1]
 clear next h
 have : ∀ (l:List Fact) (a:List Fact),Q1d (a++l) ((List.range (a++l).length).drop a.length)=l:=by
  intro l
  induction l with
  | nil=>intro a;rw [List.drop_eq_nil_of_le (by simp)];rfl
  | cons x l ih =>
    intro a
    have e:(List.range (a++x :: l).length).drop a.length=a.length :: (List.range ((a++[x])++l).length).drop (a++[x]).length:=by
     rw [List.drop_eq_getElem_cons (by simp)]
     simp
    rw [e]
    have:=ih (a++[x])
    unfold Q1d at this ⊢
    rw [List.filterMap_cons]
    simp only [List.append_assoc,List.singleton_append] at this
    rw [show (a++x :: l)[a.length]? =some x by simp]
    simp only [List.append_assoc,List.singleton_append]
    rw [this]
 rcases Nat.le_total i Φ'.length with hi | hi
 ·have h3:=this (Φ'.drop i) (Φ'.take i)
  rw [List.take_append_drop,List.length_take,Nat.min_eq_left hi] at h3
  exact h3
 · rw [List.drop_eq_nil_of_le (by simpa using hi),List.drop_eq_nil_of_le hi];rfl
end
end Go.Proofs.YtbgodclhmgmcgaaGreatDoor
