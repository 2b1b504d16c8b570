import Derived.Test.YtbgodclhmgmcgaaGreatDoorPtr
namespace Go.Proofs.YtbgodclhmgmcgaaGreatDoor
open Go Go.RowKit
def inK (k:IntKind)(x:Int):Prop:=IntKind.min k≤x∧x≤IntKind.max k
def gd {α:Type} (c:Prop) [Decidable c] (m:Option α):Option α:=if c then m else none
def Qa {α β:Type} (m:Option α)(k : α→Option β):Option β:=match m with
 | some a=>k a
 | none=>none
def Q1x {σ O:Type} (X:Option (σ⊕O))(Y : σ→Option O):Option O:=match X with
 | some (.inl s)=>Y s
 | some (.inr o)=>some o
 | none=>none
def linkS {σ O:Type} (Y : σ→Option O)(x : σ⊕O)(b:O):Prop:=match x with
 | .inl s=>Y s=some b
 | .inr o=>o=b
def Q1e {σ O:Type} (f : σ→Option (σ⊕O)):Nat→σ→Option O
 | 0,_=>none
 | n+1,s=>Q1x (f s) (Q1e f n)
section
variable {α β σ O:Type}
theorem gd_some {c:Prop} [Decidable c] {m:Option α} {b : α} (h:gd c m=some b):c∧m=some b:=by
 unfold gd at h;split at h
 · rename_i hc;exact ⟨hc,h⟩
 · cases h
theorem Qr {c:Prop} [Decidable c] {m:Option α} (h:c):gd c m=m:=if_pos h
theorem Qy {m:Option α} {k : α→Option β} {b : β} (h:Qa m k=some b) : ∃ a,m=some a∧k a=some b:=by
 unfold Qa at h;split at h
 · rename_i a;exact ⟨a,rfl,h⟩
 · cases h
theorem Q0 {a : α} {k : α→Option β}:Qa (some a) k=k a:=rfl
theorem bindS_some {X:Option (σ⊕O)} {Y : σ→Option O} {b:O} (h:Q1x X Y=some b) : ∃ x,X=some x∧linkS Y x b:=by
 unfold Q1x at h;split at h
 · rename_i s;exact ⟨_,rfl,h⟩
 · rename_i o;cases h;exact ⟨_,rfl,rfl⟩
 · cases h
theorem Q1b {s : σ} {Y : σ→Option O}:Q1x (some (.inl s)) Y=Y s:=rfl
theorem Q1K {o:O} {Y : σ→Option O}:Q1x (some (.inr o)) Y=some o:=rfl
theorem Qp {Y : σ→Option O} {x : σ⊕O} {b:O} {s : σ} (h:linkS Y x b)(e:x=.inl s):Y s=some b:=by subst e;exact h
theorem Qb {Y : σ→Option O} {x : σ⊕O} {b o:O} (h:linkS Y x b)(e:x=.inr o):b=o:=by subst e;exact Eq.symm h
theorem iter_some {f : σ→Option (σ⊕O)} {n:Nat} {s : σ} {b:O} (h:Q1e f n s=some b) : ∃ m x,n=m+1∧f s=some x∧linkS (Q1e f m) x b:=by
 cases n with
 | zero=>cases h
 | succ n=>obtain ⟨x,h1,h2⟩:=bindS_some h;exact ⟨n,x,rfl,h1,h2⟩
theorem Q2c {f : σ→Option (σ⊕O)} {n:Nat} {s s' : σ} (h:f s=some (.inl s')):Q1e f (n+1) s=Q1e f n s':=by
 show Q1x (f s) (Q1e f n)=_;rw [h];rfl
theorem Q1c {f : σ→Option (σ⊕O)} {n:Nat} {s : σ} {o:O} (h:f s=some (.inr o)):Q1e f (n+1) s=some o:=by
 show Q1x (f s) (Q1e f n)=_;rw [h];rfl
theorem QcX {f : σ→Option (σ⊕O)} : ∀ {n m:Nat} {s : σ} {b:O},Q1e f n s=some b→n≤m→Q1e f m s=some b
 | 0,_,_,_,h,_=>by cases h
 | n+1,0,_,_,_,h=>by omega
 | n + 1,m + 1,s,b,h,hm=>by
   obtain ⟨x,h1,h2⟩:=bindS_some (show Q1x (f s) (Q1e f n)=some b from h)
   show Q1x (f s) (Q1e f m)=some b
   rw [h1]
   cases x with
   | inl s'=>exact QcX (show Q1e f n s' =some b from h2) (by omega)
   | inr o=>exact congrArg some (show o=b from h2)
theorem Q7Q {f : σ→Option (σ⊕O)} (I : σ→Prop)(μ : σ→Nat)(R:O→Prop)(step : ∀ s,I s→(∃ s',f s=some (.inl s')∧I s' ∧μ s' < μ s)∨(∃ o,f s=some (.inr o)∧R o)) :
   ∀ (n:Nat) (s : σ),I s→μ s < n→∃ o,Q1e f n s=some o∧R o
 | 0,_,_,h=>by omega
 | n + 1,s,hI,h=>by
   rcases step s hI with ⟨s',h1,h2,h3⟩ | ⟨o,h1,h2⟩
   ·obtain ⟨o,h4,h5⟩:=Q7Q I μ R step n s' h2 (by omega)
    exact ⟨o,by rw [Q2c h1];exact h4,h5⟩
   · exact ⟨o,Q1c h1,h2⟩
theorem Q19 {c:Bool} {x y:Option α} {b : α} (h:(if c=true then x else y)=some b):(c=true∧x=some b)∨(c=false∧y=some b):=by
 cases c
 · exact .inr ⟨rfl,h⟩
 · exact .inl ⟨rfl,h⟩
theorem iteT {c:Bool} {x y : α} {b : α} (hm:(if c=true then x else y)=b)(h:c=true):x=b:=by rwa [if_pos h] at hm
theorem iteF {c:Bool} {x y : α} {b : α} (hm:(if c=true then x else y)=b)(h:c=false):y=b:=by rwa [if_neg (by simp [h])] at hm
theorem Q9P {l:List α} {j:Nat} {x : α} (h:l[j]? =some x):j < l.length:=(List.getElem?_eq_some_iff.1 h).1
theorem QL {b c:Bool} (h:b=c):Value.bool b=.bool c:=by rw [h]
theorem natlt {a b:Nat}:Value.bool (decide ((a:Int) < (b:Int)))=.bool (decide (a < b)):=by simp
theorem natle {a b:Nat}:Value.bool (decide ((a:Int)≤(b:Int)))=.bool (decide (a≤b)):=by simp
theorem natgt {a b:Nat}:Value.bool (decide ((a:Int) > (b:Int)))=.bool (decide (b < a)):=by simp
theorem natge {a b:Nat}:Value.bool (decide ((a:Int) ≥ (b:Int)))=.bool (decide (b≤a)):=by simp
theorem nateq {a b:Nat}:Value.bool ((a:Int)==(b:Int))=.bool (a==b):=by
 congr 1
 by_cases h:a=b
 · subst h;simp
 ·have h2 : ¬ (a:Int)=b:=by omega
  rw [beq_false_of_ne h,beq_false_of_ne h2]
theorem natne {a b:Nat}:Value.bool ((a:Int) !=(b:Int))=.bool (a !=b):=by
 congr 1
 by_cases h:a=b
 · subst h;simp
 ·have h2 : ¬ (a:Int)=b:=by omega
  simp [bne,beq_false_of_ne h,beq_false_of_ne h2]
theorem i64_in {x:Int} (h:inI x):Value.int .i64 (IntKind.wrap .i64 x)=.int .i64 x:=by rw [IntWalk.i64_in _ h]
theorem Q2K {x:Int} (h : 0≤x):x=(x.toNat:Int):=by omega
end
def Q9n {α Λ:Type} (cells : α→Λ→List Value)(facts : α→Λ→List Fact)(one : ∀ x r,∀ u∈cells x r,u.oneCell' =true):Rep α :=
 ⟨fun F w cs x=>∃ r,cs=cells x r∧∀ φ∈facts x r,φ.p F w,fun hF ha ⟨r,h1,h2⟩=>⟨r,h1,fun φ hφ=>φ.good hF ha (h2 φ hφ)⟩,fun ⟨r,h1,_⟩ u hu=>one _ r u (h1 ▸ hu)⟩
theorem Q3y {α Λ:Type} {cells : α→Λ→List Value} {facts : α→Λ→List Fact} {one : ∀ x r,∀ u∈cells x r,u.oneCell' =true}:Q8B (Q9n cells facts one) cells (fun _ _=>True) facts:=fun _ _ _ _ ⟨r,h1,h2⟩=>⟨r,h1,trivial,h2⟩
theorem mkRep_free {α:Type} {cells : α→Unit→List Value} {one : ∀ x r,∀ u∈cells x r,u.oneCell' =true}:RFree (Q9n cells (fun _ _=>[]) one):=fun _ _ _ _ _ ⟨r,h1,_⟩=>⟨r,h1,by simp⟩
section
variable {P:Program} {C:Ctx} {n:FD} {Q:Exit → Act → World → Prop} {Φ Φ' : List Fact} {H H' : List Fact} {S S' : List (Nat × Value)} {ops:Array Oper} {rest:List Oper} {o:Oper} {d:Nat} {lights L:List Nat} {D:List (Nat × Fact)} {c:Code} {e:Exit}
theorem set_getU {α:Type 1} {l:List α} {k:Nat} {x : α} (h:l[k]? =some x):l.set k x=l:=by
 obtain ⟨h1,h2⟩:=List.getElem?_eq_some_iff.1 h
 rw [← h2];simp
theorem Q3U (k:Nat) {φ φ' : Fact} (hk:H[k]? =some φ)(he : φ=φ')(hH:H.set k φ' =H')(h:WL P C n Q Φ H' S ops rest):WL P C n Q Φ H S ops rest:=by
 subst he;subst hH;rwa [set_getU hk] at h
theorem wc_hAs (k:Nat) {φ φ' : Fact} (hk:H[k]? =some φ)(he : φ=φ')(hH:H.set k φ' =H')(h:WC P C n Q Φ H' S c):WC P C n Q Φ H S c:=by
 subst he;subst hH;rwa [set_getU hk] at h
theorem Qb3 (k:Nat) {x:Nat} {v v' : Value} (hk:S[k]? =some (x,v))(he:v=v')(h:WL P C n Q Φ H (S.set k (x,v')) ops rest):WL P C n Q Φ H S ops rest:=by
 subst he;rwa [set_get hk] at h
theorem wc_at (k:Nat) {x:Nat} {v v' : Value} (hk:S[k]? =some (x,v))(he:v=v')(h:WC P C n Q Φ H (S.set k (x,v')) c):WC P C n Q Φ H S c:=by
 subst he;rwa [set_get hk] at h
theorem we_ownLen {α:Type} {e' sz m:Nat} {R:Rep α} {p:Option Addr} {cp:Nat} {l:List α} (k:Nat)(hφ:H[k]? =some (.own e' sz R (.slice p m cp) l))(next:m=l.length→(0 < l.length→∃ g,p=some ⟨g,0,none⟩)→WE C n Q Φ H S e):WE C n Q Φ H S e :=
 fun a w hf hw=>next (Qdq hw hφ).1 (Qdq hw hφ).2 a w hf hw
theorem we_roundK {σ:Type} {ok : σ→Prop} {Sσ : σ→List (Nat×Value)} {Φσ Hσ : σ→List Fact} {μ : σ→Nat} {k:Nat} (s' : σ)(hμ : μ s' < k)(h0:ok s')(l:List Nat)(hS:Q5d l S=Sσ s')(hΦ : ∀ F w,(∀ ψ∈Φ,ψ.p F w)→∀ φ∈Φσ s',φ.p F w)(hH:H=Hσ s') :
 WE C n (Exit.then (fun a' w'=>∃ s',μ s' < k∧StAt ok Sσ Φσ Hσ C n s' a' w') Q) Φ H S .normal:=fun a w hf hw=>⟨s',hμ,st_at s' h0 l hS hΦ hH hf hw⟩
theorem run_quo {P:Program} {k:IntKind} {a b:Int} {t:TypeId} {x y:Operand} (h:b≠0)(w:World):(do eqGuard .quo t x y (.int k a) (.int k b);binOp .quo t (.int k a) (.int k b):Sem Value).run P w=.ok (.int k (k.wrap (a.tdiv b))) w:=by
 simp [eqGuard,binOp,Op.intDiv,h]
theorem len_is {a b:Nat} (h:a=b):Value.int .i64 (a:Int)=.int .i64 (b:Int):=by rw [h]
theorem wc_pick (l:List Nat)(hl:Q2o l H.length=true)(hH:Q1d H l=H')(h:WC P C n Q Φ H' S c):WC P C n Q Φ H S c:=fun a w hf hw=>h a w hf (by rw [← hH];exact hw.pick l hl)
theorem Q7n {α:Type} (e' sz:Nat)(R:Rep α)(next:WE C n Q Φ (.own e' sz R (.slice none 0 0) [] :: H) S e):WE C n Q Φ H S e:=fun a w hf hw=>next a w hf (hw.rowNil e' sz R)
theorem we_fact (φ:Fact)(hφ : ∀ F w,(∀ ψ∈Φ,ψ.p F w)→φ.p F w)(h:WE C n Q (φ :: Φ) H S e):WE C n Q Φ H S e :=
 fun a w hf hw=>h a w hf (hw.fact fun F=>hφ F w)
theorem Qep (k:Nat) {φ:Fact} (hk:H[k]? =some φ)(hE:H.eraseIdx k=H')(h:WE C n Q (φ :: Φ) H' S e):WE C n Q Φ H S e:=fun a w hf hw=>h a w hf (hw.freeze k hk hE)
theorem Qbv {α:Type} {t e sz:Nat} {x i:Operand} {R:Rep α} {p:Option Addr} {cp:Nat} {l:List α} {ik:IntKind} {z:Int} {y : α} (k j:Nat)(hg:Q18 ops S o=some true)(hd:o.dst=some d)(hn:Nat.blt d n=true)(hS:Q4p d S=S')(ho:o.op=.indexAddr t x i)
  (hφ : Φ[k]? =some (.sli sz R p cp l)) (hx:evS S x=some (.slice p l.length cp)) (hi:evS S i=some (.int ik z)) (hz:z=(j:Int)) (hy:l[j]? =some y) (he:Q2d P t=some e) (hs:Q1m P e=some sz)
  (next : ∀ b q cs,cs.length=sz→WL P C n Q (.cells b q cs :: .rep R cs y :: Φ) H ((d,.pointer (some ⟨b,q,none⟩)) :: S') ops rest):WL P C n Q Φ H S ops (o :: rest) :=
 wl_index k j hg hd hn hS ho hφ hx hi hz (Q9P hy) he hs fun b q cs y' hy' hl=>by
  obtain rfl:y=y':=Option.some.inj (hy.symm.trans hy')
  exact next b q cs hl
theorem Qbw {α:Type} (hok:Q22 ops lights=true)(i:Nat) {o:Oper} {d t e sz:Nat} {x y:Operand} {R:Rep α} {p:Option Addr} {cp:Nat} {l:List α} {ik:IntKind} {z:Int} {u : α} (k j:Nat)(hi:ops[i]? =some o)(hd:o.dst=some d)(hl:Q4L ops lights L i n d o=true)(hS:Q4p d S=S')(hg:Q18 ops S o=some true)
  (ho:o.op=.indexAddr t x y) (hφ : Φ[k]? =some (.sli sz R p cp l)) (hx:evS S x=some (.slice p l.length cp)) (hy:evS S y=some (.int ik z)) (hz:z=(j:Int)) (hu:l[j]? =some u) (he:Q2d P t=some e) (hs:Q1m P e=some sz)
  (next : ∀ b q cs,cs.length=sz→WX P C n Q ops lights (i :: L) D (.cells b q cs :: .rep R cs u :: Φ) H ((d,.pointer (some ⟨b,q,none⟩)) :: S')):WX P C n Q ops lights L D Φ H S :=
 wx_index hok i k j hi hd hl hS hg ho hφ hx hy hz (Q9P hu) he hs fun b q cs y' hy' hl=>by
  obtain rfl:u=y':=Option.some.inj (hu.symm.trans hy')
  exact next b q cs hl
end
end Go.Proofs.YtbgodclhmgmcgaaGreatDoor
