import Derived.Test.YtgangmegcejllaaDoorSess
import Derived.Test.YtgangmegcejllaaDoorPart
namespace Go.Proofs.YtgangmegcejllaaDoor
open Go.RowKit
def tPtr (P : Program) (t : Nat) : Option Nat := match P.underlying t with
  | some (.pointer e) => some e
  | _ => none
theorem tPtr_run {P : Program} {t e : Nat} (h : tPtr P t = some e) : P.underlying t = some (.pointer e) := by
  unfold tPtr at h
  split at h
  · rename_i hu; cases h; exact hu
  · cases h
theorem eqPtr {P : Program} {t e : Nat} (ht : tPtr P t = some e) (n : Nat) (a : Option Addr) (w : World) : (Op.equalIn (n + 1) t (.pointer a) (.pointer none)).run P w = .ok a.isNone w := by
  cases a <;> simp [Op.equalIn, run_underlying (tPtr_run ht)]
theorem neqP {P : Program} {t e : Nat} (ht : tPtr P t = some e) (x y : Operand) (a : Option Addr) (w : World) : (do eqGuard .neq t x y (.pointer a) (.pointer none); binOp .neq t (.pointer a) (.pointer none) : Sem Value).run P w = .ok (.bool (!a.isNone)) w := by
  rw [Sem.run_bind, show (eqGuard .neq t x y (.pointer a) (.pointer none)).run P w = .ok () w from rfl, Result.andThen_ok]
  have h := eqPtr ht 9999 a w
  simp only [binOp]
  simp [Op.equal, Op.maxDepth, h]
theorem eqlP {P : Program} {t e : Nat} (ht : tPtr P t = some e) (x y : Operand) (a : Option Addr) (w : World) : (do eqGuard .eql t x y (.pointer a) (.pointer none); binOp .eql t (.pointer a) (.pointer none) : Sem Value).run P w = .ok (.bool a.isNone) w := by
  rw [Sem.run_bind, show (eqGuard .eql t x y (.pointer a) (.pointer none)).run P w = .ok () w from rfl, Result.andThen_ok]
  have h := eqPtr ht 9999 a w
  simp only [binOp]
  simp [Op.equal, Op.maxDepth, h]
end Go.Proofs.YtgangmegcejllaaDoor
namespace Go.Proofs.YtgangmegcejllaaDoor
open Go Go.RowKit
def inK (k : IntKind) (x : Int) : Prop := IntKind.min k ≤ x ∧ x ≤ IntKind.max k
def gd {α : Type} (c : Prop) [Decidable c] (m : Option α) : Option α := if c then m else none
def bindO {α β : Type} (m : Option α) (k : α → Option β) : Option β := match m with
  | some a => k a
  | none => none
def bindS {σ O : Type} (X : Option (σ ⊕ O)) (Y : σ → Option O) : Option O := match X with
  | some (.inl s) => Y s
  | some (.inr o) => some o
  | none => none
def linkS {σ O : Type} (Y : σ → Option O) (x : σ ⊕ O) (b : O) : Prop := match x with
  | .inl s => Y s = some b
  | .inr o => o = b
def iter {σ O : Type} (f : σ → Option (σ ⊕ O)) : Nat → σ → Option O
  | 0, _ => none
  | n + 1, s => bindS (f s) (iter f n)
section
variable {α β σ O : Type}
theorem gd_some {c : Prop} [Decidable c] {m : Option α} {b : α} (h : gd c m = some b) : c ∧ m = some b := by
  unfold gd at h; split at h
  · rename_i hc; exact ⟨hc, h⟩
  · cases h
theorem gd_pos {c : Prop} [Decidable c] {m : Option α} (h : c) : gd c m = m := if_pos h
theorem bindO_some {m : Option α} {k : α → Option β} {b : β} (h : bindO m k = some b) : ∃ a, m = some a ∧ k a = some b := by
  unfold bindO at h; split at h
  · rename_i a; exact ⟨a, rfl, h⟩
  · cases h
theorem bindO_pure {a : α} {k : α → Option β} : bindO (some a) k = k a := rfl
theorem bindS_some {X : Option (σ ⊕ O)} {Y : σ → Option O} {b : O} (h : bindS X Y = some b) : ∃ x, X = some x ∧ linkS Y x b := by
  unfold bindS at h; split at h
  · rename_i s; exact ⟨_, rfl, h⟩
  · rename_i o; cases h; exact ⟨_, rfl, rfl⟩
  · cases h
theorem bindS_inl {s : σ} {Y : σ → Option O} : bindS (some (.inl s)) Y = Y s := rfl
theorem bindS_inr {o : O} {Y : σ → Option O} : bindS (some (.inr o)) Y = some o := rfl
theorem link_inl {Y : σ → Option O} {x : σ ⊕ O} {b : O} {s : σ} (h : linkS Y x b) (e : x = .inl s) : Y s = some b := by subst e; exact h
theorem link_inr {Y : σ → Option O} {x : σ ⊕ O} {b o : O} (h : linkS Y x b) (e : x = .inr o) : b = o := by subst e; exact Eq.symm h
theorem iter_some {f : σ → Option (σ ⊕ O)} {n : Nat} {s : σ} {b : O} (h : iter f n s = some b) : ∃ m x, n = m + 1 ∧ f s = some x ∧ linkS (iter f m) x b := by
  cases n with
  | zero => cases h
  | succ n => obtain ⟨x, h1, h2⟩ := bindS_some h; exact ⟨n, x, rfl, h1, h2⟩
theorem iter_step {f : σ → Option (σ ⊕ O)} {n : Nat} {s s' : σ} (h : f s = some (.inl s')) : iter f (n + 1) s = iter f n s' := by
  show bindS (f s) (iter f n) = _; rw [h]; rfl
theorem iter_stop {f : σ → Option (σ ⊕ O)} {n : Nat} {s : σ} {o : O} (h : f s = some (.inr o)) : iter f (n + 1) s = some o := by
  show bindS (f s) (iter f n) = _; rw [h]; rfl
theorem iter_inv {f : σ → Option (σ ⊕ O)} (I : σ → Prop) (μ : σ → Nat) (R : O → Prop) (step : ∀ s, I s → (∃ s', f s = some (.inl s') ∧ I s' ∧ μ s' < μ s) ∨ (∃ o, f s = some (.inr o) ∧ R o)) :
    ∀ (n : Nat) (s : σ), I s → μ s < n → ∃ o, iter f n s = some o ∧ R o
  | 0, _, _, h => by omega
  | n + 1, s, hI, h => by
    rcases step s hI with ⟨s', h1, h2, h3⟩ | ⟨o, h1, h2⟩
    · obtain ⟨o, h4, h5⟩ := iter_inv I μ R step n s' h2 (by omega)
      exact ⟨o, by rw [iter_step h1]; exact h4, h5⟩
    · exact ⟨o, iter_stop h1, h2⟩
theorem ite_some {c : Bool} {x y : Option α} {b : α} (h : (if c = true then x else y) = some b) : (c = true ∧ x = some b) ∨ (c = false ∧ y = some b) := by
  cases c
  · exact .inr ⟨rfl, h⟩
  · exact .inl ⟨rfl, h⟩
theorem iteT {c : Bool} {x y : α} {b : α} (hm : (if c = true then x else y) = b) (h : c = true) : x = b := by rwa [if_pos h] at hm
theorem iteF {c : Bool} {x y : α} {b : α} (hm : (if c = true then x else y) = b) (h : c = false) : y = b := by rwa [if_neg (by simp [h])] at hm
theorem get_lt {l : List α} {j : Nat} {x : α} (h : l[j]? = some x) : j < l.length := (List.getElem?_eq_some_iff.1 h).1
theorem bool_is {b c : Bool} (h : b = c) : Value.bool b = .bool c := by rw [h]
theorem natlt {a b : Nat} : Value.bool (decide ((a : Int) < (b : Int))) = .bool (decide (a < b)) := by simp
theorem natle {a b : Nat} : Value.bool (decide ((a : Int) ≤ (b : Int))) = .bool (decide (a ≤ b)) := by simp
theorem natgt {a b : Nat} : Value.bool (decide ((a : Int) > (b : Int))) = .bool (decide (b < a)) := by simp
theorem natge {a b : Nat} : Value.bool (decide ((a : Int) ≥ (b : Int))) = .bool (decide (b ≤ a)) := by simp
theorem nateq {a b : Nat} : Value.bool ((a : Int) == (b : Int)) = .bool (a == b) := by
  congr 1
  by_cases h : a = b
  · subst h; simp
  · have h2 : ¬ (a : Int) = b := by omega
    rw [beq_false_of_ne h, beq_false_of_ne h2]
theorem natne {a b : Nat} : Value.bool ((a : Int) != (b : Int)) = .bool (a != b) := by
  congr 1
  by_cases h : a = b
  · subst h; simp
  · have h2 : ¬ (a : Int) = b := by omega
    simp [bne, beq_false_of_ne h, beq_false_of_ne h2]
theorem i64_in {x : Int} (h : inI x) : Value.int .i64 (IntKind.wrap .i64 x) = .int .i64 x := by rw [IntWalk.i64_in _ h]
theorem toNat_eq {x : Int} (h : 0 ≤ x) : x = (x.toNat : Int) := by omega
end
def mkRep {α Λ : Type} (cells : α → Λ → List Value) (facts : α → Λ → List Fact) (one : ∀ x r, ∀ u ∈ cells x r, u.oneCell' = true) : Rep α :=
  ⟨fun F w cs x => ∃ r, cs = cells x r ∧ ∀ φ ∈ facts x r, φ.p F w, fun hF ha ⟨r, h1, h2⟩ => ⟨r, h1, fun φ hφ => φ.good hF ha (h2 φ hφ)⟩, fun ⟨r, h1, _⟩ u hu => one _ r u (h1 ▸ hu)⟩
theorem mkRep_opens {α Λ : Type} {cells : α → Λ → List Value} {facts : α → Λ → List Fact} {one : ∀ x r, ∀ u ∈ cells x r, u.oneCell' = true} : Opens (mkRep cells facts one) cells (fun _ _ => True) facts := fun _ _ _ _ ⟨r, h1, h2⟩ => ⟨r, h1, trivial, h2⟩
theorem mkRep_free {α : Type} {cells : α → Unit → List Value} {one : ∀ x r, ∀ u ∈ cells x r, u.oneCell' = true} : RFree (mkRep cells (fun _ _ => []) one) := fun _ _ _ _ _ ⟨r, h1, _⟩ => ⟨r, h1, by simp⟩
section
variable {P : Program} {C : Ctx} {n : Nat} {Q : Exit → Act → World → Prop} {Φ Φ' : List Fact} {H H' : List Fact} {S S' : List (Nat × Value)} {ops : Array Oper} {rest : List Oper} {o : Oper} {d : Nat} {lights L : List Nat} {D : List (Nat × Fact)} {c : Code} {e : Exit}
theorem set_getU {α : Type 1} {l : List α} {k : Nat} {x : α} (h : l[k]? = some x) : l.set k x = l := by
  obtain ⟨h1, h2⟩ := List.getElem?_eq_some_iff.1 h
  rw [← h2]; simp
theorem wl_hAs (k : Nat) {φ φ' : Fact} (hk : H[k]? = some φ) (he : φ = φ') (hH : H.set k φ' = H') (h : WL P C n Q Φ H' S ops rest) : WL P C n Q Φ H S ops rest := by
  subst he; subst hH; rwa [set_getU hk] at h
theorem we_hAs (k : Nat) {φ φ' : Fact} (hk : H[k]? = some φ) (he : φ = φ') (hH : H.set k φ' = H') (h : WE C n Q Φ H' S e) : WE C n Q Φ H S e := by
  subst he; subst hH; rwa [set_getU hk] at h
theorem wl_at (k : Nat) {x : Nat} {v v' : Value} (hk : S[k]? = some (x, v)) (he : v = v') (h : WL P C n Q Φ H (S.set k (x, v')) ops rest) : WL P C n Q Φ H S ops rest := by
  subst he; rwa [set_get hk] at h
theorem we_roundK {σ : Type} {ok : σ → Prop} {Sσ : σ → List (Nat × Value)} {Φσ Hσ : σ → List Fact} {μ : σ → Nat} {k : Nat} (s' : σ) (hμ : μ s' < k) (h0 : ok s') (l : List Nat) (hS : keepS l S = Sσ s') (hΦ : ∀ F w, (∀ ψ ∈ Φ, ψ.p F w) → ∀ φ ∈ Φσ s', φ.p F w) (hH : H = Hσ s') :
    WE C n (Exit.then (fun a' w' => ∃ s', μ s' < k ∧ StAt ok Sσ Φσ Hσ C n s' a' w') Q) Φ H S .normal := fun a w hf hw => ⟨s', hμ, st_at s' h0 l hS hΦ hH hf hw⟩
theorem run_quo {P : Program} {k : IntKind} {a b : Int} {t : TypeId} {x y : Operand} (h : b ≠ 0) (w : World) : (do eqGuard .quo t x y (.int k a) (.int k b); binOp .quo t (.int k a) (.int k b) : Sem Value).run P w = .ok (.int k (k.wrap (a.tdiv b))) w := by
  simp [eqGuard, binOp, Op.intDiv, h]
theorem len_is {a b : Nat} (h : a = b) : Value.int .i64 (a : Int) = .int .i64 (b : Int) := by rw [h]
theorem wc_pick (l : List Nat) (hl : okIdx l H.length = true) (hH : pickH H l = H') (h : WC P C n Q Φ H' S c) : WC P C n Q Φ H S c := fun a w hf hw => h a w hf (by rw [← hH]; exact hw.pick l hl)
theorem we_rowNil {α : Type} (e' sz : Nat) (R : Rep α) (next : WE C n Q Φ (.own e' sz R (.slice none 0 0) [] :: H) S e) : WE C n Q Φ H S e := fun a w hf hw => next a w hf (hw.rowNil e' sz R)
theorem wl_indexA {α : Type} {t e sz : Nat} {x i : Operand} {R : Rep α} {p : Option Addr} {cp : Nat} {l : List α} {ik : IntKind} {z : Int} {y : α} (k j : Nat) (hg : wantS ops S o = some true) (hd : o.dst = some d) (hn : Nat.blt d n = true) (hS : outS d S = S') (ho : o.op = .indexAddr t x i)
    (hφ : Φ[k]? = some (.sli sz R p cp l)) (hx : evS S x = some (.slice p l.length cp)) (hi : evS S i = some (.int ik z)) (hz : z = (j : Int)) (hy : l[j]? = some y) (he : tElem P t = some e) (hs : tSize P e = some sz)
    (next : ∀ b q cs, cs.length = sz → WL P C n Q (.cells b q cs :: .rep R cs y :: Φ) H ((d, .pointer (some ⟨b, q, none⟩)) :: S') ops rest) : WL P C n Q Φ H S ops (o :: rest) :=
  wl_index k j hg hd hn hS ho hφ hx hi hz (get_lt hy) he hs fun b q cs y' hy' hl => by
    obtain rfl : y = y' := Option.some.inj (hy.symm.trans hy')
    exact next b q cs hl
theorem wx_indexA {α : Type} (hok : okDraw ops lights = true) (i : Nat) {o : Oper} {d t e sz : Nat} {x y : Operand} {R : Rep α} {p : Option Addr} {cp : Nat} {l : List α} {ik : IntKind} {z : Int} {u : α} (k j : Nat) (hi : ops[i]? = some o) (hd : o.dst = some d) (hl : lightB ops lights L i n d o = true) (hS : outS d S = S') (hg : wantS ops S o = some true)
    (ho : o.op = .indexAddr t x y) (hφ : Φ[k]? = some (.sli sz R p cp l)) (hx : evS S x = some (.slice p l.length cp)) (hy : evS S y = some (.int ik z)) (hz : z = (j : Int)) (hu : l[j]? = some u) (he : tElem P t = some e) (hs : tSize P e = some sz)
    (next : ∀ b q cs, cs.length = sz → WX P C n Q ops lights (i :: L) D (.cells b q cs :: .rep R cs u :: Φ) H ((d, .pointer (some ⟨b, q, none⟩)) :: S')) : WX P C n Q ops lights L D Φ H S :=
  wx_index hok i k j hi hd hl hS hg ho hφ hx hy hz (get_lt hu) he hs fun b q cs y' hy' hl => by
    obtain rfl : u = y' := Option.some.inj (hu.symm.trans hy')
    exact next b q cs hl
end
end Go.Proofs.YtgangmegcejllaaDoor
