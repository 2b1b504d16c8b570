/- How the program's data read. No program in sight. -/
import Derived.Test.YtkakbckmajdggaaIdx
import Derived.IntWalk
namespace Go.Proofs.Ytkakbckmajdggaa
open Go.RowKit

def inI (x : Int) : Prop := -9223372036854775808 ≤ x ∧ x ≤ 9223372036854775807
def inB (x : Int) : Prop := 0 ≤ x ∧ x ≤ 255
def V.ok (v : V) : Prop := inB v.k ∧ inI v.n
/-- A number, a truth. -/
def iRep : Rep Int := ⟨fun _ _ cs x => cs = [.int .i64 x] ∧ inI x, fun _ _ h => h, fun h u hu => by rw [h.1] at hu; simp at hu; subst hu; rfl⟩
def bRep : Rep Bool := ⟨fun _ _ cs x => cs = [.bool x], fun _ _ h => h, fun h u hu => by rw [h] at hu; simp at hu; subst hu; rfl⟩
/-- A value. -/
def vCells (x : V) (_ : Unit) : List Value := [.int .u8 x.k, .int .i64 x.n, .string x.s]
def vRep : Rep V := ⟨fun _ _ cs x => cs = vCells x () ∧ x.ok, fun _ _ h => h, fun h u hu => by rw [h.1] at hu; simp [vCells] at hu; rcases hu with rfl | rfl | rfl <;> rfl⟩
theorem iRep_opens : Opens iRep (fun x (_ : Unit) => [.int .i64 x]) (fun x _ => inI x) (fun _ _ => []) := fun _ _ _ _ h => ⟨(), h.1, h.2, by simp⟩
theorem iRep_shuts : Shuts iRep (fun x (_ : Unit) => [.int .i64 x]) (fun x _ => inI x) (fun _ _ => []) := fun _ _ _ _ h _ => ⟨rfl, h⟩
theorem bRep_opens : Opens bRep (fun x (_ : Unit) => [.bool x]) (fun _ _ => True) (fun _ _ => []) := fun _ _ _ _ h => ⟨(), h, trivial, by simp⟩
theorem bRep_shuts : Shuts bRep (fun x (_ : Unit) => [.bool x]) (fun _ _ => True) (fun _ _ => []) := fun _ _ _ _ _ _ => rfl
theorem vRep_opens : Opens vRep vCells (fun x _ => x.ok) (fun _ _ => []) := fun _ _ _ _ h => ⟨(), h.1, h.2, by simp⟩
theorem vRep_shuts : Shuts vRep vCells (fun x _ => x.ok) (fun _ _ => []) := fun _ _ _ _ h _ => ⟨rfl, h⟩
/-- api.Fact -/
structure FactD where
  id : Int
  ty : Int
  args : List V
def fCells (x : FactD) (r : Option Addr × Nat) : List Value := [.int .i64 x.id, .int .i64 x.ty, .slice r.1 x.args.length r.2]
def FactD.ok (x : FactD) : Prop := inI x.id ∧ inI x.ty
def fRep : Rep FactD := ⟨fun F w cs x => x.ok ∧ ∃ r : Option Addr × Nat, cs = fCells x r ∧ (Fact.sli 3 vRep r.1 r.2 x.args).p F w, fun hF ha ⟨h0, r, h1, h2⟩ => ⟨h0, r, h1, Fact.good _ hF ha h2⟩,
  fun ⟨_, r, h1, _⟩ u hu => by rw [h1] at hu; simp [fCells] at hu; rcases hu with rfl | rfl | rfl <;> rfl⟩
theorem fRep_opens : Opens fRep fCells (fun x _ => x.ok) (fun x r => [.sli 3 vRep r.1 r.2 x.args]) := fun _ _ _ _ ⟨h0, r, h1, h2⟩ => ⟨r, h1, h0, by simpa using h2⟩
theorem fRep_shuts : Shuts fRep fCells (fun x _ => x.ok) (fun x r => [.sli 3 vRep r.1 r.2 x.args]) := fun _ _ _ r h0 h => ⟨h0, r, rfl, h _ (by simp)⟩
/-- api.Arg -/
structure ArgD where
  k : Int
  var : Int
  v : V
def ArgD.ok (x : ArgD) : Prop := inB x.k ∧ inI x.var ∧ x.v.ok
def aCells (x : ArgD) (_ : Unit) : List Value := [.int .u8 x.k, .int .i64 x.var, .int .u8 x.v.k, .int .i64 x.v.n, .string x.v.s]
def aRep : Rep ArgD := ⟨fun _ _ cs x => cs = aCells x () ∧ x.ok, fun _ _ h => h, fun h u hu => by rw [h.1] at hu; simp [aCells] at hu; rcases hu with rfl | rfl | rfl | rfl | rfl <;> rfl⟩
theorem aRep_opens : Opens aRep aCells (fun x _ => x.ok) (fun _ _ => []) := fun _ _ _ _ h => ⟨(), h.1, h.2, by simp⟩
theorem aRep_shuts : Shuts aRep aCells (fun x _ => x.ok) (fun _ _ => []) := fun _ _ _ _ h _ => ⟨rfl, h⟩
theorem chunk1 {α : Type} {sz : Nat} {R : List Value → α → Prop} {cs : List Value} {x : α} (h : R cs x) (hl : cs.length = sz) : Chunks sz R cs [x] := Chunks.one h hl
theorem sli_nil {α : Type} {sz : Nat} {R : Rep α} {p : Option Addr} {c : Nat} {l : List α} {F : Foot} {w : World} (h : (Fact.sli sz R p c l).p F w) (hp : p = none) : l = [] := by
  obtain ⟨p', n', c', xs, e, hn, hc, hm, _, hrow⟩ := h
  cases e
  cases l with
  | nil => rfl
  | cons x l => obtain ⟨b, off, hb, _⟩ := hrow (by simp); rw [hp] at hb; cases hb
theorem isNone_true {α : Type} {p : Option α} (h : Option.isNone p = true) : p = none := by simpa using h
theorem isNone_false {α : Type} {p : Option α} (h : Option.isNone p = false) : ∃ a, p = some a := by cases p <;> simp_all
/-- Nothing is asked. -/
theorem ask0 {Φ : List Fact} {F : Foot} {w : World} (_ : ∀ ψ ∈ Φ, ψ.p F w) : ∀ φ ∈ ([] : List Fact), φ.p F w := by simp
/-- What is asked lies there, by its places. -/
theorem ask {Φ Φ' : List Fact} (l : List Nat) (h : pickH Φ l = Φ') {F : Foot} {w : World} (hΦ : ∀ ψ ∈ Φ, ψ.p F w) : ∀ φ ∈ Φ', φ.p F w := by
  subst h
  intro φ hφ
  obtain ⟨i, _, hi⟩ := List.mem_filterMap.1 hφ
  exact hΦ φ (List.mem_of_getElem? hi)
theorem freshS_eq {d : Nat} : ∀ {S : List (Nat × Value)}, (S.all fun x => !(Nat.beq x.1 d)) = true → outS d S = S
  | [], _ => rfl
  | (k, v) :: r, h => by
    simp only [List.all_cons, Bool.and_eq_true, Bool.not_eq_true'] at h
    unfold outS
    rw [h.1, freshS_eq h.2]
/-- Sums that stay natural. -/
theorem nat_add {a b : Nat} (h : a + b ≤ 9223372036854775807) : Value.int .i64 (IntKind.wrap .i64 ((a : Int) + (b : Int))) = .int .i64 ((a + b : Nat) : Int) := by
  rw [show ((a + b : Nat) : Int) = (a : Int) + b from Int.natCast_add a b, IntWalk.i64_in _ (by omega)]
theorem nat_inc {a : Nat} (h : a < 9223372036854775807) : Value.int .i64 (IntKind.wrap .i64 ((a : Int) + 1)) = .int .i64 ((a + 1 : Nat) : Int) := nat_add (b := 1) (by omega)
theorem not_true {b : Bool} (h : (!b) = true) : b = false := by simpa using h
theorem not_false_ {b : Bool} (h : (!b) = false) : b = true := by simpa using h
theorem nd_true {p : Prop} [Decidable p] (h : (!decide p) = true) : ¬ p := fun hp => by simp [hp] at h
theorem nd_false {p : Prop} [Decidable p] (h : (!decide p) = false) : p := by simpa using h
theorem dec_true {p : Prop} [Decidable p] (h : decide p = true) : p := of_decide_eq_true h
theorem dec_false {p : Prop} [Decidable p] (h : decide p = false) : ¬ p := of_decide_eq_false h
end Go.Proofs.Ytkakbckmajdggaa
