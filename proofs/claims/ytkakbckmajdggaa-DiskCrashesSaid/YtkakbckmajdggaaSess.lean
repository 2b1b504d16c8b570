/- How a reply and a session read. No program in sight. -/
import Derived.Test.YtkakbckmajdggaaDyn
namespace Go.Proofs.Ytkakbckmajdggaa
open Go.RowKit

structure ReplyD where
  err : Int
  num : Int
  facts : List FactD
  said : List V
structure SessD where
  id : Int
  seq : Int
  r : ReplyD
abbrev RowAt := Option Addr × Nat
def ReplyD.ok (x : ReplyD) : Prop := inI x.err ∧ inI x.num
def SessD.ok (x : SessD) : Prop := inI x.id ∧ inI x.seq ∧ x.r.ok
def rplCells (x : ReplyD) (r : RowAt × RowAt) : List Value := [.int .i64 x.err, .int .i64 x.num, .slice r.1.1 x.facts.length r.1.2, .slice r.2.1 x.said.length r.2.2]
def rplFacts (x : ReplyD) (r : RowAt × RowAt) : List Fact := [.sli 3 fRep r.1.1 r.1.2 x.facts, .sli 3 vRep r.2.1 r.2.2 x.said]
def sesCells (x : SessD) (r : RowAt × RowAt) : List Value := .int .i64 x.id :: .int .i64 x.seq :: rplCells x.r r
def sesRep : Rep SessD := ⟨fun F w cs x => x.ok ∧ ∃ r : RowAt × RowAt, cs = sesCells x r ∧ ∀ φ ∈ rplFacts x.r r, φ.p F w, fun hF ha ⟨h0, r, h1, h2⟩ => ⟨h0, r, h1, fun φ hφ => Fact.good _ hF ha (h2 φ hφ)⟩,
  fun ⟨_, r, h1, _⟩ u hu => by rw [h1] at hu; simp [sesCells, rplCells] at hu; rcases hu with rfl | rfl | rfl | rfl | rfl | rfl <;> rfl⟩
theorem sesRep_opens : Opens sesRep sesCells (fun x _ => x.ok) (fun x r => rplFacts x.r r) := fun _ _ _ _ ⟨h0, r, h1, h2⟩ => ⟨r, h1, h0, h2⟩
theorem sesRep_shuts : Shuts sesRep sesCells (fun x _ => x.ok) (fun x r => rplFacts x.r r) := fun _ _ _ r h0 h => ⟨h0, r, rfl, h⟩
/-- A session that begins. -/
def sesNew (id : Int) : SessD := ⟨id, 0, ⟨0, 0, [], []⟩⟩
theorem sesNew_rep {F : Foot} {w : World} {id : Int} (h : inI id) : sesRep.p F w [.int .i64 id, .int .i64 0, .int .i64 0, .int .i64 0, .slice none 0 0, .slice none 0 0] (sesNew id) :=
  ⟨⟨h, by simp [sesNew, inI], by simp [sesNew, ReplyD.ok, inI]⟩, ((none, 0), (none, 0)), rfl, fun φ hφ => by
    simp [rplFacts, sesNew] at hφ
    rcases hφ with rfl | rfl
    · exact sli_none
    · exact sli_none⟩
/-- Where a session stands; -1: nowhere. -/
def placeOf : List SessD → Int → Int
  | [], _ => -1
  | x :: l, id => if x.id = id then 0 else if placeOf l id = -1 then -1 else placeOf l id + 1
theorem placeOf_ge : ∀ (l : List SessD) (id : Int), -1 ≤ placeOf l id
  | [], _ => by simp [placeOf]
  | x :: l, id => by
    have := placeOf_ge l id
    unfold placeOf
    split
    · omega
    · split <;> omega
theorem placeOf_none : ∀ {l : List SessD} {id : Int}, (∀ x ∈ l, x.id ≠ id) → placeOf l id = -1
  | [], _, _ => rfl
  | x :: l, id, h => by
    unfold placeOf
    rw [if_neg (h x (by simp)), if_pos (placeOf_none fun y hy => h y (by simp [hy]))]
theorem placeOf_at : ∀ {l : List SessD} {id : Int} {k : Nat} {x : SessD}, (∀ y ∈ l.take k, y.id ≠ id) → l[k]? = some x → x.id = id → placeOf l id = k
  | y :: l, id, 0, x, _, hx, hid => by
    simp at hx; subst hx
    unfold placeOf; rw [if_pos hid]; rfl
  | y :: l, id, k + 1, x, h, hx, hid => by
    have h1 := placeOf_at (l := l) (k := k) (fun z hz => h z (by simp [hz])) (by simpa using hx) hid
    unfold placeOf
    rw [if_neg (h y (by simp)), h1, if_neg (by omega)]
    simp
  | [], _, _, _, _, hx, _ => by simp at hx
/-- Where it stands, it is. -/
theorem placeOf_get : ∀ {l : List SessD} {id : Int}, 0 ≤ placeOf l id → ∃ x, l[(placeOf l id).toNat]? = some x ∧ x.id = id
  | [], _, h => by simp [placeOf] at h
  | y :: l, id, h => by
    have hg := placeOf_ge l id
    unfold placeOf at h ⊢
    split
    · rename_i e; exact ⟨y, by simp, e⟩
    · rename_i e
      rw [if_neg e] at h
      split
      · rename_i e2; rw [if_pos e2] at h; omega
      · rename_i e2
        obtain ⟨x, h1, h2⟩ := placeOf_get (l := l) (id := id) (by omega)
        exact ⟨x, by rw [show (placeOf l id + 1).toNat = (placeOf l id).toNat + 1 from by omega]; simpa using h1, h2⟩
theorem noId_step {l : List SessD} {id : Int} {k : Nat} {x : SessD} (h : ∀ y ∈ l.take k, y.id ≠ id) (hx : l[k]? = some x) (hne : x.id ≠ id) : ∀ y ∈ l.take (k + 1), y.id ≠ id := fun y hy => by
  rw [List.take_add_one, hx] at hy
  rcases List.mem_append.1 hy with hy | hy
  · exact h y hy
  · simp at hy; subst hy; exact hne
theorem noId_all {l : List SessD} {id : Int} {k : Nat} (h : ∀ y ∈ l.take k, y.id ≠ id) (hk : l.length ≤ k) : ∀ y ∈ l, y.id ≠ id := by rwa [List.take_of_length_le hk] at h
theorem placeOf_lt {l : List SessD} {id : Int} (h : 0 ≤ placeOf l id) : (placeOf l id).toNat < l.length := by
  obtain ⟨x, h1, _⟩ := placeOf_get h
  exact (List.getElem?_eq_some_iff.1 h1).1
theorem placeOf_nat {l : List SessD} {id : Int} (h : 0 ≤ placeOf l id) : placeOf l id = ((placeOf l id).toNat : Int) := (Int.toNat_of_nonneg h).symm
def rplNil : ReplyD := ⟨0, 0, [], []⟩
/-- What Ask says. -/
def askOf (L : List SessD) (id seq : Int) : ReplyD × Bool × Int :=
  if placeOf L id < 0 then (rplNil, false, 303) else match L[(placeOf L id).toNat]? with
    | none => (rplNil, false, 0)
    | some s => if seq < 1 ∨ seq < s.seq then (rplNil, false, 304) else if seq = s.seq then (s.r, true, 0) else (rplNil, false, 0)
/-- What Done does and says. -/
def doneOf (L : List SessD) (id seq : Int) (x : ReplyD) : List SessD × Int :=
  if placeOf L id < 0 then (L, 303) else match L[(placeOf L id).toNat]? with
    | none => (L, 0)
    | some s => if seq < 1 ∨ seq ≤ s.seq then (L, 304) else (L.set (placeOf L id).toNat ⟨s.id, seq, x⟩, 0)
/-- A reply whose lists are not too long. -/
def ReplyD.small (x : ReplyD) : Prop := x.facts.length ≤ 1048576 ∧ x.said.length ≤ 1048576 ∧ ∀ f ∈ x.facts, f.args.length ≤ 1048576
end Go.Proofs.Ytkakbckmajdggaa
