import Derived.Test.YtegkmbkbaenkcaaGreatMapE
import Derived.Test.YtegkmbkbaenkcaaGreatPart
namespace Go.Proofs.YtegkmbkbaenkcaaGreat
open Go Go.RowKit
section
variable {κ α : Type} [DecidableEq κ]
theorem mlook_iff {x : κ} {a : α} {l : List (κ × α)} (hn : (l.map (·.1)).Nodup) : mlook x l = some a ↔ (x, a) ∈ l :=
  ⟨mlook_mem, fun h => by obtain ⟨i, hi⟩ := List.mem_iff_getElem?.1 h; exact mlook_at hn hi⟩
theorem mlook_perm {x : κ} {l l' : List (κ × α)} (h : l.Perm l') (hn : (l.map (·.1)).Nodup) : mlook x l = mlook x l' := by
  have hn' : (l'.map (·.1)).Nodup := (h.map _).nodup_iff.1 hn
  cases h1 : mlook x l with
  | some a => exact ((mlook_iff hn').2 (h.mem_iff.1 ((mlook_iff hn).1 h1))).symm
  | none =>
    cases h2 : mlook x l' with
    | none => rfl
    | some a => rw [(mlook_iff hn).2 (h.mem_iff.2 ((mlook_iff hn').1 h2))] at h1; cases h1
theorem mlook_isNone {x : κ} : ∀ {l : List (κ × α)}, mlook x l = none → x ∉ l.map (·.1)
  | [], _ => by simp
  | y :: l, h => by
    unfold mlook at h
    split at h
    · cases h
    · rename_i hne
      simp only [List.map_cons, List.mem_cons, not_or]
      exact ⟨fun e => hne e.symm, mlook_isNone h⟩
theorem mdel_cons {x : κ} {b : α} : ∀ {l : List (κ × α)}, mlook x l = some b → l.Perm ((x, b) :: mdel x l)
  | [], h => by cases h
  | y :: l, h => by
    unfold mlook at h
    unfold mdel
    split at h
    · rename_i e
      rw [if_pos e]
      cases h
      subst e
      exact List.Perm.refl _
    · rename_i hne
      rw [if_neg hne]
      exact ((mdel_cons h).cons y).trans (List.Perm.swap _ _ _)
theorem mdel_perm {x : κ} {l l' : List (κ × α)} (h : l.Perm l') (hn : (l.map (·.1)).Nodup) : (mdel x l).Perm (mdel x l') := by
  cases h1 : mlook x l with
  | none =>
    have h2 : mlook x l' = none := by rw [← mlook_perm h hn]; exact h1
    rw [mdel_new (mlook_isNone h1), mdel_new (mlook_isNone h2)]; exact h
  | some b =>
    have h2 : mlook x l' = some b := by rw [← mlook_perm h hn]; exact h1
    exact List.Perm.cons_inv (((mdel_cons h1).symm.trans h).trans (mdel_cons h2))
theorem mput_old_keys {x : κ} {a b : α} : ∀ {l : List (κ × α)}, mlook x l = some b → (mput x a l).map (·.1) = l.map (·.1)
  | [], h => by cases h
  | y :: l, h => by
    unfold mlook at h
    unfold mput
    split at h
    · rename_i e
      rw [if_pos e]; simp [e]
    · rename_i hne
      rw [if_neg hne]; simp only [List.map_cons]; rw [mput_old_keys h]
end
def EntOf {κ α : Type} {P : Program} {k : TypeId} (K : KeyL P k κ) (ag : Bool) (R : Rep α) (F : Foot) (E : Array MapEntry) (clock : Nat) (es : List (κ × α)) (w : World) : Prop :=
  E.toList.map (·.key) = es.map (fun x => K.enc x.1) ∧
    (∀ (i : Nat) (e : MapEntry) (x : κ × α), E.toList[i]? = some e → es[i]? = some x → ∃ cs, valOf ag cs = some e.val ∧ R.p F w cs x.2) ∧
    (es.map (·.1)).Nodup ∧ (∀ x ∈ es, K.ok x.1) ∧ (E.toList.map (·.born)).Nodup ∧ ∀ e ∈ E.toList, e.born < clock
def MapP {κ α : Type} {P : Program} {k : TypeId} (K : KeyL P k κ) (ag : Bool) (R : Rep α) (N F : Foot) (b : Nat) (es : List (κ × α)) (w : World) : Prop := ∃ es0 : List (κ × α), es0.Perm es ∧ MapE K ag R N F b es0 w
theorem MapP.good {κ α : Type} {P : Program} {k : TypeId} {K : KeyL P k κ} {ag : Bool} {R : Rep α} {b : Nat} {es : List (κ × α)} {N N' F G : Foot} {w w' : World} (hN : ∀ k, N k → N' k) (ha : Agree N w w') (hF : ∀ k, F k → G k) (hb : Agree F w w') (h : MapP K ag R N F b es w) : MapP K ag R N' G b es w' := by
  obtain ⟨es0, h1, h2⟩ := h
  exact ⟨es0, h1, h2.good hN ha hF hb⟩
def MapIt {κ α : Type} {P : Program} {k : TypeId} (K : KeyL P k κ) (ag : Bool) (R : Rep α) (N F : Foot) (b g : Nat) (es : List (κ × α)) (td : List κ) (last : Option κ) (w : World) : Prop :=
  N b ∧ N g ∧ ∃ (es0 : List (κ × α)) (E : Array MapEntry) (clock since c0 : Nat) (seen : Array Nat), es0.Perm es ∧ w.heap[b]? = some (.map E clock) ∧ w.heap[g]? = some (.mapIter (some b) since seen c0) ∧ EntOf K ag R F E clock es0 w ∧
    (∀ e ∈ E.toList, e.born < since) ∧ (since ≤ c0 ∧ since ≤ clock) ∧ td.Nodup ∧ (∀ x ∈ td, x ∈ es0.map (·.1)) ∧ (∀ (i : Nat) (e : MapEntry) (x : κ × α), E.toList[i]? = some e → es0[i]? = some x → (x.1 ∈ td ↔ seen.contains e.born = false)) ∧
    ∀ x, last = some x → ∃ (i : Nat) (e : MapEntry) (a : α) (sn : Array Nat), E.toList[i]? = some e ∧ es0[i]? = some (x, a) ∧ seen = sn.push e.born ∧ c0 = clock
theorem MapIt.good {κ α : Type} {P : Program} {k : TypeId} {K : KeyL P k κ} {ag : Bool} {R : Rep α} {b g : Nat} {es : List (κ × α)} {td : List κ} {last : Option κ} {N N' F G : Foot} {w w' : World} (hN : ∀ k, N k → N' k) (ha : Agree N w w') (hF : ∀ k, F k → G k) (hb : Agree F w w') (h : MapIt K ag R N F b g es td last w) : MapIt K ag R N' G b g es td last w' := by
  obtain ⟨h1, h2, es0, E, clock, since, c0, seen, h3, h4, h5, ⟨h6, h7, h8⟩, h9⟩ := h
  refine ⟨hN _ h1, hN _ h2, es0, E, clock, since, c0, seen, h3, (ha b h1).trans h4, (ha g h2).trans h5, ⟨h6, fun i e x hi hx => ?_, h8⟩, h9⟩
  obtain ⟨cs, q1, q2⟩ := h7 i e x hi hx
  exact ⟨cs, q1, R.good hF hb q2⟩
section rules
variable {P : Program} {C : Ctx} {n : Nat} {Q : Exit → Act → World → Prop} {Φ Φ' : List Fact} {H H' : List Fact} {S S' : List (Nat × Value)} {ops : Array Oper} {rest : List Oper} {o : Oper} {d : Nat}
variable {κ α : Type} [DecidableEq κ] {k : TypeId} {K : KeyL P k κ} {ag : Bool} {R : Rep α} {b g : Nat} {es : List (κ × α)}
omit [DecidableEq κ] in
theorem MapE.nodup {N F : Foot} {w : World} (h : MapE K ag R N F b es w) : (es.map (·.1)).Nodup := by obtain ⟨_, _, _, _, _, _, h5, _⟩ := h; exact h5
omit [DecidableEq κ] in
theorem MapP.blk {N F : Foot} {w : World} (h : MapP K ag R N F b es w) : ∃ (E : Array MapEntry) (clock : Nat), w.heap[b]? = some (.map E clock) ∧ E.size = es.length := by
  obtain ⟨es0, h1, _, E, clock, h2, h3, _⟩ := h
  refine ⟨E, clock, h2, ?_⟩
  have := congrArg List.length h3
  simp at this
  rw [this, h1.length_eq]
theorem set_same {w : World} {b : Nat} {o : Obj} (h : w.heap[b]? = some o) : { w with heap := w.heap.setIfInBounds b o } = w := by
  have : w.heap.setIfInBounds b o = w.heap := by
    apply Array.ext_getElem?
    intro q
    rw [Array.getElem?_setIfInBounds]
    split
    · rename_i e; subst e
      split
      · exact h.symm
      · rename_i hlt
        exact absurd (Array.getElem?_eq_some_iff.1 h).1 hlt
    · rfl
  rw [this]
theorem nodupG {β : Type} {l : List β} (h : l.Nodup) {i j : Nat} {a : β} (hi : l[i]? = some a) (hj : l[j]? = some a) : i = j := by
  obtain ⟨h1, h2⟩ := List.getElem?_eq_some_iff.1 hi
  obtain ⟨h3, h4⟩ := List.getElem?_eq_some_iff.1 hj
  exact (List.getElem_inj h).1 (h2.trans h4.symm)
theorem MapE.delNo {N F : Foot} {w : World} {t e : TypeId} {x : κ} (h : MapE K ag R N F b es w) (hx : K.ok x) (ht : P.underlying t = some (.map k e)) (hm : mlook x es = none) (ty : TypeId) :
    (Builtin.delete_ #[t, k] ty #[.map (some b), K.enc x]).run P w = .ok (.tuple #[]) w := by
  obtain ⟨E, clock, g1, g2, g3⟩ := h.find hx
  rcases g3 with ⟨q1, _, _⟩ | ⟨_, _, _, _, _, _, _, q4, _⟩
  · unfold Builtin.delete_
    simp [run_underlying ht, getObj_at g1, g2, q1, setObj_at _ g1, Result.andThen, set_same g1]
  · rw [hm] at q4; cases q4
theorem MapP.del {N F : Foot} {w : World} {t e : TypeId} {x : κ} (h : MapP K ag R N F b es w) (hx : K.ok x) (ht : P.underlying t = some (.map k e)) (ty : TypeId) :
    ∃ w', (Builtin.delete_ #[t, k] ty #[.map (some b), K.enc x]).run P w = .ok (.tuple #[]) w' ∧ Mod N w w' ∧ ((∀ cs y, R.p F w cs y → R.p F w' cs y) → MapP K ag R N F b (mdel x es) w') := by
  obtain ⟨es0, hp, h0⟩ := h
  cases hm : mlook x es0 with
  | none =>
    refine ⟨w, h0.delNo hx ht hm ty, Mod.refl _ _, fun _ => ⟨es0, ?_, h0⟩⟩
    have hm' : mlook x es = none := by rw [← mlook_perm hp h0.nodup]; exact hm
    rw [mdel_new (mlook_isNone hm')]; exact hp
  | some a =>
    obtain ⟨w', r1, r2, r3⟩ := h0.del hx ht hm ty
    exact ⟨w', r1, r2, fun hold => ⟨_, mdel_perm hp h0.nodup, r3 hold⟩⟩
omit [DecidableEq κ] in
theorem eqMap {t e : Nat} (ht : P.underlying t = some (.map k e)) (n : Nat) (a : Option Nat) (w : World) : (Op.equalIn (n + 1) t (.map a) (.map none)).run P w = .ok a.isNone w := by
  cases a <;> simp [Op.equalIn, run_underlying ht]
theorem eqlM {t e : Nat} (ht : P.underlying t = some (.map k e)) (x y : Operand) (a : Option Nat) (w : World) : (do eqGuard .eql t x y (.map a) (.map none); binOp .eql t (.map a) (.map none) : Sem Value).run P w = .ok (.bool a.isNone) w := by
  rw [Sem.run_bind, show (eqGuard .eql t x y (.map a) (.map none)).run P w = .ok () w from rfl, Result.andThen_ok]
  have h := eqMap ht 9999 a w
  simp only [binOp]
  simp [Op.equal, Op.maxDepth, h]
end rules
end Go.Proofs.YtegkmbkbaenkcaaGreat
