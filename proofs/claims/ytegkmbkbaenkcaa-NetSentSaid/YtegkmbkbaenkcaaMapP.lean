import Derived.Test.YtegkmbkbaenkcaaMapE
import Derived.Test.YtegkmbkbaenkcaaPart
namespace Go.Proofs.Ytegkmbkbaenkcaa
open Go Go.RowKit
section
variable {κ α : Type} [DecidableEq κ]
theorem mlook_iff {x : κ} {a : α} {l : List (κ × α)} (hn : (l.map (·.1)).Nodup) : mlook x l = some a ↔ (x, a) ∈ l :=
  ⟨mlook_mem, fun h => by obtain ⟨i, hi⟩ := List.mem_iff_getElem?.1 h; exact mlook_at hn hi⟩
theorem mlook_perm {x : κ} {l l' : List (κ × α)} (h : l.Perm l') (hn : (l.map (·.1)).Nodup) : mlook x l = mlook x l' := by
  have hn' : (l'.map (·.1)).Nodup := (h.map _).nodup_iff.1 hn
  cases h1 : mlook x l with
  | some a => exact ((mlook_iff hn').2 (h.mem_iff.1 ((mlook_iff hn).1 h1))).symm
  | none =>
    cases h2 : mlook x l' with
    | none => rfl
    | some a => rw [(mlook_iff hn).2 (h.mem_iff.2 ((mlook_iff hn').1 h2))] at h1; cases h1
theorem mlook_isNone {x : κ} : ∀ {l : List (κ × α)}, mlook x l = none → x ∉ l.map (·.1)
  | [], _ => by simp
  | y :: l, h => by
    unfold mlook at h
    split at h
    · cases h
    · rename_i hne
      simp only [List.map_cons, List.mem_cons, not_or]
      exact ⟨fun e => hne e.symm, mlook_isNone h⟩
theorem mlook_isSome {x : κ} {l : List (κ × α)} (h : x ∈ l.map (·.1)) : ∃ a, mlook x l = some a := by
  cases h1 : mlook x l with
  | some a => exact ⟨a, rfl⟩
  | none => exact absurd h (mlook_isNone h1)
theorem mdel_cons {x : κ} {b : α} : ∀ {l : List (κ × α)}, mlook x l = some b → l.Perm ((x, b) :: mdel x l)
  | [], h => by cases h
  | y :: l, h => by
    unfold mlook at h
    unfold mdel
    split at h
    · rename_i e
      rw [if_pos e]
      cases h
      subst e
      exact List.Perm.refl _
    · rename_i hne
      rw [if_neg hne]
      exact ((mdel_cons h).cons y).trans (List.Perm.swap _ _ _)
theorem mdel_perm {x : κ} {l l' : List (κ × α)} (h : l.Perm l') (hn : (l.map (·.1)).Nodup) : (mdel x l).Perm (mdel x l') := by
  cases h1 : mlook x l with
  | none =>
    have h2 : mlook x l' = none := by rw [← mlook_perm h hn]; exact h1
    rw [mdel_new (mlook_isNone h1), mdel_new (mlook_isNone h2)]; exact h
  | some b =>
    have h2 : mlook x l' = some b := by rw [← mlook_perm h hn]; exact h1
    exact List.Perm.cons_inv (((mdel_cons h1).symm.trans h).trans (mdel_cons h2))
theorem mput_old_keys {x : κ} {a b : α} : ∀ {l : List (κ × α)}, mlook x l = some b → (mput x a l).map (·.1) = l.map (·.1)
  | [], h => by cases h
  | y :: l, h => by
    unfold mlook at h
    unfold mput
    split at h
    · rename_i e
      rw [if_pos e]; simp [e]
    · rename_i hne
      rw [if_neg hne]; simp only [List.map_cons]; rw [mput_old_keys h]
def rmK (td : List κ) (k : κ) : List κ := td.erase k
theorem erase_lt {κ : Type} [DecidableEq κ] {td : List κ} {k : κ} (hk : k ∈ td) : (rmK td k).length < td.length := by
  unfold rmK
  have h1 := List.length_erase_of_mem hk
  have h2 := List.length_pos_of_mem hk
  omega
end
def EntOf {κ α : Type} {P : Program} {k : TypeId} (K : KeyL P k κ) (ag : Bool) (R : Rep α) (F : Foot) (E : Array MapEntry) (clock : Nat) (es : List (κ × α)) (w : World) : Prop :=
  E.toList.map (·.key) = es.map (fun x => K.enc x.1) ∧
    (∀ (i : Nat) (e : MapEntry) (x : κ × α), E.toList[i]? = some e → es[i]? = some x → ∃ cs, valOf ag cs = some e.val ∧ R.p F w cs x.2) ∧
    (es.map (·.1)).Nodup ∧ (∀ x ∈ es, K.ok x.1) ∧ (E.toList.map (·.born)).Nodup ∧ ∀ e ∈ E.toList, e.born < clock
def MapP {κ α : Type} {P : Program} {k : TypeId} (K : KeyL P k κ) (ag : Bool) (R : Rep α) (N F : Foot) (b : Nat) (es : List (κ × α)) (w : World) : Prop := ∃ es0 : List (κ × α), es0.Perm es ∧ MapE K ag R N F b es0 w
theorem MapP.good {κ α : Type} {P : Program} {k : TypeId} {K : KeyL P k κ} {ag : Bool} {R : Rep α} {b : Nat} {es : List (κ × α)} {N N' F G : Foot} {w w' : World} (hN : ∀ k, N k → N' k) (ha : Agree N w w') (hF : ∀ k, F k → G k) (hb : Agree F w w') (h : MapP K ag R N F b es w) : MapP K ag R N' G b es w' := by
  obtain ⟨es0, h1, h2⟩ := h
  exact ⟨es0, h1, h2.good hN ha hF hb⟩
def mapP {κ α : Type} {P : Program} {k : TypeId} (K : KeyL P k κ) (ag : Bool) (R : Rep α) (b : Nat) (es : List (κ × α)) : Fact := .duo (fun N F w => MapP K ag R N F b es w) MapP.good
def MapIt {κ α : Type} {P : Program} {k : TypeId} (K : KeyL P k κ) (ag : Bool) (R : Rep α) (N F : Foot) (b g : Nat) (es : List (κ × α)) (td : List κ) (last : Option κ) (w : World) : Prop :=
  N b ∧ N g ∧ ∃ (es0 : List (κ × α)) (E : Array MapEntry) (clock since c0 : Nat) (seen : Array Nat), es0.Perm es ∧ w.heap[b]? = some (.map E clock) ∧ w.heap[g]? = some (.mapIter (some b) since seen c0) ∧ EntOf K ag R F E clock es0 w ∧
    (∀ e ∈ E.toList, e.born < since) ∧ (since ≤ c0 ∧ since ≤ clock) ∧ td.Nodup ∧ (∀ x ∈ td, x ∈ es0.map (·.1)) ∧ (∀ (i : Nat) (e : MapEntry) (x : κ × α), E.toList[i]? = some e → es0[i]? = some x → (x.1 ∈ td ↔ seen.contains e.born = false)) ∧
    ∀ x, last = some x → ∃ (i : Nat) (e : MapEntry) (a : α) (sn : Array Nat), E.toList[i]? = some e ∧ es0[i]? = some (x, a) ∧ seen = sn.push e.born ∧ c0 = clock
theorem MapIt.good {κ α : Type} {P : Program} {k : TypeId} {K : KeyL P k κ} {ag : Bool} {R : Rep α} {b g : Nat} {es : List (κ × α)} {td : List κ} {last : Option κ} {N N' F G : Foot} {w w' : World} (hN : ∀ k, N k → N' k) (ha : Agree N w w') (hF : ∀ k, F k → G k) (hb : Agree F w w') (h : MapIt K ag R N F b g es td last w) : MapIt K ag R N' G b g es td last w' := by
  obtain ⟨h1, h2, es0, E, clock, since, c0, seen, h3, h4, h5, ⟨h6, h7, h8⟩, h9⟩ := h
  refine ⟨hN _ h1, hN _ h2, es0, E, clock, since, c0, seen, h3, (ha b h1).trans h4, (ha g h2).trans h5, ⟨h6, fun i e x hi hx => ?_, h8⟩, h9⟩
  obtain ⟨cs, q1, q2⟩ := h7 i e x hi hx
  exact ⟨cs, q1, R.good hF hb q2⟩
def mapIt {κ α : Type} {P : Program} {k : TypeId} (K : KeyL P k κ) (ag : Bool) (R : Rep α) (b g : Nat) (es : List (κ × α)) (td : List κ) (last : Option κ) : Fact := .duo (fun N F w => MapIt K ag R N F b g es td last w) MapIt.good
section rules
variable {P : Program} {C : Ctx} {n : Nat} {Q : Exit → Act → World → Prop} {Φ Φ' : List Fact} {H H' : List Fact} {S S' : List (Nat × Value)} {ops : Array Oper} {rest : List Oper} {o : Oper} {d : Nat}
variable {κ α : Type} [DecidableEq κ] {k : TypeId} {K : KeyL P k κ} {ag : Bool} {R : Rep α} {b g : Nat} {es : List (κ × α)}
omit [DecidableEq κ] in
theorem MapE.nodup {N F : Foot} {w : World} (h : MapE K ag R N F b es w) : (es.map (·.1)).Nodup := by obtain ⟨_, _, _, _, _, _, h5, _⟩ := h; exact h5
omit [DecidableEq κ] in
theorem MapP.blk {N F : Foot} {w : World} (h : MapP K ag R N F b es w) : ∃ (E : Array MapEntry) (clock : Nat), w.heap[b]? = some (.map E clock) ∧ E.size = es.length := by
  obtain ⟨es0, h1, _, E, clock, h2, h3, _⟩ := h
  refine ⟨E, clock, h2, ?_⟩
  have := congrArg List.length h3
  simp at this
  rw [this, h1.length_eq]
theorem set_same {w : World} {b : Nat} {o : Obj} (h : w.heap[b]? = some o) : { w with heap := w.heap.setIfInBounds b o } = w := by
  have : w.heap.setIfInBounds b o = w.heap := by
    apply Array.ext_getElem?
    intro q
    rw [Array.getElem?_setIfInBounds]
    split
    · rename_i e; subst e
      split
      · exact h.symm
      · rename_i hlt
        exact absurd (Array.getElem?_eq_some_iff.1 h).1 hlt
    · rfl
  rw [this]
theorem nodupG {β : Type} {l : List β} (h : l.Nodup) {i j : Nat} {a : β} (hi : l[i]? = some a) (hj : l[j]? = some a) : i = j := by
  obtain ⟨h1, h2⟩ := List.getElem?_eq_some_iff.1 hi
  obtain ⟨h3, h4⟩ := List.getElem?_eq_some_iff.1 hj
  exact (List.getElem_inj h).1 (h2.trans h4.symm)
theorem MapE.delNo {N F : Foot} {w : World} {t e : TypeId} {x : κ} (h : MapE K ag R N F b es w) (hx : K.ok x) (ht : P.underlying t = some (.map k e)) (hm : mlook x es = none) (ty : TypeId) :
    (Builtin.delete_ #[t, k] ty #[.map (some b), K.enc x]).run P w = .ok (.tuple #[]) w := by
  obtain ⟨E, clock, g1, g2, g3⟩ := h.find hx
  rcases g3 with ⟨q1, _, _⟩ | ⟨_, _, _, _, _, _, _, q4, _⟩
  · unfold Builtin.delete_
    simp [run_underlying ht, getObj_at g1, g2, q1, setObj_at _ g1, Result.andThen, set_same g1]
  · rw [hm] at q4; cases q4
theorem MapP.del {N F : Foot} {w : World} {t e : TypeId} {x : κ} (h : MapP K ag R N F b es w) (hx : K.ok x) (ht : P.underlying t = some (.map k e)) (ty : TypeId) :
    ∃ w', (Builtin.delete_ #[t, k] ty #[.map (some b), K.enc x]).run P w = .ok (.tuple #[]) w' ∧ Mod N w w' ∧ ((∀ cs y, R.p F w cs y → R.p F w' cs y) → MapP K ag R N F b (mdel x es) w') := by
  obtain ⟨es0, hp, h0⟩ := h
  cases hm : mlook x es0 with
  | none =>
    refine ⟨w, h0.delNo hx ht hm ty, Mod.refl _ _, fun _ => ⟨es0, ?_, h0⟩⟩
    have hm' : mlook x es = none := by rw [← mlook_perm hp h0.nodup]; exact hm
    rw [mdel_new (mlook_isNone hm')]; exact hp
  | some a =>
    obtain ⟨w', r1, r2, r3⟩ := h0.del hx ht hm ty
    exact ⟨w', r1, r2, fun hold => ⟨_, mdel_perm hp h0.nodup, r3 hold⟩⟩
omit [DecidableEq κ] in
theorem wl_rangeP {t e : Nat} {x : Operand} (j : Nat) (hg : wantS ops S o = some true) (hd : o.dst = some d) (hn : Nat.blt d n = true) (hS : outS d S = S') (ho : o.op = .range t x)
    (hφ : H[j]? = some (mapP K ag R b es)) (hx : evS S x = some (.map (some b))) (ht : P.underlying t = some (.map k e))
    (next : ∀ g, WL P C n Q Φ (H.set j (mapIt K ag R b g es (es.map (·.1)) none)) ((d, .pointer (some ⟨g, 0, none⟩)) :: S') ops rest) : WL P C n Q Φ H S ops (o :: rest) := by
  refine wl_run hg hd hn hS fun ac w hf hw => ?_
  obtain ⟨F, N, hi'⟩ := hw
  have hlt := (List.getElem?_eq_some_iff.1 hφ).1
  obtain ⟨es0, hp, hb0, E, clock, h2, h3, h4, h5, h6, h7, h8⟩ : MapP K ag R (N j) F b es w := hi'.owns j _ hφ
  have hbl : b < w.heap.size := (Array.getElem?_eq_some_iff.1 h2).1
  have hbel : Below w.heap.size w (w.alloc (.mapIter (some b) clock #[] clock)) := (Below.refl _ _).alloc (Nat.le_refl _) _
  have hmod : Mod (N j) w (w.alloc (.mapIter (some b) clock #[] clock)) := ⟨hbel.os, hbel.tape, hbel.output, hbel.size, fun q hq _ => hbel.block q hq⟩
  have hag : Agree F w (w.alloc (.mapIter (some b) clock #[] clock)) := fun q hq => hbel.block q (hi'.flt q hq)
  have hit : MapIt K ag R (fun q => N j q ∨ q = w.heap.size) F b w.heap.size es (es.map (·.1)) none (w.alloc (.mapIter (some b) clock #[] clock)) := by
    refine ⟨.inl hb0, .inr rfl, es0, E, clock, clock, clock, #[], hp, (hbel.block b hbl).trans h2, heap_alloc_new w _, ⟨h3, fun i e' x' hi hx' => ?_, h5, h6, h7, h8⟩, h8, ⟨Nat.le_refl _, Nat.le_refl _⟩, (hp.map _).nodup_iff.1 h5, fun x' hx' => (hp.map _).mem_iff.2 hx', fun i e' x' _ hx' => ?_, fun x' hx' => by cases hx'⟩
    · obtain ⟨cs, q1, q2⟩ := h4 i e' x' hi hx'
      exact ⟨cs, q1, R.good (fun _ h => h) hag q2⟩
    · have : x'.1 ∈ es.map (·.1) := (hp.map _).mem_iff.1 (List.mem_map.2 ⟨x', List.mem_of_getElem? hx', rfl⟩)
      simp [this]
  refine ⟨.pointer (some ⟨w.heap.size, 0, none⟩), w.alloc (.mapIter (some b) clock #[] clock), (by simp [execOp, ho, hf.eval hx, run_range_map w t k e b E clock ht h2]), Φ, _, ⟨F, _, hi'.set' j hlt hmod (fun q => N j q ∨ q = w.heap.size) (fun q hq => ?_) (mapIt K ag R b w.heap.size es (es.map (fun x : κ × α => x.1)) none) hit⟩, next _⟩
  rcases hq with hq | rfl
  · exact .inl hq
  · exact .inr ⟨Nat.le_refl _, by simp⟩
theorem wl_nextP {x : Operand} {td : List κ} {last : Option κ} (j : Nat) (hg : wantS ops S o = some true) (hd : o.dst = some d) (hn : Nat.blt d n = true) (hS : outS d S = S') (ho : o.op = .next x false)
    (hφ : H[j]? = some (mapIt K ag R b g es td last)) (hx : evS S x = some (.pointer (some ⟨g, 0, none⟩)))
    (no : td = [] → WL P C n Q Φ (H.set j (mapP K ag R b es)) ((d, .tuple #[.bool false]) :: S') ops rest)
    (yes : ∀ i v, i ∈ td → WL P C n Q Φ (H.set j (mapIt K ag R b g es (rmK td i) (some i))) ((d, .tuple #[.bool true, K.enc i, v]) :: S') ops rest) : WL P C n Q Φ H S ops (o :: rest) := by
  refine wl_run hg hd hn hS fun ac w hf hw => ?_
  obtain ⟨F, N, hi'⟩ := hw
  have hlt := (List.getElem?_eq_some_iff.1 hφ).1
  obtain ⟨hb0, hg0, es0, E, clock, since, c0, seen, hp, h1, h2, h3, h4, h5, h6, h7, h8, h9⟩ : MapIt K ag R (N j) F b g es td last w := hi'.owns j _ hφ
  obtain ⟨h31, h32, h33, h34, h35, h36⟩ := id h3
  have hlen : E.toList.length = es0.length := by simpa using congrArg List.length h31
  rcases run_next_at (P := P) w o.type g b since c0 seen E clock h2 h1 h4 h5.1 with ⟨q1, q2⟩ | ⟨e, he, w1, hw1, q2⟩
  · have htd : td = [] := by
      cases td with
      | nil => rfl
      | cons y td =>
        exfalso
        obtain ⟨z, hz, hzy⟩ := List.mem_map.1 (h7 y (by simp))
        obtain ⟨i, hi⟩ := List.mem_iff_getElem?.1 hz
        have hiE : i < E.toList.length := by rw [hlen]; exact (List.getElem?_eq_some_iff.1 hi).1
        have hu := (h8 i _ z (List.getElem?_eq_getElem hiE) hi).1 (by rw [hzy]; simp)
        have hs := all_seen E seen q1 _ (List.getElem_mem hiE)
        rw [hu] at hs; cases hs
    have hmp : MapP K ag R (N j) F b es w := ⟨es0, hp, hb0, E, clock, h1, h31, h32, h33, h34, h35, h36⟩
    exact ⟨.tuple #[.bool false], w, by simp [execOp, ho, hf.eval hx, q2], Φ, _, ⟨F, N, hi'.set j hlt (Mod.refl _ _) (mapP K ag R b es) hmp⟩, no htd⟩
  · obtain ⟨he1, he2⟩ := mem_left he
    obtain ⟨i, hi⟩ := List.mem_iff_getElem?.1 he1
    have hiE : i < es0.length := by rw [← hlen]; exact (List.getElem?_eq_some_iff.1 hi).1
    have hx0 : es0[i]? = some es0[i] := List.getElem?_eq_getElem hiE
    have hin : es0[i].1 ∈ td := (h8 i e _ hi hx0).2 he2
    have hkey : e.key = K.enc es0[i].1 := by
      have e1 : (E.toList.map (·.key))[i]? = some e.key := by rw [List.getElem?_map, hi]; rfl
      rw [h31, List.getElem?_map, hx0] at e1
      exact (Option.some.inj e1).symm
    have hbg : b ≠ g := fun e => by subst e; rw [h1] at h2; cases h2
    have hheap : w1.heap = w.heap := by rcases hw1 with rfl | rfl <;> rfl
    have hmod : Mod (N j) w (Go.ChangeMaps.setBlock w1 g (.mapIter (some b) since (seen.push e.born) clock)) := by
      have h0 : Mod (N j) w w1 := by
        rcases hw1 with rfl | rfl
        · exact Mod.refl _ _
        · exact (Mod.refl _ _).drew
      refine ⟨h0.os, h0.tape, h0.output, by rw [hheap.symm]; simp [Go.ChangeMaps.setBlock], fun q hq hnq => ?_⟩
      have hne : g ≠ q := fun e => hnq (e ▸ hg0)
      simp [Go.ChangeMaps.setBlock, Array.getElem?_setIfInBounds, hne, hheap]
    have hpush : ∀ q, (seen.push e.born).contains q = (seen.contains q || decide (q = e.born)) := fun q => by simp [Array.contains_push]
    have hgl : g < w.heap.size := (Array.getElem?_eq_some_iff.1 h2).1
    have hag : Agree F w (Go.ChangeMaps.setBlock w1 g (.mapIter (some b) since (seen.push e.born) clock)) := fun q hq => hmod.block q (hi'.flt q hq) (fun hn => (hi'.nlt j q hlt hn).2.2 hq)
    suffices hit : MapIt K ag R (N j) F b g es (rmK td es0[i].1) (some es0[i].1) (Go.ChangeMaps.setBlock w1 g (.mapIter (some b) since (seen.push e.born) clock)) from
      ⟨.tuple #[.bool true, K.enc es0[i].1, e.val], (Go.ChangeMaps.setBlock w1 g (.mapIter (some b) since (seen.push e.born) clock)), by simp [execOp, ho, hf.eval hx, q2, hkey], Φ, _, ⟨F, N, hi'.set j hlt hmod (mapIt K ag R b g es (rmK td es0[i].1) (some es0[i].1)) hit⟩, yes _ e.val hin⟩
    refine ⟨hb0, hg0, es0, E, clock, since, clock, seen.push e.born, hp, ?_, ?_, ⟨h31, fun i' e' x' hi' hx' => ?_, h33, h34, h35, h36⟩, h4, ?_, h6.erase _, fun y hy => h7 y (List.mem_of_mem_erase hy), fun i' e' x' hi2 hx' => ?_, fun y hy => ?_⟩
    · simp [Go.ChangeMaps.setBlock, Array.getElem?_setIfInBounds, Ne.symm hbg, hheap, h1]
    · simp [Go.ChangeMaps.setBlock, Array.getElem?_setIfInBounds, hheap, hgl]
    · obtain ⟨cs, p1, p2⟩ := h32 i' e' x' hi' hx'
      exact ⟨cs, p1, R.good (fun _ h => h) hag p2⟩
    · exact ⟨h5.2, h5.2⟩
    · rw [show rmK td es0[i].1 = td.erase es0[i].1 from rfl, h6.mem_erase_iff, h8 i' e' x' hi2 hx', hpush e'.born]
      have hiff : x'.1 = es0[i].1 ↔ e'.born = e.born := by
        constructor
        · intro hk
          have : i' = i := by
            have a1 : (es0.map (·.1))[i']? = some x'.1 := by rw [List.getElem?_map, hx']; rfl
            have a2 : (es0.map (·.1))[i]? = some x'.1 := by rw [List.getElem?_map, hx0, hk]; rfl
            exact nodupG h33 a1 a2
          subst this; rw [hi] at hi2; cases hi2; rfl
        · intro hb
          have : i' = i := by
            have a1 : (E.toList.map (·.born))[i']? = some e'.born := by rw [List.getElem?_map, hi2]; rfl
            have a2 : (E.toList.map (·.born))[i]? = some e'.born := by rw [List.getElem?_map, hi, hb]; rfl
            exact nodupG h35 a1 a2
          subst this; rw [hx0] at hx'; cases hx'; rfl
      by_cases hb : e'.born = e.born
      · simp [hiff.2 hb, hb]
      · have : ¬ x'.1 = es0[i].1 := fun h => hb (hiff.1 h)
        simp [this, hb]
    · cases hy
      exact ⟨i, e, es0[i].2, seen, hi, hx0, rfl, rfl⟩
theorem wl_entryP {x : Operand} {td : List κ} {i : κ} {a : α} {Λ : Type} {cells : α → Λ → List Value} {pure : α → Λ → Prop} {facts : α → Λ → List Fact} {v u : Λ → Value} (op : Opens R cells pure facts) (j : Nat) (hg : wantS ops S o = some true) (hd : o.dst = some d) (hn : Nat.blt d n = true) (hS : outS d S = S') (ho : o.op = .entry x)
    (hφ : H[j]? = some (mapIt K ag R b g es td (some i))) (hx : evS S x = some (.pointer (some ⟨g, 0, none⟩))) (hm : mlook i es = some a) (hu : ∀ r, valOf ag (cells a r) = some (u r)) (hv : ∀ r, .tuple #[K.enc i, u r] = v r) (hH : H.set j (mapIt K ag R b g es td none) = H')
    (next : ∀ r, pure a r → WL P C n Q (facts a r ++ Φ) H' ((d, v r) :: S') ops rest) : WL P C n Q Φ H S ops (o :: rest) := by
  refine wl_run hg hd hn hS fun ac w hf hw => ?_
  obtain ⟨F, N, hi'⟩ := hw
  have hlt := (List.getElem?_eq_some_iff.1 hφ).1
  obtain ⟨hb0, hg0, es0, E, clock, since, c0, seen, hp, h1, h2, h3, h4, h5, h6, h7, h8, h9⟩ : MapIt K ag R (N j) F b g es td (some i) w := hi'.owns j _ hφ
  obtain ⟨h31, h32, h33, h34, h35, h36⟩ := id h3
  obtain ⟨q, e, a', sn, q1, q2, rfl, rfl⟩ := h9 i rfl
  have ha : a' = a := by
    have h10 := mlook_at h33 q2
    rw [mlook_perm hp h33, hm] at h10
    exact (Option.some.inj h10).symm
  subst ha
  obtain ⟨cs, p1, p2⟩ := h32 q e _ q1 q2
  obtain ⟨r, r1, r2, r3⟩ := op F w cs a' p2
  subst r1
  rw [hu r] at p1
  have hkey : e.key = K.enc i := by
    have e1 : (E.toList.map (·.key))[q]? = some e.key := by rw [List.getElem?_map, q1]; rfl
    rw [h31, List.getElem?_map, q2] at e1
    exact (Option.some.inj e1).symm
  have hrun := run_entry_at (P := P) w g b since sn E c0 e h2 h1 (List.mem_of_getElem? q1) h35
  rw [hkey, ← Option.some.inj p1, hv r] at hrun
  have hit : MapIt K ag R (N j) F b g es td none w := ⟨hb0, hg0, es0, E, c0, since, c0, sn.push e.born, hp, h1, h2, h3, h4, h5, h6, h7, h8, fun x hx => by cases hx⟩
  have hset := hi'.set j hlt (Mod.refl _ _) (mapIt K ag R b g es td none) hit
  rw [hH] at hset
  refine ⟨v r, w, by simp [execOp, ho, hf.eval hx, hrun], facts a' r ++ Φ, _, ⟨F, N, { hset with facts := fun φ hφ' => ?_ }⟩, next r r2⟩
  rcases List.mem_append.1 hφ' with hφ' | hφ'
  · exact r3 φ hφ'
  · exact hi'.facts φ hφ'
omit [DecidableEq κ] in
theorem eqMap {t e : Nat} (ht : P.underlying t = some (.map k e)) (n : Nat) (a : Option Nat) (w : World) : (Op.equalIn (n + 1) t (.map a) (.map none)).run P w = .ok a.isNone w := by
  cases a <;> simp [Op.equalIn, run_underlying ht]
theorem eqlM {t e : Nat} (ht : P.underlying t = some (.map k e)) (x y : Operand) (a : Option Nat) (w : World) : (do eqGuard .eql t x y (.map a) (.map none); binOp .eql t (.map a) (.map none) : Sem Value).run P w = .ok (.bool a.isNone) w := by
  rw [Sem.run_bind, show (eqGuard .eql t x y (.map a) (.map none)).run P w = .ok () w from rfl, Result.andThen_ok]
  have h := eqMap ht 9999 a w
  simp only [binOp]
  simp [Op.equal, Op.maxDepth, h]
end rules
end Go.Proofs.Ytegkmbkbaenkcaa
