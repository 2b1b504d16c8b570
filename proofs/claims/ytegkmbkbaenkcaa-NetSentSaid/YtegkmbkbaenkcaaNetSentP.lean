import Derived.Test.YtegkmbkbaenkcaaNetLivesP
namespace Go.Proofs.Ytegkmbkbaenkcaa
open Go Go.RowKit
theorem cut_perm {l : List (List Int)} {n : Nat} {x : List Int} (h : l[n]? = some x) : l.Perm (x :: cutL l n) := by
  have hn := (List.getElem?_eq_some_iff.1 h)
  obtain ⟨hlt, hx⟩ := hn
  have e1 : l = l.take n ++ (x :: l.drop (n + 1)) := by
    conv => lhs; rw [← List.take_append_drop n l, List.drop_eq_getElem_cons hlt, hx]
  have e2 : (l.take n ++ (x :: l.drop (n + 1))).Perm (x :: (l.take n ++ l.drop (n + 1))) := List.perm_middle
  have e3 : l.Perm (l.take n ++ (x :: l.drop (n + 1))) := by rw [← e1]
  exact e3.trans e2
section
variable {N : Nat}
theorem sameB_is {l m : List Int} (hN : 9223372036854775808 ≤ N) (hl : l.length ≤ 1000000) : m_ropewalkkit_SameBytes N l m = some (decide (l = m)) := by
  obtain ⟨b, h1, h2⟩ := Says.same (f := m_ropewalkkit_SameBytes_L1 N l m) (l := l) (m := m) hN (by omega) (fun hlen i x y hi hx hy => by
    unfold m_ropewalkkit_SameBytes_L1
    rw [if_pos (by simpa using hi), hx, bindO_pure, hy, bindO_pure]
    by_cases h : x = y
    · exact ⟨true, by simp [h], by rw [if_neg (by simp [h]), gd_pos (by omega), if_pos rfl]⟩
    · exact ⟨false, by simp [h], by rw [if_pos (by simpa using h), if_neg (by simp)]⟩) (fun i hi => by
    unfold m_ropewalkkit_SameBytes_L1
    rw [if_neg (by simpa using hi)])
  unfold m_ropewalkkit_SameBytes
  rw [h1]
  congr 1
  by_cases h : l = m
  · rw [h2.2 h]; simp [h]
  · cases b with
    | true => exact absurd (h2.1 rfl) h
    | false => simp [h]
theorem placeB_is {l : List (List Int)} {b : List Int} (hN : 9223372036854775808 ≤ N) (hl : l.length ≤ 1000) (hb : ∀ x ∈ l, x.length ≤ 1000000) :
    (∃ j : Nat, l[j]? = some b ∧ m_ropewalklaw20_place N l b = some ((j : Nat) : Int)) ∨ (b ∉ l ∧ m_ropewalklaw20_place N l b = some (-1)) := by
  unfold m_ropewalklaw20_place
  obtain ⟨o, h1, h2⟩ := iter_inv (f := m_ropewalklaw20_place_L1 N l b) (fun i => i ≤ l.length ∧ b ∉ l.take i) (fun i => l.length - i) (fun o => (∃ j : Nat, l[j]? = some b ∧ o = .inr ((j : Nat) : Int)) ∨ (b ∉ l ∧ o = .inl ())) (fun i hs => by
    obtain ⟨q1, q2⟩ := hs
    unfold m_ropewalklaw20_place_L1
    by_cases hi : i < l.length
    · have hx : l[i]? = some l[i] := List.getElem?_eq_getElem hi
      rw [if_pos (by simpa using hi), hx, bindO_pure, sameB_is hN (hb _ (List.getElem_mem hi)), bindO_pure]
      by_cases h : l[i] = b
      · right
        exact ⟨_, by rw [if_pos (by simpa using h)], .inl ⟨i, by rw [hx, h], rfl⟩⟩
      · left
        refine ⟨i + 1, by rw [if_neg (by simpa using h), gd_pos (by omega)], ⟨by omega, ?_⟩, by omega⟩
        rw [List.take_add_one, hx, List.mem_append]
        rintro (h' | h')
        · exact q2 h'
        · simp at h'; exact h h'.symm
    · right
      refine ⟨_, by rw [if_neg (by simpa using hi)], .inr ⟨?_, rfl⟩⟩
      rw [List.take_of_length_le (by omega)] at q2; exact q2) N 0 ⟨Nat.zero_le _, by simp⟩ (by omega)
  rw [h1]
  rcases h2 with ⟨j, h2, rfl⟩ | ⟨h2, rfl⟩
  · exact .inl ⟨j, h2, by rw [bindS_inr]⟩
  · exact .inr ⟨h2, by rw [bindS_inl]⟩
theorem pick_is {o k : Int} (hk : 0 < k) (hk2 : k ≤ 1000) (ho : i64 o) : ∃ v, m_ropewalkkit_Pick N o k = some v ∧ 0 ≤ v ∧ v < k := by
  unfold m_ropewalkkit_Pick
  have h1 := Int.tmod_lt_of_pos o hk
  rw [if_neg (by simp; omega), gd_pos (by omega)]
  by_cases hm : Int.tmod o k < 0
  · have h2 : -k < Int.tmod o k := Int.lt_tmod_of_pos o hk
    rw [if_pos (by simpa using hm), gd_pos (by omega), bindO_pure]; exact ⟨_, rfl, by omega, by omega⟩
  · rw [if_neg (by simpa using hm), bindO_pure]; exact ⟨_, rfl, by omega, by omega⟩
def SameG (e e' : EnvG) : Prop := ∀ k, bagE e' k = bagE e k
theorem send_ok {e : EnvG} {k : Ky} {l : List Int} (h : l.length ≤ 1000) : sendC e k l = if 64 ≤ (bagE e k).length then 5 else 0 := by
  unfold sendC
  rw [if_neg (by omega)]
theorem peeked_is {e : EnvG} {k : Ky} {c : Int} (hN : 9223372036854775808 ≤ N) (he : InvG e) (h1 : i64 k.1) (h2 : i64 k.2) (hl : (bagE e k).length ≤ 64) (hb : ∀ b ∈ bagE e k, b.length ≤ 1000) :
    ∃ e', m_ropewalklaw20_peeked N e k.1 k.2 c = some (if isAt e k c then (bagE e k).getD c.toNat [] else [], e') ∧ InvG e' ∧ SameG e e' := by
  unfold m_ropewalklaw20_peeked
  obtain ⟨o, g1, g2⟩ := iter_inv (f := m_ropewalklaw20_peeked_L1 N c k.1 k.2) (fun s => s.1 ≤ 64 ∧ (c < 0 → s.1 = 0) ∧ s.2.1 = ((bagE e k).drop c.toNat).take s.1 ∧ InvG s.2.2 ∧ s.1 ≤ (bagE e k).length - c.toNat ∧ bagE s.2.2 k = (if c < 0 then bagE e k else (bagE e k).take c.toNat ++ (bagE e k).drop (c.toNat + s.1)) ∧ ∀ k', k' ≠ k → bagE s.2.2 k' = bagE e k')
    (fun s => 64 - s.1) (fun o => o.2 = (if c < 0 then [] else (bagE e k).drop c.toNat) ∧ InvG o.1 ∧ bagE o.1 k = (if c < 0 then bagE e k else (bagE e k).take c.toNat) ∧ ∀ k', k' ≠ k → bagE o.1 k' = bagE e k') (fun s hs => by
    obtain ⟨n, rest, e1⟩ := s
    obtain ⟨q1, q2, q3, q4, q5, q6, q7⟩ := hs
    simp only at q1 q2 q3 q4 q5 q6 q7
    unfold m_ropewalklaw20_peeked_L1
    simp only
    by_cases h0 : c < 0
    · right
      obtain rfl := q2 h0
      rw [if_pos h0] at q6
      refine ⟨(e1, rest), ?_, by rw [if_pos h0, q3]; simp, q4, by rw [if_pos h0]; exact q6, q7⟩
      rw [if_pos (by simp), bindO_pure, if_neg (by simpa using h0)]
    · rw [if_neg h0] at q6
      have hbl : (bagE e1 k).length = (bagE e k).length - n ∨ (bagE e k).length ≤ c.toNat := by
        rw [q6, List.length_append, List.length_take, List.length_drop]; omega
      by_cases hn : n < 64
      · rw [if_pos (by simpa using hn), bindO_pure, if_pos (by simpa using h0), take_is h1 h2 (by rw [q6, List.length_append, List.length_take, List.length_drop]; omega)]
        by_cases ha : c.toNat + n < (bagE e k).length
        · left
          have hat : isAt e1 k c := ⟨by omega, by rw [q6, List.length_append, List.length_take, List.length_drop]; omega⟩
          have hx : (bagE e1 k).getD c.toNat [] = (bagE e k).getD (c.toNat + n) [] := by
            rw [List.getD_eq_getElem?_getD, List.getD_eq_getElem?_getD, q6, List.getElem?_append_right (by rw [List.length_take]; omega), List.length_take, List.getElem?_drop]
            congr 2
            omega
          rw [if_pos hat, bindO_pure]
          simp only
          rw [if_neg (by simp), gd_pos (by rw [q3]; simp; omega), gd_pos (by omega)]
          refine ⟨_, rfl, ⟨by simp only; omega, fun h => absurd h h0, ?_, q4.take _ _, by simp only; omega, ?_, fun k' hk' => by simp only; rw [bag_take_ne hk', q7 k' hk']⟩, by simp only; omega⟩
          · simp only
            rw [hx, q3, List.take_add_one, List.getElem?_drop, List.getD_eq_getElem?_getD, List.getElem?_eq_getElem ha]; rfl
          · simp only
            rw [if_neg h0, bag_take q4.nodup]
            unfold cutL
            rw [q6, List.take_append_of_le_length (by rw [List.length_take]; omega), List.take_of_length_le (by rw [List.length_take]; omega), List.drop_append, List.drop_of_length_le (by rw [List.length_take]; omega), List.nil_append, List.drop_drop, List.length_take]
            congr 2
            omega
        · right
          have hat : ¬ isAt e1 k c := fun h => by
            have := h.2
            rw [q6, List.length_append, List.length_take, List.length_drop] at this
            omega
          rw [if_neg hat, bindO_pure]
          simp only
          refine ⟨(e1, rest), by rw [if_pos (by simp)], ?_, q4, ?_, q7⟩
          · rw [if_neg h0, q3, List.take_of_length_le (by rw [List.length_drop]; omega)]
          · rw [if_neg h0, q6, List.drop_of_length_le (by omega), List.append_nil]
      · right
        obtain rfl : n = 64 := by omega
        refine ⟨(e1, rest), by rw [if_neg (by simp), bindO_pure, if_neg (by simp)], ?_, q4, ?_, q7⟩
        · rw [if_neg h0, q3, List.take_of_length_le (by rw [List.length_drop]; omega)]
        · rw [if_neg h0, q6, List.drop_of_length_le (by omega), List.append_nil]) N (0, [], e) ⟨Nat.zero_le _, fun _ => rfl, by simp, he, Nat.zero_le _, by
      simp only
      split
      · rfl
      · rw [Nat.add_zero, List.take_append_drop], fun k' _ => rfl⟩ (by simp only; omega)
  rw [g1, bindO_pure]
  obtain ⟨e1, rest⟩ := o
  obtain ⟨p1, p2, p3, p4⟩ := g2
  simp only at p1 p2 p3 p4
  simp only
  have hB : (if c < 0 then bagE e k else (bagE e k).take c.toNat) ++ rest = bagE e k := by
    rw [p1]
    split
    · simp
    · exact List.take_append_drop _ _
  have hrl : (bagE e1 k).length + rest.length ≤ 64 := by
    have := congrArg List.length hB
    rw [← p3] at this
    rw [List.length_append] at this
    omega
  have hrb : ∀ b ∈ rest, b.length ≤ 1000 := fun b hm => hb b (by rw [← hB]; exact List.mem_append_right _ hm)
  obtain ⟨o, g3, g4⟩ := iter_inv (f := m_ropewalklaw20_peeked_L2 N rest k.1 k.2) (fun s => s.1 ≤ rest.length ∧ InvG s.2 ∧ bagE s.2 k = bagE e1 k ++ rest.take s.1 ∧ ∀ k', k' ≠ k → bagE s.2 k' = bagE e k')
    (fun s => rest.length - s.1) (fun o => InvG o ∧ bagE o k = bagE e1 k ++ rest ∧ ∀ k', k' ≠ k → bagE o k' = bagE e k') (fun s hs => by
    obtain ⟨n, e2⟩ := s
    obtain ⟨q1, q2, q3, q4⟩ := hs
    simp only at q1 q2 q3 q4
    unfold m_ropewalklaw20_peeked_L2
    simp only
    by_cases hn : n < rest.length
    · left
      have hx : rest[n]? = some rest[n] := List.getElem?_eq_getElem hn
      have hbl : (bagE e2 k).length < 64 := by rw [q3, List.length_append, List.length_take]; omega
      have hc : sendC e2 k rest[n] = 0 := by rw [send_ok (hrb _ (List.getElem_mem hn)), if_neg (by omega)]
      rw [if_pos (by simpa using hn), hx, bindO_pure, send_is h1 h2 (by show (bagE e2 k).length ≤ _; omega), bindO_pure]
      simp only
      rw [gd_pos (by omega)]
      refine ⟨_, rfl, ⟨by simp only; omega, q2.send _ _, ?_, fun k' hk' => by simp only; rw [bag_send_ne hk', q4 k' hk']⟩, by simp only; omega⟩
      simp only
      rw [bag_send, if_pos hc, q3, List.take_add_one, hx, List.append_assoc]; rfl
    · right
      refine ⟨e2, by rw [if_neg (by simpa using hn)], q2, ?_, q4⟩
      rw [q3, List.take_of_length_le (by omega)]) N (0, e1) ⟨Nat.zero_le _, p2, by simp, p4⟩ (by simp only; omega)
  rw [g3, bindO_pure]
  obtain ⟨r1, r2, r3⟩ := g4
  have hS : SameG e o := fun k' => by
    by_cases hk : k' = k
    · subst hk; rw [r2, p3, hB]
    · exact r3 k' hk
  by_cases hr : rest.length = 0
  · rw [if_pos (by simpa using hr), if_neg (fun h => by
      have h3 := h.1
      have h4 := h.2
      rw [p1, if_neg (by omega), List.length_drop] at hr
      omega)]
    exact ⟨o, rfl, r1, hS⟩
  · have hc : ¬ c < 0 := fun h => hr (by rw [p1, if_pos h]; rfl)
    rw [if_neg hc] at p1
    have hlt : c.toNat < (bagE e k).length := by rw [p1, List.length_drop] at hr; omega
    rw [if_neg (by simpa using hr), if_pos ⟨by omega, hlt⟩]
    have hx : rest[0]? = some ((bagE e k).getD c.toNat []) := by
      rw [p1, List.getElem?_drop, Nat.add_zero, List.getD_eq_getElem?_getD, List.getElem?_eq_getElem hlt]; rfl
    rw [hx, bindO_pure]
    exact ⟨o, rfl, r1, hS⟩
def kk (j : Nat) : Ky := (((j / 4 : Nat) : Int), ((j % 4 : Nat) : Int))
structure PermT (e : EnvG) (T : List (List (List Int))) : Prop where
  inv : InvG e
  len : T.length = 16
  bag : ∀ j t, T[j]? = some t → (bagE e (kk j)).Perm t
  few : ∀ j, j < 16 → (bagE e (kk j)).length ≤ 64
  small : ∀ j, j < 16 → ∀ b ∈ bagE e (kk j), b.length ≤ 1000
theorem PermT.same {e e' : EnvG} {T : List (List (List Int))} (h : PermT e T) (hi : InvG e') (hs : SameG e e') : PermT e' T :=
  ⟨hi, h.len, fun j t ht => by rw [hs]; exact h.bag j t ht, fun j hj => by rw [hs]; exact h.few j hj, fun j hj => by rw [hs]; exact h.small j hj⟩
theorem kk_ne {j j0 : Nat} (h : j ≠ j0) : kk j ≠ kk j0 := fun e => h (by
  simp only [kk, Prod.mk.injEq] at e
  omega)
theorem PermT.set {e e' : EnvG} {T : List (List (List Int))} {j0 : Nat} {t : List (List Int)} (h : PermT e T) (hj : j0 < 16) (hi : InvG e') (h1 : (bagE e' (kk j0)).Perm t) (h2 : ∀ k, k ≠ kk j0 → bagE e' k = bagE e k) (h3 : (bagE e' (kk j0)).length ≤ 64) (h4 : ∀ b ∈ bagE e' (kk j0), b.length ≤ 1000) : PermT e' (T.set j0 t) := by
  refine ⟨hi, by rw [List.length_set]; exact h.len, fun j u hu => ?_, fun j hj' => ?_, fun j hj' => ?_⟩
  · by_cases hjj : j = j0
    · subst hjj
      rw [List.getElem?_set_self (by rw [h.len]; exact hj)] at hu
      cases hu; exact h1
    · rw [List.getElem?_set_ne (Ne.symm hjj)] at hu
      rw [h2 _ (kk_ne hjj)]; exact h.bag j u hu
  · by_cases hjj : j = j0
    · subst hjj; exact h3
    · rw [h2 _ (kk_ne hjj)]; exact h.few j hj'
  · by_cases hjj : j = j0
    · subst hjj; exact h4
    · rw [h2 _ (kk_ne hjj)]; exact h.small j hj'
theorem sent_step {e : EnvG} {T : List (List (List Int))} {x : Ropewalklaw20_DoD} {a b : Int} {t : List (List Int)} (hN : 9223372036854775808 ≤ N) (h : PermT e T) (ho : i64 x.op) (hc : i64 x.at_) (ha : 0 ≤ a ∧ a < 4) (hb : 0 ≤ b ∧ b < 4) (hx : x.b.length ≤ 1000) (ht : T[(4 * a + b).toNat]? = some t) :
    ∃ T' e', m_ropewalklaw20_NetSent_C5 N x e a b T (decide (isAt e (a, b) x.at_)) = some (.inl (T', e')) ∧ PermT e' T' := by
  have hj : (4 * a + b).toNat < 16 := by omega
  have hkk : kk (4 * a + b).toNat = (a, b) := by
    simp only [kk, Prod.mk.injEq]; omega
  have i1 : i64 a := ⟨by omega, by omega⟩
  have i2 : i64 b := ⟨by omega, by omega⟩
  have hfew := h.few _ hj
  have hsm := h.small _ hj
  have hp := h.bag _ _ ht
  rw [hkk] at hfew hsm hp
  have htl : t.length ≤ 64 := by rw [← hp.length_eq]; exact hfew
  have hts : ∀ y ∈ t, y.length ≤ 1000 := fun y hy => hsm y (hp.mem_iff.2 hy)
  have hg0 : 0 ≤ 4 * a + b := by omega
  unfold m_ropewalklaw20_NetSent_C5
  obtain ⟨v, hv, _, _⟩ := pick_is (N := N) (o := x.op) (k := 6) (by decide) (by decide) ho
  rw [hv, bindO_pure]
  have hj6 : (if (v == 3) = true then some (v == 3) else some (v == 5)) = some (decide (v = 3 ∨ v = 5)) := by
    by_cases h3 : v = 3
    · subst h3; rfl
    · rw [if_neg (by simpa using h3)]
      by_cases h5 : v = 5 <;> simp [h3, h5]
  rw [hj6, bindO_pure]
  by_cases h35 : v = 3 ∨ v = 5
  · rw [if_pos (by simpa using h35), take_is i1 i2 (by omega)]
    by_cases hat : isAt e (a, b) x.at_
    · rw [if_pos hat, bindO_pure]
      simp only
      rw [gd_pos hg0, gd_pos hj, ht, bindO_pure]
      have hlt := hat.2
      have hget : (bagE e (a, b))[x.at_.toNat]? = some ((bagE e (a, b)).getD x.at_.toNat []) := by
        rw [List.getD_eq_getElem?_getD, List.getElem?_eq_getElem hlt]; rfl
      have hmem : (bagE e (a, b)).getD x.at_.toNat [] ∈ t := hp.mem_iff.1 (List.mem_of_getElem? hget)
      rcases placeB_is (l := t) (b := (bagE e (a, b)).getD x.at_.toNat []) hN (by omega) (fun y hy => by have := hts y hy; omega) with ⟨j, hj1, hj2⟩ | ⟨hno, _⟩
      · have hjl := (List.getElem?_eq_some_iff.1 hj1).1
        rw [hj2, bindO_pure, if_neg (by simp [hat]), if_pos (by simpa using hat), bindO_pure, if_neg (by simp), if_pos (by simpa using hat), gd_pos hg0, gd_pos hj, bindO_pure, gd_pos (by omega), Int.toNat_natCast, gd_pos (by omega), gd_pos (by simp; omega), gd_pos hg0, gd_pos hj, gd_pos (by omega), gd_pos (by omega), show (((j : Nat) : Int) + 1).toNat = j + 1 by omega, gd_pos (by omega), gd_pos (by simp; omega), gd_pos hg0, gd_pos hj]
        refine ⟨_, _, rfl, h.set hj (h.inv.take _ _) ?_ (fun k hk => by rw [bag_take_ne (by rw [← hkk]; exact hk)]) ?_ ?_⟩
        · rw [hkk, bag_take h.inv.nodup]
          exact List.Perm.cons_inv ((cut_perm hget).symm.trans (hp.trans (cut_perm hj1)))
        · rw [hkk, bag_take h.inv.nodup]
          unfold cutL
          rw [List.length_append, List.length_take, List.length_drop]; omega
        · rw [hkk, bag_take h.inv.nodup]
          intro y hy
          unfold cutL at hy
          rcases List.mem_append.1 hy with hy | hy
          · exact hsm y (List.mem_of_mem_take hy)
          · exact hsm y (List.mem_of_mem_drop hy)
      · exact absurd hmem hno
    · rw [if_neg hat, bindO_pure]
      simp only
      rw [gd_pos hg0, gd_pos hj, ht, bindO_pure]
      obtain ⟨z, hz⟩ : ∃ z, m_ropewalklaw20_place N t [] = some z := by
        rcases placeB_is (b := []) hN (show t.length ≤ 1000 by omega) (fun y hy => by have := hts y hy; omega) with ⟨j, _, hj2⟩ | ⟨_, hj2⟩
        · exact ⟨_, hj2⟩
        · exact ⟨_, hj2⟩
      rw [hz, bindO_pure, if_neg (by simp [hat]), if_neg (by simpa using hat), bindO_pure, if_neg (by simp), if_neg (by simpa using hat)]
      exact ⟨_, _, rfl, h⟩
  · rw [if_neg (by simpa using h35)]
    by_cases h4 : v = 4
    · rw [if_pos (by simpa using h4)]
      obtain ⟨e1, q1, q2, q3⟩ := peeked_is (k := (a, b)) (c := x.at_) hN h.inv i1 i2 hfew hsm
      simp only at q1
      rw [q1, bindO_pure]
      simp only
      have h1 := h.same q2 q3
      have hb1 : bagE e1 (a, b) = bagE e (a, b) := q3 _
      have hC8 : m_ropewalklaw20_NetSent_C8 N e1 a b x (decide (isAt e (a, b) x.at_)) T = some (if isAt e (a, b) x.at_ then sendE e1 (a, b) ((bagE e (a, b)).getD x.at_.toNat []) else e1, false) := by
        unfold m_ropewalklaw20_NetSent_C8
        rw [double_is i1 i2 (by rw [hb1]; omega)]
        by_cases hat : isAt e (a, b) x.at_
        · have hat1 : isAt e1 (a, b) x.at_ := ⟨hat.1, by rw [hb1]; exact hat.2⟩
          have hlt := hat.2
          have hy : ((bagE e (a, b)).getD x.at_.toNat []).length ≤ 1000 := hsm _ (by
            rw [List.getD_eq_getElem?_getD, List.getElem?_eq_getElem hlt]; exact List.getElem_mem hlt)
          rw [if_pos hat1, hb1, bindO_pure]
          simp only
          rw [if_pos (by simpa using hat), gd_pos hg0, gd_pos hj, ht, bindO_pure, if_pos hat, send_ok hy, hb1, hp.length_eq]
          by_cases h64 : 64 ≤ t.length
          · rw [if_pos h64]; simp; omega
          · rw [if_neg h64]; simp; omega
        · have hat1 : ¬ isAt e1 (a, b) x.at_ := fun q => hat ⟨q.1, by rw [← hb1]; exact q.2⟩
          rw [if_neg hat1, bindO_pure]
          simp only
          rw [if_neg (by simpa using hat), if_neg hat]; rfl
      rw [hC8, bindO_pure]
      simp only
      rw [if_neg (by simp)]
      by_cases hat : isAt e (a, b) x.at_
      · have hlt := hat.2
        have hy : ((bagE e (a, b)).getD x.at_.toNat []).length ≤ 1000 := hsm _ (by
          rw [List.getD_eq_getElem?_getD, List.getElem?_eq_getElem hlt]; exact List.getElem_mem hlt)
        rw [if_pos (by simpa using hat), gd_pos hg0, gd_pos hj, ht, bindO_pure, bindO_pure, if_pos hat, if_pos hat]
        by_cases h64 : t.length < 64
        · have hc0 : sendC e1 (a, b) ((bagE e (a, b)).getD x.at_.toNat []) = 0 := by rw [send_ok hy, if_neg (by rw [hb1, hp.length_eq]; omega)]
          rw [if_pos (by simpa using h64), gd_pos hg0, gd_pos hj, bindO_pure, gd_pos (by simp; omega), gd_pos hg0, gd_pos hj]
          refine ⟨_, _, rfl, h1.set hj (q2.send _ _) ?_ (fun k hk => by rw [bag_send_ne (by rw [← hkk]; exact hk)]) ?_ ?_⟩
          · rw [hkk, bag_send, if_pos hc0, hb1]; exact hp.append_right _
          · rw [hkk, bag_send, if_pos hc0, hb1, List.length_append, hp.length_eq]; simp; omega
          · rw [hkk, bag_send, if_pos hc0, hb1]
            intro y hy'
            rcases List.mem_append.1 hy' with hy' | hy'
            · exact hsm y hy'
            · simp at hy'; subst hy'; simpa using hy
        · have hc5 : sendC e1 (a, b) ((bagE e (a, b)).getD x.at_.toNat []) = 5 := by rw [send_ok hy, if_pos (by rw [hb1, hp.length_eq]; omega)]
          have hse : sendE e1 (a, b) ((bagE e (a, b)).getD x.at_.toNat []) = e1 := by unfold sendE; rw [hc5, if_neg (by decide)]
          rw [if_neg (by simpa using h64), hse]
          exact ⟨_, _, rfl, h1⟩
      · rw [if_neg (by simpa using hat), bindO_pure, if_neg (by simp), if_neg hat]
        exact ⟨_, _, rfl, h1⟩
    · rw [if_neg (by simpa using h4), send_is i1 i2 (by omega), bindO_pure]
      simp only
      rw [send_ok hx]
      by_cases h64 : 64 ≤ (bagE e (a, b)).length
      · rw [if_pos h64, if_neg (by simp), gd_pos hg0, gd_pos hj, ht, bindO_pure, if_neg (by rw [← hp.length_eq]; simp; omega)]
        have hse : sendE e (a, b) x.b = e := by unfold sendE; rw [send_ok hx, if_pos h64, if_neg (by decide)]
        rw [hse]
        exact ⟨_, _, rfl, h⟩
      · have hc0 : sendC e (a, b) x.b = 0 := by rw [send_ok hx, if_neg h64]
        rw [if_neg h64, if_pos (by simp), gd_pos hg0, gd_pos hj, ht, bindO_pure, show m_ropewalkkit_CopyBytes N x.b = some () by unfold m_ropewalkkit_CopyBytes; rw [gd_pos (by simp; omega)], bindO_pure, gd_pos (by simp; omega), gd_pos hg0, gd_pos hj]
        refine ⟨_, _, rfl, h.set hj (h.inv.send _ _) ?_ (fun k hk => by rw [bag_send_ne (by rw [← hkk]; exact hk)]) ?_ ?_⟩
        · rw [hkk, bag_send, if_pos hc0]; exact hp.append_right _
        · rw [hkk, bag_send, if_pos hc0, List.length_append]; simp; omega
        · rw [hkk, bag_send, if_pos hc0]
          intro y hy'
          rcases List.mem_append.1 hy' with hy' | hy'
          · exact hsm y hy'
          · simp at hy'; subst hy'; exact hx
theorem wrap_kk : ∀ j : Fin 16, (IntKind.wrap .i64 (Int.tdiv ((j.1 : Nat) : Int) 4), Int.tmod ((j.1 : Nat) : Int) 4) = kk j.1 := by decide
theorem counts_is {e : EnvG} {T : List (List (List Int))} (hN : 9223372036854775808 ≤ N) (h : PermT e T) : iter (m_ropewalklaw20_NetSent_L2 N e T) N 0 = some (.inl (T, e)) := by
  refine iter_end 16 _ (fun j hj => ?_) ?_ (by omega)
  · unfold m_ropewalklaw20_NetSent_L2
    have hw := wrap_kk ⟨j, hj⟩
    simp only [kk, Prod.mk.injEq] at hw
    have hx : T[j]? = some (T[j]'(by rw [h.len]; exact hj)) := List.getElem?_eq_getElem _
    have hp := h.bag j _ hx
    rw [if_pos (by simpa using hj), hw.1, hw.2, count_is (by omega) (by omega), bindO_pure, gd_pos hj, hx, bindO_pure, if_neg (by
      rw [show (bagE e (((j / 4 : Nat) : Int), ((j % 4 : Nat) : Int))).length = (T[j]'(by rw [h.len]; exact hj)).length from hp.length_eq]; simp), gd_pos (by omega)]
  · unfold m_ropewalklaw20_NetSent_L2
    rw [if_neg (by simp)]
theorem sent_is {l : List Ropewalklaw20_DoD} (hN : 9223372036854775808 ≤ N) (hl : ∀ y ∈ l, i64 y.op ∧ i64 y.from_ ∧ i64 y.to_ ∧ i64 y.at_) : m_ropewalklaw20_NetSent N l = some true := by
  unfold m_ropewalklaw20_NetSent
  rw [awake_is hN, bindO_pure, if_neg (by simp)]
  have hcut : ∃ l' : List Ropewalklaw20_DoD, (if (decide (200 < l.length)) = true then gd (200 ≤ l.length) <| some (l.take 200) else some l) = some l' ∧ l'.length ≤ 200 ∧ ∀ y ∈ l', i64 y.op ∧ i64 y.from_ ∧ i64 y.to_ ∧ i64 y.at_ := by
    by_cases h : 200 < l.length
    · rw [if_pos (by simpa using h), gd_pos (by omega)]
      exact ⟨_, rfl, by rw [List.length_take]; omega, fun y hy => hl y (List.mem_of_mem_take hy)⟩
    · rw [if_neg (by simpa using h)]
      exact ⟨_, rfl, by omega, hl⟩
  obtain ⟨l', h1, h2, h3⟩ := hcut
  rw [h1, bindO_pure, show m_net_New N = some () from rfl, bindO_pure]
  obtain ⟨o, g1, g2⟩ := iter_inv (f := m_ropewalklaw20_NetSent_L1 N l') (fun s => s.1 ≤ l'.length ∧ PermT s.2.2 s.2.1) (fun s => l'.length - s.1) (fun o => o = .inl () ∨ o = .inr true) (fun s hs => by
    obtain ⟨i, T, e⟩ := s
    obtain ⟨q1, q2⟩ := hs
    simp only at q1 q2
    unfold m_ropewalklaw20_NetSent_L1
    simp only
    by_cases hi : i < l'.length
    · have hx : l'[i]? = some l'[i] := List.getElem?_eq_getElem hi
      obtain ⟨k1, k2, k3, k4⟩ := h3 _ (List.getElem_mem hi)
      obtain ⟨a, ha, ha1, ha2⟩ := pick_is (N := N) (o := l'[i].from_) (k := 4) (by decide) (by decide) k2
      obtain ⟨b, hb, hb1, hb2⟩ := pick_is (N := N) (o := l'[i].to_) (k := 4) (by decide) (by decide) k3
      unfold m_ropewalklaw20_NetSent_C3
      rw [if_pos (by simpa using hi), hx, bindO_pure, ha, bindO_pure, hb, bindO_pure, gd_pos (by omega), gd_pos (by omega)]
      by_cases hbig : 1000 < l'[i].b.length
      · right
        exact ⟨_, by rw [if_pos (by simpa using hbig), bindS_inr], .inr rfl⟩
      · left
        have hj : (4 * a + b).toNat < 16 := by omega
        have htx : T[(4 * a + b).toNat]? = some (T[(4 * a + b).toNat]'(by rw [q2.len]; exact hj)) := List.getElem?_eq_getElem _
        have hkk : kk (4 * a + b).toNat = (a, b) := by
          simp only [kk, Prod.mk.injEq]; omega
        have hp := q2.bag _ _ htx
        rw [hkk] at hp
        have hat : (if (decide (l'[i].at_ ≥ 0)) = true then gd (0 ≤ 4 * a + b) <| gd ((4 * a + b).toNat < 16) <| bindO (T[(4 * a + b).toNat]?) fun x55 => some (decide (l'[i].at_ < ((x55.length : Nat) : Int))) else some false) = some (decide (isAt e (a, b) l'[i].at_)) := by
          by_cases h0 : l'[i].at_ ≥ 0
          · rw [if_pos (by simpa using h0), gd_pos (by omega), gd_pos hj, htx, bindO_pure, ← hp.length_eq]
            congr 1
            have : (l'[i].at_ < (((bagE e (a, b)).length : Nat) : Int)) ↔ isAt e (a, b) l'[i].at_ := ⟨fun h => ⟨h0, by omega⟩, fun h => by have := h.2; omega⟩
            simp [this]
          · rw [if_neg (by simpa using h0)]
            have : ¬ isAt e (a, b) l'[i].at_ := fun h => h0 h.1
            simp [this]
        obtain ⟨T', e', s1, s2⟩ := sent_step (x := l'[i]) hN q2 k1 k4 ⟨ha1, ha2⟩ ⟨hb1, hb2⟩ (by omega) htx
        rw [if_neg (by simpa using hbig), hat, bindO_pure, s1, bindS_inl]
        simp only
        rw [counts_is hN s2, bindS_inl]
        simp only
        rw [gd_pos (by omega)]
        exact ⟨_, rfl, ⟨by simp only; omega, s2⟩, by simp only; omega⟩
    · right
      exact ⟨_, by rw [if_neg (by simpa using hi)], .inl rfl⟩) N (0, [[], [], [], [], [], [], [], [], [], [], [], [], [], [], [], []], []) ⟨Nat.zero_le _, InvG.nil, rfl, fun j t ht => by
      have : t = [] := by
        have hm := List.mem_of_getElem? ht
        simp at hm; exact hm
      subst this; exact List.Perm.refl _, fun j _ => by simp [bagE, mlook], fun j _ b hb => by simp [bagE, mlook] at hb⟩ (by simp only; omega)
  rw [g1]
  rcases g2 with rfl | rfl
  · rw [bindS_inl]
  · rw [bindS_inr]
end
theorem netsent_arg (x0 : List Ropewalklaw20_DoD) (ok : x0.length ≤ 140737488351232 ∧ ∀ y ∈ x0, ok_Ropewalklaw20_DoD y) : m_ropewalklaw20_NetSent 9223372036854775808 x0 = some true :=
  sent_is (Nat.le_refl _) fun y hy => by
    obtain ⟨h1, h2, h3, h4, _⟩ := ok.2 y hy
    exact ⟨h1, h2, h3, h4⟩
end Go.Proofs.Ytegkmbkbaenkcaa
