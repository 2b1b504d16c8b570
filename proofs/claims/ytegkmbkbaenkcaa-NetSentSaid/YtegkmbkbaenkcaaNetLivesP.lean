import Derived.Test.YtegkmbkbaenkcaaNetP
namespace Go.Proofs.Ytegkmbkbaenkcaa
open Go Go.RowKit
structure RelG (e : EnvG) (r : List Pkt) : Prop where
  inv : InvG e
  bag : ∀ k, bagE e k = bagR r k
  len : ∀ p ∈ r, p.b.length ≤ 1048576
theorem pk_ne {k k' : Ky} (h : k' ≠ k) (y : Pkt) (hy : pk k y = true) : pk k' y = false := by
  obtain ⟨k1, k2⟩ := k
  obtain ⟨k1', k2'⟩ := k'
  simp [pk] at hy ⊢
  intro h1 h2
  exact h (by rw [← h1, ← h2, hy.1, hy.2])
theorem bagR_le {r : List Pkt} {k : Ky} : (bagR r k).length ≤ r.length := by
  unfold bagR
  rw [List.length_map]
  exact List.length_filter_le _ _
section
variable {N : Nat} {e : EnvG} {r : List Pkt} {a b c : Int}
theorem RelG.nil : RelG [] [] := ⟨InvG.nil, fun k => rfl, fun p hp => by cases hp⟩
theorem RelG.send {l : List Int} (hN : 9223372036854775808 ≤ N) (h : RelG e r) (ha : i64 a) (hb : i64 b) (hr : r.length ≤ 1000) :
    ∃ x e' r', m_net_Net_Send N e a b l = some (x, e') ∧ m_ropewalkref20_Net_Send N r a b l = some (x, r') ∧ RelG e' r' ∧ r'.length ≤ r.length + 1 := by
  have hbl : (bagE e (a, b)).length ≤ r.length := by rw [h.bag]; exact bagR_le
  rw [send_is ha hb (by omega), rsend_is hN (by omega)]
  unfold sendE
  by_cases h1 : 1048576 < l.length
  · have hc : sendC e (a, b) l = 3 := by unfold sendC; rw [if_pos h1]
    rw [hc, if_neg (by decide), if_pos h1]
    exact ⟨_, _, _, rfl, rfl, h, by omega⟩
  · by_cases h2 : 64 ≤ (bagE e (a, b)).length
    · have hc : sendC e (a, b) l = 5 := by unfold sendC; rw [if_neg h1, if_pos h2]
      rw [hc, if_neg (by decide), if_neg h1, if_pos (by rw [← h.bag]; exact h2)]
      exact ⟨_, _, _, rfl, rfl, h, by omega⟩
    · have hc : sendC e (a, b) l = 0 := by unfold sendC; rw [if_neg h1, if_neg h2]
      have hi := h.inv.send (a, b) l
      have hs : sendE e (a, b) l = mput (a, b) (bagE e (a, b) ++ [l]) e := by unfold sendE; rw [if_pos hc]
      rw [hc, if_pos rfl, if_neg h1, if_neg (by rw [← h.bag]; exact h2)]
      rw [hs] at hi
      refine ⟨_, _, _, rfl, rfl, ⟨hi, fun k => ?_, fun p hp => ?_⟩, by simp⟩
      · by_cases hk : k = (a, b)
        · subst hk
          rw [bag_put, h.bag]
          simp [bagR, pk]
        · rw [bag_put_ne hk, h.bag]
          have := pk_ne hk ⟨a, b, l⟩ (by simp [pk])
          simp [bagR, this]
      · rcases List.mem_append.1 hp with hp | hp
        · exact h.len p hp
        · simp at hp; subst hp; simp only; omega
theorem RelG.at (h : RelG e r) {x : Pkt} {j : Nat} (h0 : 0 ≤ c) (hp : plc (pk (a, b)) r c.toNat = some j) (hx : r[j]? = some x) : isAt e (a, b) c ∧ (bagE e (a, b)).getD c.toNat [] = x.b ∧ RelG (takeE e (a, b) c.toNat) (r.take j ++ r.drop (j + 1)) := by
  obtain ⟨y, h1, h2, h3, h4, h5⟩ := plc_some hp
  rw [hx] at h1; cases h1
  have hlt : c.toNat < (bagE e (a, b)).length := by
    rw [h.bag]; unfold bagR; rw [List.length_map]
    exact (List.getElem?_eq_some_iff.1 h3).1
  refine ⟨⟨h0, hlt⟩, ?_, h.inv.take _ _, fun k => ?_, fun p hp => ?_⟩
  · rw [List.getD_eq_getElem?_getD, h.bag]
    unfold bagR
    rw [List.getElem?_map, h3]; rfl
  · by_cases hk : k = (a, b)
    · subst hk
      rw [bag_take h.inv.nodup, h.bag]
      unfold cutL bagR
      rw [h4, List.map_append, List.map_take, List.map_drop]
    · rw [bag_take_ne hk, h.bag]
      unfold bagR
      rw [h5 (pk k) (fun y hy => pk_ne hk y hy)]
  · rcases List.mem_append.1 hp with hp | hp
    · exact h.len p (List.mem_of_mem_take hp)
    · exact h.len p (List.mem_of_mem_drop hp)
theorem RelG.none (h : RelG e r) (hn : c < 0 ∨ (bagR r (a, b)).length ≤ c.toNat) : ¬ isAt e (a, b) c := fun hi => by
  have h1 := hi.1
  have h2 := hi.2
  rw [h.bag] at h2
  omega
end
section
variable {N : Nat}
theorem awake_is (hN : 9223372036854775808 ≤ N) : m_ropewalklaw20_awake N = some true := by
  have i1 : i64 1 := by decide
  have i2 : i64 2 := by decide
  have b0 : bagE ([] : EnvG) (1, 2) = [] := rfl
  have s1 : m_net_Net_Send N [] 1 2 [120] = some (0, [((1, 2), [[120]])]) := by rw [send_is i1 i2 (by simp [b0])]; simp [sendC, sendE, bagE, mlook, mput]
  have s2 : m_net_Net_Send N [((1, 2), [[120]])] 1 2 [121] = some (0, [((1, 2), [[120], [121]])]) := by rw [send_is i1 i2 (by simp [bagE, mlook])]; simp [sendC, sendE, bagE, mlook, mput]
  have hL : m_net_Net_Links N [((1, 2), [[120], [121]])] = some [(1, 2)] := by
    refine links_is hN ⟨by simp, fun k l h => ?_⟩ (by simp) (fun k => ?_) (by simp)
    · simp only [mlook] at h
      split at h
      · cases h; simp
      · cases h
    · simp only [bagE, mlook]
      by_cases hk : (1, 2) = k
      · subst hk; simp
      · rw [if_neg hk]; simp [Ne.symm hk]
  have d1 : m_net_Net_Double N [((1, 2), [[120], [121]])] 1 2 0 = some (0, [((1, 2), [[120], [121], [120]])]) := by
    rw [double_is i1 i2 (by simp [bagE, mlook]), if_pos (by simp [isAt, bagE, mlook])]; simp [sendC, sendE, bagE, mlook, mput]
  have hC1 : m_ropewalklaw20_awake_C1 N = some ([((1, 2), [[120], [121], [120]])], true) := by
    unfold m_ropewalklaw20_awake_C1
    rw [s1, bindO_pure]
    simp only
    rw [if_pos (by simp), s2, bindO_pure]
    simp only
    rw [if_pos (by simp), count_is i1 i2, bindO_pure, if_pos (by simp [bagE, mlook]), count_is i2 i1, bindO_pure, if_pos (by simp [bagE, mlook]), hL, bindO_pure, linksame_is hN (by simp), bindO_pure, if_pos rfl, d1, bindO_pure]
    rfl
  have t1 : m_net_Net_Take N [((1, 2), [[120], [121], [120]])] 1 2 0 = some ([120], 0, [((1, 2), [[121], [120]])]) := by
    rw [take_is i1 i2 (by simp [bagE, mlook]), if_pos (by simp [isAt, bagE, mlook])]; simp [takeE, cutL, bagE, mlook, mput]
  have t2 : m_net_Net_Take N [((1, 2), [[121], [120]])] 1 2 1 = some ([120], 0, [((1, 2), [[121]])]) := by
    rw [take_is i1 i2 (by simp [bagE, mlook]), if_pos (by simp [isAt, bagE, mlook])]; simp [takeE, cutL, bagE, mlook, mput]
  have t3 : m_net_Net_Take N [((1, 2), [[121]])] 1 2 1 = some ([], 6, [((1, 2), [[121]])]) := by
    rw [take_is i1 i2 (by simp [bagE, mlook]), if_neg (by simp [isAt, bagE, mlook])]
  unfold m_ropewalklaw20_awake
  rw [show m_net_New N = some () from rfl, bindO_pure, hC1, bindO_pure]
  simp only
  rw [t1, bindO_pure]
  simp only
  rw [t2, bindO_pure]
  simp only
  rw [t3, bindO_pure]
  simp only
  unfold m_ropewalklaw20_awake_C2
  have hx : (strOfNums [120]).toList == (⟨#[120]⟩ : ByteArray).toList := by kernel_rfl
  rw [if_pos rfl, if_pos (by simp), if_pos (by simp), if_pos (by simp), if_pos hx, if_pos hx, count_is i1 i2, bindO_pure, bindO_pure]
  simp [bagE, mlook]
end
end Go.Proofs.Ytegkmbkbaenkcaa
