import Derived.Test.YtegkmbkbaenkcaaXM
import Derived.Test.YtegkmbkbaenkcaaMapGS
import Derived.Test.YtegkmbkbaenkcaaPlain2
namespace Go.Proofs.Ytegkmbkbaenkcaa
open Go Go.RowKit
abbrev Ky := Int × Int
abbrev EnvG := List (Ky × List (List Int))
abbrev Pkt := Ropewalkref20_packetD
abbrev i64 (a : Int) : Prop := -9223372036854775808 ≤ a ∧ a ≤ 9223372036854775807
def bagE (e : EnvG) (k : Ky) : List (List Int) := (mlook k e).getD []
def sendC (e : EnvG) (k : Ky) (l : List Int) : Nat := if 1048576 < l.length then 3 else if 64 ≤ (bagE e k).length then 5 else 0
def sendE (e : EnvG) (k : Ky) (l : List Int) : EnvG := if sendC e k l = 0 then mput k (bagE e k ++ [l]) e else e
def cutL (l : List (List Int)) (n : Nat) : List (List Int) := l.take n ++ l.drop (n + 1)
def takeE (e : EnvG) (k : Ky) (n : Nat) : EnvG := if (cutL (bagE e k) n).length = 0 then mdel k (mput k (cutL (bagE e k) n) e) else mput k (cutL (bagE e k) n) e
def isAt (e : EnvG) (k : Ky) (c : Int) : Prop := 0 ≤ c ∧ c.toNat < (bagE e k).length
instance (e : EnvG) (k : Ky) (c : Int) : Decidable (isAt e k c) := inferInstanceAs (Decidable (_ ∧ _))
theorem bag_put {e : EnvG} {k : Ky} {l : List (List Int)} : bagE (mput k l e) k = l := by unfold bagE; rw [mlook_mput]; rfl
theorem bag_put_ne {e : EnvG} {k k' : Ky} {l : List (List Int)} (h : k' ≠ k) : bagE (mput k l e) k' = bagE e k' := by unfold bagE; rw [mlook_mput_ne h]
theorem keys_put {e : EnvG} {k : Ky} {l : List (List Int)} (h : (e.map (·.1)).Nodup) : ((mput k l e).map (·.1)).Nodup := by
  cases h1 : mlook k e with
  | none =>
    rw [mput_new (mlook_isNone h1)]
    simp only [List.map_append, List.map_cons, List.map_nil]
    exact List.nodup_append.2 ⟨h, by simp, fun a ha b hb => by simp at hb; subst hb; exact fun e => mlook_isNone h1 (e ▸ ha)⟩
  | some u => rw [mput_old_keys h1]; exact h
theorem keys_del {e : EnvG} {k : Ky} (h : (e.map (·.1)).Nodup) : ((mdel k e).map (·.1)).Nodup := by
  cases h1 : mlook k e with
  | none => rw [mdel_new (mlook_isNone h1)]; exact h
  | some u =>
    have := ((mdel_cons h1).map (·.1)).nodup_iff.1 h
    simp only [List.map_cons, List.nodup_cons] at this
    exact this.2
theorem bag_take {e : EnvG} {k : Ky} {n : Nat} (h : (e.map (·.1)).Nodup) : bagE (takeE e k n) k = cutL (bagE e k) n := by
  unfold takeE
  split
  · rename_i h0
    have : bagE (mdel k (mput k (cutL (bagE e k) n) e)) k = [] := by
      show (mlook k _).getD [] = _
      rw [mlook_mdel (keys_put h)]; rfl
    rw [this]
    exact (List.length_eq_zero_iff.1 h0).symm
  · exact bag_put
theorem bag_take_ne {e : EnvG} {k k' : Ky} {n : Nat} (hk : k' ≠ k) : bagE (takeE e k n) k' = bagE e k' := by
  unfold takeE
  split
  · show (mlook k' _).getD [] = _
    rw [mlook_mdel_ne hk]; exact bag_put_ne hk
  · exact bag_put_ne hk
structure InvG (e : EnvG) : Prop where
  nodup : (e.map (·.1)).Nodup
  full : ∀ k l, mlook k e = some l → l ≠ []
theorem InvG.nil : InvG [] := ⟨by simp, fun k l h => by cases h⟩
theorem InvG.send {e : EnvG} (h : InvG e) (k : Ky) (l : List Int) : InvG (sendE e k l) := by
  unfold sendE
  split
  · refine ⟨keys_put h.nodup, fun k' l' h' => ?_⟩
    by_cases hk : k' = k
    · subst hk
      rw [mlook_mput] at h'; cases h'
      simp
    · rw [mlook_mput_ne hk] at h'; exact h.full _ _ h'
  · exact h
theorem InvG.take {e : EnvG} (h : InvG e) (k : Ky) (n : Nat) : InvG (takeE e k n) := by
  unfold takeE
  split
  · refine ⟨keys_del (keys_put h.nodup), fun k' l' h' => ?_⟩
    by_cases hk : k' = k
    · subst hk
      rw [mlook_mdel (keys_put h.nodup)] at h'; cases h'
    · rw [mlook_mdel_ne hk, mlook_mput_ne hk] at h'; exact h.full _ _ h'
  · rename_i h0
    refine ⟨keys_put h.nodup, fun k' l' h' => ?_⟩
    by_cases hk : k' = k
    · subst hk
      rw [mlook_mput] at h'; cases h'
      exact fun e => h0 (by rw [e]; rfl)
    · rw [mlook_mput_ne hk] at h'; exact h.full _ _ h'
theorem InvG.mem {e : EnvG} (h : InvG e) {k : Ky} : k ∈ e.map (·.1) ↔ bagE e k ≠ [] := by
  constructor
  · intro hk
    obtain ⟨l, hl⟩ := mlook_isSome hk
    unfold bagE
    rw [hl]
    exact h.full _ _ hl
  · intro hb
    by_cases hk : k ∈ e.map (·.1)
    · exact hk
    · unfold bagE at hb
      rw [mlook_none hk] at hb
      exact absurd rfl hb
section
variable {N : Nat} {e : EnvG} {a b c : Int}
theorem count_is (ha : i64 a) (hb : i64 b) : m_net_Net_Count N e a b = some (bagE e (a, b)).length := by
  unfold m_net_Net_Count m_net_Net_all m_net_bags_Count
  rw [bindO_pure, gd_pos ha, gd_pos hb, bindO_pure, bindO_pure]; rfl
theorem at_is (ha : i64 a) (hb : i64 b) : m_net_bags_at N e a b c = some (if isAt e (a, b) c then 0 else 6) := by
  unfold m_net_bags_at
  by_cases h0 : c < 0
  · rw [if_pos (by simpa using h0), bindO_pure, if_pos rfl, if_neg (fun h => by have := h.1; omega)]
  · rw [if_neg (by simpa using h0), gd_pos ha, gd_pos hb, bindO_pure, bindO_pure]
    by_cases h1 : c ≥ (((bagE e (a, b)).length : Nat) : Int)
    · rw [if_pos (by simpa [bagE] using h1), if_neg (fun h => by have := h.2; omega)]
    · rw [if_neg (by simpa [bagE] using h1), if_pos ⟨by omega, by omega⟩]
theorem send_is {l : List Int} (ha : i64 a) (hb : i64 b) (hl : (bagE e (a, b)).length ≤ 1000000) : m_net_Net_Send N e a b l = some (sendC e (a, b) l, sendE e (a, b) l) := by
  unfold m_net_Net_Send m_net_Net_all m_net_bags_put sendE sendC
  rw [bindO_pure]
  by_cases h1 : 1048576 < l.length
  · rw [if_pos (by simpa using h1), bindO_pure, if_pos h1, if_neg (by decide)]
  · rw [if_neg (by simpa using h1), gd_pos ha, gd_pos hb, bindO_pure, if_neg h1]
    by_cases h2 : 64 ≤ (bagE e (a, b)).length
    · rw [if_pos (by simpa [bagE] using h2), bindO_pure, if_pos h2, if_neg (by decide)]
    · rw [if_neg (by simpa [bagE] using h2), gd_pos (by omega), bindO_pure, gd_pos (by simp [bagE] at hl ⊢; omega), bindO_pure, if_neg h2, if_pos rfl]; rfl
theorem take_is (ha : i64 a) (hb : i64 b) (hl : (bagE e (a, b)).length ≤ 1000000) : m_net_Net_Take N e a b c = some (if isAt e (a, b) c then ((bagE e (a, b)).getD c.toNat [], 0, takeE e (a, b) c.toNat) else ([], 6, e)) := by
  unfold m_net_Net_Take m_net_Net_all m_net_bags_take
  rw [bindO_pure, at_is ha hb, bindO_pure]
  by_cases h : isAt e (a, b) c
  · have h0 := h.1
    have h1 := h.2
    rw [if_pos h, if_pos h, if_neg (by simp), gd_pos ha, gd_pos hb, bindO_pure, gd_pos h0]
    have hx : ((mlook (a, b) e).getD [])[c.toNat]? = some ((bagE e (a, b)).getD c.toNat []) := by
      show (bagE e (a, b))[c.toNat]? = _
      rw [List.getD_eq_getElem?_getD, List.getElem?_eq_getElem h1]; rfl
    rw [hx, bindO_pure, gd_pos (show -9223372036854775808 ≤ c + 1 ∧ c + 1 ≤ 9223372036854775807 by omega), gd_pos h0, gd_pos (show c.toNat < ((mlook (a, b) e).getD []).length from h1)]
    unfold takeE cutL
    by_cases h2 : ((bagE e (a, b)).take c.toNat ++ (bagE e (a, b)).drop (c.toNat + 1)).length = 0
    · rw [if_pos (by simpa [bagE] using h2), bindO_pure, if_pos h2]; rfl
    · rw [if_neg (by simpa [bagE] using h2), bindO_pure, if_neg h2]; rfl
  · rw [if_neg h, if_neg h, if_pos (by simp)]; rfl
theorem drop_is (ha : i64 a) (hb : i64 b) (hl : (bagE e (a, b)).length ≤ 1000000) : m_net_Net_Drop N e a b c = some (if isAt e (a, b) c then (0, takeE e (a, b) c.toNat) else (6, e)) := by
  unfold m_net_Net_Drop
  rw [take_is ha hb hl, bindO_pure]
  by_cases h : isAt e (a, b) c
  · rw [if_pos h, if_pos h]
  · rw [if_neg h, if_neg h]
theorem double_is (ha : i64 a) (hb : i64 b) (hl : (bagE e (a, b)).length ≤ 1000000) : m_net_Net_Double N e a b c = some (if isAt e (a, b) c then (sendC e (a, b) ((bagE e (a, b)).getD c.toNat []), sendE e (a, b) ((bagE e (a, b)).getD c.toNat [])) else (6, e)) := by
  unfold m_net_Net_Double m_net_Net_all
  rw [bindO_pure, at_is ha hb, bindO_pure]
  by_cases h : isAt e (a, b) c
  · have h0 := h.1
    have h1 := h.2
    rw [if_pos h, if_pos h, if_neg (by simp), bindO_pure, bindO_pure, gd_pos ha, gd_pos hb, bindO_pure, gd_pos h0]
    have hx : ((mlook (a, b) e).getD [])[c.toNat]? = some ((bagE e (a, b)).getD c.toNat []) := by
      show (bagE e (a, b))[c.toNat]? = _
      rw [List.getD_eq_getElem?_getD, List.getElem?_eq_getElem h1]; rfl
    rw [hx, bindO_pure]
    have := send_is (N := N) (e := e) (l := (bagE e (a, b)).getD c.toNat []) ha hb hl
    unfold m_net_Net_Send m_net_Net_all at this
    rw [bindO_pure] at this
    exact this
  · rw [if_neg h, if_neg h, if_pos (by simp)]
end
def pk (k : Ky) (p : Pkt) : Bool := p.from_ == k.1 && p.to_ == k.2
def bagR (r : List Pkt) (k : Ky) : List (List Int) := (r.filter (pk k)).map (·.b)
def plc (q : Pkt → Bool) : List Pkt → Nat → Option Nat
  | [], _ => none
  | x :: l, n => if q x = true then (if n = 0 then some 0 else (plc q l (n - 1)).map (· + 1)) else (plc q l n).map (· + 1)
theorem plc_none {q : Pkt → Bool} : ∀ {l : List Pkt} {n : Nat}, plc q l n = none ↔ (l.filter q).length ≤ n
  | [], n => by simp [plc]
  | x :: l, n => by
    unfold plc
    by_cases h : q x = true
    · rw [if_pos h, List.filter_cons_of_pos h]
      by_cases hn : n = 0
      · rw [if_pos hn]; simp [hn]
      · rw [if_neg hn, Option.map_eq_none_iff, plc_none, List.length_cons]; omega
    · rw [if_neg h, List.filter_cons_of_neg h, Option.map_eq_none_iff, plc_none]
theorem plc_some {q : Pkt → Bool} : ∀ {l : List Pkt} {n i : Nat}, plc q l n = some i → ∃ x, l[i]? = some x ∧ q x = true ∧ (l.filter q)[n]? = some x ∧ (l.take i ++ l.drop (i + 1)).filter q = (l.filter q).take n ++ (l.filter q).drop (n + 1) ∧ ∀ q' : Pkt → Bool, (∀ y, q y = true → q' y = false) → (l.take i ++ l.drop (i + 1)).filter q' = l.filter q'
  | [], n, i, h => by cases h
  | x :: l, n, i, h => by
    unfold plc at h
    by_cases hx : q x = true
    · rw [if_pos hx] at h
      by_cases hn : n = 0
      · rw [if_pos hn] at h
        cases h
        subst hn
        exact ⟨x, rfl, hx, by rw [List.filter_cons_of_pos hx]; rfl, by simp [hx], fun q' hq => by simp [hq x hx]⟩
      · rw [if_neg hn] at h
        obtain ⟨j, hj, rfl⟩ := Option.map_eq_some_iff.1 h
        obtain ⟨y, h1, h2, h3, h4, h5⟩ := plc_some hj
        obtain ⟨m, rfl⟩ : ∃ m, n = m + 1 := ⟨n - 1, by omega⟩
        simp only [Nat.add_sub_cancel] at h3 h4
        refine ⟨y, by simpa using h1, h2, by rw [List.filter_cons_of_pos hx]; simpa using h3, ?_, fun q' hq => ?_⟩
        · rw [List.filter_cons_of_pos hx]
          simp only [List.take_succ_cons, List.drop_succ_cons, List.cons_append]
          rw [List.filter_cons_of_pos hx, h4]
        · simp only [List.take_succ_cons, List.drop_succ_cons, List.cons_append]
          rw [List.filter_cons, List.filter_cons, h5 q' hq]
    · rw [if_neg hx] at h
      obtain ⟨j, hj, rfl⟩ := Option.map_eq_some_iff.1 h
      obtain ⟨y, h1, h2, h3, h4, h5⟩ := plc_some hj
      refine ⟨y, by simpa using h1, h2, by rw [List.filter_cons_of_neg hx]; exact h3, ?_, fun q' hq => ?_⟩
      · rw [List.filter_cons_of_neg hx]
        simp only [List.take_succ_cons, List.drop_succ_cons, List.cons_append]
        rw [List.filter_cons_of_neg hx, h4]
      · simp only [List.take_succ_cons, List.drop_succ_cons, List.cons_append]
        rw [List.filter_cons, List.filter_cons, h5 q' hq]
section
variable {N : Nat} {r : List Pkt} {a b c : Int}
theorem rcount_is (hN : 9223372036854775808 ≤ N) (hr : r.length ≤ 1000000) : m_ropewalkref20_Net_Count N r a b = some (bagR r (a, b)).length := by
  unfold m_ropewalkref20_Net_Count
  obtain ⟨o, h1, h2⟩ := iter_inv (f := m_ropewalkref20_Net_Count_L1 N r a b) (fun s => s.1 ≤ r.length ∧ s.2 = ((r.take s.1).filter (pk (a, b))).length) (fun s => r.length - s.1) (fun o => o = (bagR r (a, b)).length) (fun s hs => by
    obtain ⟨i, n⟩ := s
    obtain ⟨hi, hn⟩ := hs
    simp only at hi hn
    unfold m_ropewalkref20_Net_Count_L1
    by_cases h : i < r.length
    · left
      have hx : r[i]? = some r[i] := List.getElem?_eq_getElem h
      have hc : m_ropewalkref20_Net_Count_C2 N r i a b n = some (if pk (a, b) r[i] = true then n + 1 else n) := by
        unfold m_ropewalkref20_Net_Count_C2 pk
        have hnl : n ≤ r.length := by
          rw [hn]; exact Nat.le_trans (List.length_filter_le _ _) (by rw [List.length_take]; omega)
        rw [hx, bindO_pure]
        by_cases q1 : r[i].from_ = a
        · rw [if_pos (by simpa using q1), bindO_pure, bindO_pure]
          by_cases q2 : r[i].to_ = b
          · rw [if_pos (by simpa using q2), gd_pos (by omega), if_pos (by simp [q1, q2])]
          · rw [if_neg (by simpa using q2), if_neg (by simp [q2])]
        · rw [if_neg (by simpa using q1), bindO_pure, if_neg (by simp), if_neg (by simp [q1])]
      refine ⟨(i + 1, if pk (a, b) r[i] = true then n + 1 else n), ?_, ⟨by simp only; omega, ?_⟩, by simp only; omega⟩
      · simp only
        rw [if_pos (by simpa using h), hc, bindO_pure, gd_pos (by omega)]
      · simp only
        rw [List.take_add_one, hx, List.filter_append, List.length_append, ← hn]
        by_cases q : pk (a, b) r[i] = true
        · rw [if_pos q]; simp [q]
        · rw [if_neg q]; simp [q]
    · right
      refine ⟨n, by simp only; rw [if_neg (by simpa using h)], ?_⟩
      rw [hn, List.take_of_length_le (by omega)]
      simp [bagR]) N (0, 0) ⟨Nat.zero_le _, rfl⟩ (by simp only; omega)
  rw [h1, h2]; rfl
theorem place_go (k : Ky) : ∀ (m i n fuel : Nat), r.length - i ≤ m → m < fuel → i ≤ r.length → r.length ≤ 1000000 → n ≤ 9223372036854775807 →
    ∃ o, iter (m_ropewalkref20_Net_place_L1 N r k.1 k.2) fuel (i, ((n : Nat) : Int)) = some o ∧ match plc (pk k) (r.drop i) n with
      | none => o = .inl ()
      | some j => o = .inr (((i + j : Nat) : Nat) : Int) := by
  intro m
  induction m with
  | zero =>
    intro i n fuel h1 h2 h3 h4 h5
    obtain ⟨fuel, rfl⟩ : ∃ f, fuel = f + 1 := ⟨fuel - 1, by omega⟩
    obtain rfl : i = r.length := by omega
    exact ⟨.inl (), iter_stop (by unfold m_ropewalkref20_Net_place_L1; simp only; rw [if_neg (by simp), bindO_pure, if_neg (by simp)]), by rw [List.drop_length]; rfl⟩
  | succ m ih =>
    intro i n fuel h1 h2 h3 h4 h5
    by_cases hi : i < r.length
    · obtain ⟨fuel, rfl⟩ : ∃ f, fuel = f + 1 := ⟨fuel - 1, by omega⟩
      have hx : r[i]? = some r[i] := List.getElem?_eq_getElem hi
      have hd : r.drop i = r[i] :: r.drop (i + 1) := List.drop_eq_getElem_cons hi
      have hs : m_ropewalkref20_Net_place_L1 N r k.1 k.2 (i, ((n : Nat) : Int)) = if pk k r[i] = true then (if n = 0 then some (.inr (.inr ((i : Nat) : Int))) else some (.inl (i + 1, ((n - 1 : Nat) : Int)))) else some (.inl (i + 1, ((n : Nat) : Int))) := by
        unfold m_ropewalkref20_Net_place_L1 m_ropewalkref20_Net_place_C3
        simp only
        rw [if_pos (by simpa using hi), bindO_pure, if_pos (by simp), hx, bindO_pure]
        by_cases q1 : r[i].from_ = k.1
        · rw [if_pos (by simpa using q1), bindO_pure, bindO_pure]
          by_cases q2 : r[i].to_ = k.2
          · have hp : pk k r[i] = true := by simp [pk, q1, q2]
            rw [if_pos (by simpa using q2), if_pos hp]
            by_cases qn : n = 0
            · subst qn
              rw [if_pos (by simp), if_pos rfl]; rfl
            · rw [if_neg (by simp; omega), gd_pos (by omega), bindS_inl, gd_pos (by omega), if_neg qn, show ((n : Nat) : Int) - 1 = ((n - 1 : Nat) : Int) by omega]
          · have hp : ¬ pk k r[i] = true := by simp [pk, q2]
            rw [if_neg (by simpa using q2), bindS_inl, gd_pos (by omega), if_neg hp]
        · have hp : ¬ pk k r[i] = true := by simp [pk, q1]
          rw [if_neg (by simpa using q1), bindO_pure, if_neg (by simp), bindS_inl, gd_pos (by omega), if_neg hp]
      rw [hd]
      unfold plc
      by_cases q : pk k r[i] = true
      · rw [if_pos q] at hs
        rw [if_pos q]
        by_cases qn : n = 0
        · rw [if_pos qn] at hs
          rw [if_pos qn]
          exact ⟨_, iter_stop hs, by simp⟩
        · rw [if_neg qn] at hs
          rw [if_neg qn, iter_step hs]
          obtain ⟨o, p1, p2⟩ := ih (i + 1) (n - 1) fuel (by omega) (by omega) (by omega) h4 (by omega)
          refine ⟨o, p1, ?_⟩
          cases hp : plc (pk k) (r.drop (i + 1)) (n - 1) with
          | none => rw [hp] at p2; exact p2
          | some j =>
            rw [hp] at p2
            simp only [Option.map_some] at p2 ⊢
            rw [p2]
            congr 2
            omega
      · rw [if_neg q] at hs
        rw [if_neg q, iter_step hs]
        obtain ⟨o, p1, p2⟩ := ih (i + 1) n fuel (by omega) (by omega) (by omega) h4 h5
        refine ⟨o, p1, ?_⟩
        cases hp : plc (pk k) (r.drop (i + 1)) n with
        | none => rw [hp] at p2; exact p2
        | some j =>
          rw [hp] at p2
          simp only [Option.map_some] at p2 ⊢
          rw [p2]
          congr 2
          omega
    · exact ih i n fuel (by omega) (by omega) h3 h4 h5
theorem place_is (hN : 9223372036854775808 ≤ N) (hr : r.length ≤ 1000000) (hc : i64 c) : m_ropewalkref20_Net_place N r a b c = some (match (if 0 ≤ c then plc (pk (a, b)) r c.toNat else none) with | none => -1 | some j => ((j : Nat) : Int)) := by
  unfold m_ropewalkref20_Net_place
  have hc2 := hc.2
  by_cases h0 : 0 ≤ c
  · rw [if_pos h0]
    obtain ⟨o, p1, p2⟩ := place_go (N := N) (r := r) (a, b) r.length 0 c.toNat N (by omega) (by omega) (Nat.zero_le _) hr (by omega)
    simp only [List.drop_zero] at p2
    rw [show ((c.toNat : Nat) : Int) = c by omega] at p1
    rw [p1]
    cases hp : plc (pk (a, b)) r c.toNat with
    | none => rw [hp] at p2; simp only at p2; rw [p2, bindS_inl]
    | some j => rw [hp] at p2; simp only at p2; rw [p2, bindS_inr, Nat.zero_add]
  · rw [if_neg h0]
    obtain ⟨M, rfl⟩ : ∃ M, N = M + 1 := ⟨N - 1, by omega⟩
    rw [iter_stop (o := .inl ()) (by
      unfold m_ropewalkref20_Net_place_L1
      simp only
      by_cases hl : 0 < r.length
      · rw [if_pos (by simpa using hl), bindO_pure, if_neg (by simpa using h0)]
      · rw [if_neg (by simpa using hl), bindO_pure, if_neg (by simp)]), bindS_inl]
theorem rsend_is {l : List Int} (hN : 9223372036854775808 ≤ N) (hr : r.length ≤ 1000000) : m_ropewalkref20_Net_Send N r a b l = some (if 1048576 < l.length then (3, r) else if 64 ≤ (bagR r (a, b)).length then (5, r) else (0, r ++ [⟨a, b, l⟩])) := by
  unfold m_ropewalkref20_Net_Send
  by_cases h1 : 1048576 < l.length
  · rw [if_pos (by simpa using h1), if_pos h1]
  · rw [if_neg (by simpa using h1), rcount_is hN hr, bindO_pure, if_neg h1]
    by_cases h2 : 64 ≤ (bagR r (a, b)).length
    · rw [if_pos (by simpa using h2), if_pos h2]
    · rw [if_neg (by simpa using h2), gd_pos (by simp; omega), gd_pos (by simp; omega), if_neg h2]
theorem rtake_is (hN : 9223372036854775808 ≤ N) (hr : r.length ≤ 1000000) (hb : ∀ p ∈ r, p.b.length ≤ 100000000) (hc : i64 c) :
    (∃ x j, 0 ≤ c ∧ plc (pk (a, b)) r c.toNat = some j ∧ r[j]? = some x ∧ m_ropewalkref20_Net_Take N r a b c = some (x.b, 0, r.take j ++ r.drop (j + 1)) ∧ m_ropewalkref20_Net_Double N r a b c = m_ropewalkref20_Net_Send N r a b x.b) ∨
    ((c < 0 ∨ (bagR r (a, b)).length ≤ c.toNat) ∧ m_ropewalkref20_Net_Take N r a b c = some ([], 6, r) ∧ m_ropewalkref20_Net_Double N r a b c = some (6, r)) := by
  unfold m_ropewalkref20_Net_Take m_ropewalkref20_Net_Double
  rw [place_is hN hr hc, bindO_pure, bindO_pure]
  by_cases h0 : 0 ≤ c
  · rw [if_pos h0]
    cases hp : plc (pk (a, b)) r c.toNat with
    | none =>
      right
      refine ⟨.inr ?_, by simp only; rw [if_pos (by decide)], by simp only; rw [if_pos (by decide)]⟩
      have := plc_none.1 hp
      simpa [bagR] using this
    | some j =>
      left
      obtain ⟨x, h1, h2, h3, h4, h5⟩ := plc_some hp
      have hj := (List.getElem?_eq_some_iff.1 h1).1
      have hbx := hb x (List.mem_of_getElem? h1)
      have hn : ¬ (decide (((j : Nat) : Int) < 0)) = true := by simp
      refine ⟨x, j, h0, rfl, h1, ?_, ?_⟩
      · simp only
        rw [if_neg hn, gd_pos (by omega), Int.toNat_natCast, h1, bindO_pure, gd_pos (by omega), gd_pos (by omega), gd_pos (by simp; omega), gd_pos (by omega), gd_pos (by omega), show (((j : Nat) : Int) + 1).toNat = j + 1 by omega, gd_pos (by omega), gd_pos (by simp; omega), gd_pos (by simp; omega)]
      · simp only
        rw [if_neg hn, gd_pos (by omega), Int.toNat_natCast, h1, bindO_pure]
        cases m_ropewalkref20_Net_Send N r a b x.b with
        | none => rfl
        | some y => rfl
  · right
    rw [if_neg h0]
    exact ⟨.inl (by omega), by simp only; rw [if_pos (by decide)], by simp only; rw [if_pos (by decide)]⟩
theorem rdrop_is : m_ropewalkref20_Net_Drop N r a b c = bindO (m_ropewalkref20_Net_Take N r a b c) fun x => some (x.2.1, x.2.2) := by
  unfold m_ropewalkref20_Net_Drop
  cases m_ropewalkref20_Net_Take N r a b c with
  | none => rfl
  | some y => rfl
end
def ltP (x y : Ky) : Prop := x.1 < y.1 ∨ (x.1 = y.1 ∧ x.2 < y.2)
instance (x y : Ky) : Decidable (ltP x y) := inferInstanceAs (Decidable (_ ∨ _))
def insK (x : Ky) : List Ky → List Ky
  | [] => [x]
  | y :: l => if ltP y x then y :: insK x l else if y = x then y :: l else x :: y :: l
theorem insK_mem {x y : Ky} : ∀ {l : List Ky}, y ∈ insK x l ↔ y = x ∨ y ∈ l
  | [] => by simp [insK]
  | z :: l => by
    unfold insK
    split
    · rw [List.mem_cons, insK_mem, List.mem_cons]
      constructor
      · rintro (h | h | h) <;> simp [h]
      · rintro (h | h | h) <;> simp [h]
    · split
      · rename_i h; subst h
        simp
      · simp
theorem insK_sorted {x : Ky} : ∀ {l : List Ky}, l.Pairwise ltP → (insK x l).Pairwise ltP
  | [], _ => by simp [insK]
  | z :: l, h => by
    rw [List.pairwise_cons] at h
    unfold insK
    split
    · rename_i hz
      rw [List.pairwise_cons]
      refine ⟨fun y hy => ?_, insK_sorted h.2⟩
      rcases insK_mem.1 hy with rfl | hy
      · exact hz
      · exact h.1 y hy
    · rename_i hz
      split
      · rw [List.pairwise_cons]; exact h
      · rename_i hne
        have hxz : ltP x z := by
          obtain ⟨x1, x2⟩ := x
          obtain ⟨z1, z2⟩ := z
          simp only [ltP, Prod.mk.injEq] at hz hne ⊢
          omega
        rw [List.pairwise_cons, List.pairwise_cons]
        refine ⟨fun y hy => ?_, h⟩
        rcases List.mem_cons.1 hy with rfl | hy
        · exact hxz
        · have := h.1 y hy
          simp only [ltP] at this hxz ⊢
          omega
def stopK (x : Ky) (l : List Ky) : Nat := (l.takeWhile fun y => decide (ltP y x)).length
theorem stopK_le {x : Ky} {l : List Ky} : stopK x l ≤ l.length := (List.takeWhile_sublist _).length_le
theorem stopK_cons {x y : Ky} {l : List Ky} : stopK x (y :: l) = if ltP y x then stopK x l + 1 else 0 := by
  unfold stopK
  by_cases h : ltP y x
  · rw [if_pos h, List.takeWhile_cons_of_pos (by simpa using h), List.length_cons]
  · rw [if_neg h, List.takeWhile_cons_of_neg (by simpa using h)]; rfl
theorem stopK_lt {x : Ky} : ∀ {l : List Ky} {i : Nat} {y : Ky}, i < stopK x l → l[i]? = some y → ltP y x
  | [], i, y, h, hy => by simp at hy
  | z :: l, i, y, h, hy => by
    rw [stopK_cons] at h
    split at h
    · rename_i hz
      cases i with
      | zero => simp at hy; subst hy; exact hz
      | succ i => exact stopK_lt (l := l) (i := i) (by omega) (by simpa using hy)
    · omega
theorem stopK_at {x : Ky} : ∀ {l : List Ky} {y : Ky}, l[stopK x l]? = some y → ¬ ltP y x
  | [], y, h => by simp [stopK] at h
  | z :: l, y, h => by
    rw [stopK_cons] at h
    split at h
    · exact stopK_at (by simpa using h)
    · rename_i hz; simp at h; subst h; exact hz
theorem insK_at {x : Ky} : ∀ {l : List Ky}, insK x l = if l[stopK x l]? = some x then l else l.take (stopK x l) ++ [x] ++ l.drop (stopK x l)
  | [] => by simp [insK, stopK]
  | z :: l => by
    rw [stopK_cons]
    unfold insK
    by_cases hz : ltP z x
    · simp only [if_pos hz]
      rw [insK_at]
      simp only [List.getElem?_cons_succ, List.take_succ_cons, List.drop_succ_cons, List.cons_append]
      split <;> rfl
    · simp only [if_neg hz]
      by_cases he : z = x
      · rw [if_pos he]; subst he; simp
      · rw [if_neg he]; simp [he]
def lkR (r : List Pkt) : List Ky := r.foldl (fun l p => insK (p.from_, p.to_) l) []
theorem lkR_take {r : List Pkt} {i : Nat} (h : i < r.length) : lkR (r.take (i + 1)) = insK (r[i].from_, r[i].to_) (lkR (r.take i)) := by
  unfold lkR
  rw [List.take_add_one, List.getElem?_eq_getElem h, List.foldl_append]; rfl
theorem fold_sorted : ∀ {r : List Pkt} {l : List Ky}, l.Pairwise ltP → (r.foldl (fun l p => insK (p.from_, p.to_) l) l).Pairwise ltP
  | [], _, h => h
  | p :: r, l, h => fold_sorted (r := r) (insK_sorted h)
theorem lkR_sorted {r : List Pkt} : (lkR r).Pairwise ltP := fold_sorted (by simp)
theorem fold_mem {k : Ky} : ∀ {r : List Pkt} {l : List Ky}, k ∈ r.foldl (fun l p => insK (p.from_, p.to_) l) l ↔ k ∈ l ∨ ∃ p ∈ r, (p.from_, p.to_) = k
  | [], l => by simp
  | p :: r, l => by
    rw [List.foldl_cons, fold_mem, insK_mem]
    constructor
    · rintro ((h | h) | ⟨q, hq, h⟩)
      · exact .inr ⟨p, by simp, h.symm⟩
      · exact .inl h
      · exact .inr ⟨q, by simp [hq], h⟩
    · rintro (h | ⟨q, hq, h⟩)
      · exact .inl (.inr h)
      · rcases List.mem_cons.1 hq with rfl | hq
        · exact .inl (.inl h.symm)
        · exact .inr ⟨q, hq, h⟩
theorem lkR_mem {r : List Pkt} {k : Ky} : k ∈ lkR r ↔ ∃ p ∈ r, (p.from_, p.to_) = k := by
  unfold lkR
  rw [fold_mem]; simp
theorem lkR_bag {r : List Pkt} {k : Ky} : k ∈ lkR r ↔ bagR r k ≠ [] := by
  rw [lkR_mem]
  unfold bagR
  rw [ne_eq, List.map_eq_nil_iff, List.filter_eq_nil_iff]
  constructor
  · rintro ⟨p, hp, rfl⟩ h
    exact h p hp (by simp [pk])
  · intro h
    simp only [Classical.not_forall] at h
    obtain ⟨p, hp, h⟩ := h
    refine ⟨p, hp, ?_⟩
    simp [pk] at h
    obtain ⟨k1, k2⟩ := k
    simpa using h
theorem insK_len {x : Ky} : ∀ {l : List Ky}, (insK x l).length ≤ l.length + 1
  | [] => by simp [insK]
  | y :: l => by
    unfold insK
    split
    · have := insK_len (x := x) (l := l); simp; omega
    · split <;> simp
theorem fold_len : ∀ {r : List Pkt} {l : List Ky}, (r.foldl (fun l p => insK (p.from_, p.to_) l) l).length ≤ l.length + r.length
  | [], l => by simp
  | p :: r, l => by
    rw [List.foldl_cons]
    have h1 := fold_len (r := r) (l := insK (p.from_, p.to_) l)
    have h2 := insK_len (x := (p.from_, p.to_)) (l := l)
    simp at h1 ⊢; omega
theorem lkR_len {r : List Pkt} : (lkR r).length ≤ r.length := by
  have := fold_len (r := r) (l := [])
  unfold lkR
  simpa using this
theorem nodup_sorted {l : List Ky} (h : l.Pairwise ltP) : l.Nodup := h.imp fun {a b} hab e => by
  subst e
  simp only [ltP] at hab
  omega
section
variable {N : Nat}
theorem rlinks_is {r : List Pkt} (hN : 9223372036854775808 ≤ N) (hr : r.length ≤ 1000000) : m_ropewalkref20_Net_Links N r = some (lkR r) := by
  unfold m_ropewalkref20_Net_Links
  obtain ⟨o, h1, h2⟩ := iter_inv (f := m_ropewalkref20_Net_Links_L1 N r) (fun s => s.1 ≤ r.length ∧ s.2 = lkR (r.take s.1)) (fun s => r.length - s.1) (fun o => o = lkR r) (fun s hs => by
    obtain ⟨i, l⟩ := s
    obtain ⟨hi, hl⟩ := hs
    simp only at hi hl
    unfold m_ropewalkref20_Net_Links_L1
    by_cases h : i < r.length
    · left
      have hx : r[i]? = some r[i] := List.getElem?_eq_getElem h
      have hll : l.length ≤ r.length := by
        rw [hl]; exact Nat.le_trans lkR_len (by rw [List.length_take]; omega)
      have hC5 : ∀ j, m_ropewalkref20_Net_Links_C5 N j l r[i] r[i] = some (match l[j]? with | some y => decide (ltP y (r[i].from_, r[i].to_)) | none => false) := fun j => by
        unfold m_ropewalkref20_Net_Links_C5
        by_cases hj : j < l.length
        · have hy : l[j]? = some l[j] := List.getElem?_eq_getElem hj
          rw [if_pos (by simpa using hj), hy, bindO_pure]
          by_cases q1 : l[j].1 < r[i].from_
          · rw [if_pos (by simpa using q1)]; simp [ltP, q1]
          · rw [if_neg (by simpa using q1), bindO_pure]
            by_cases q2 : l[j].1 = r[i].from_
            · rw [if_pos (by simpa using q2), bindO_pure]; simp [ltP, q2]
            · rw [if_neg (by simpa using q2)]; simp [ltP, q1, q2]
        · rw [if_neg (by simpa using hj), List.getElem?_eq_none (by omega)]
      have hst := stopK_le (x := (r[i].from_, r[i].to_)) (l := l)
      have hL2 : iter (m_ropewalkref20_Net_Links_L2 N l r[i] r[i]) N 0 = some (stopK (r[i].from_, r[i].to_) l) := by
        refine iter_end (stopK (r[i].from_, r[i].to_) l) _ (fun j hj => ?_) ?_ (by omega)
        · unfold m_ropewalkref20_Net_Links_L2
          have hy : l[j]? = some l[j] := List.getElem?_eq_getElem (by omega)
          have := stopK_lt hj hy
          rw [hC5, hy, bindO_pure, if_pos (by simpa using this), gd_pos (by omega)]
        · unfold m_ropewalkref20_Net_Links_L2
          rw [hC5, bindO_pure]
          cases hy : l[stopK (r[i].from_, r[i].to_) l]? with
          | none => rw [if_neg (by simp)]
          | some y => rw [if_neg (by simpa using stopK_at hy)]
      have hC2 : m_ropewalkref20_Net_Links_C2 N r i l = some (insK (r[i].from_, r[i].to_) l) := by
        unfold m_ropewalkref20_Net_Links_C2
        rw [hx, bindO_pure, bindO_pure, hL2, bindO_pure, insK_at]
        cases hy : l[stopK (r[i].from_, r[i].to_) l]? with
        | none =>
          rw [if_neg (by have := List.getElem?_eq_none_iff.1 hy; simp; omega), bindO_pure, if_neg (by simp), gd_pos (by omega), gd_pos (by simp; omega), gd_pos (by simp; omega), gd_pos (by omega), gd_pos (by simp; omega), if_neg (by simp)]
        | some y =>
          have hlt := (List.getElem?_eq_some_iff.1 hy).1
          rw [if_pos (by simpa using hlt), bindO_pure, bindO_pure]
          by_cases q : y = (r[i].from_, r[i].to_)
          · rw [if_pos (by simp [q]), if_pos (by rw [q])]
          · have hq : ¬ ((y.1 == r[i].from_) && (y.2 == r[i].to_)) = true := fun h => q (by
              obtain ⟨y1, y2⟩ := y
              simpa using h)
            rw [if_neg hq, gd_pos (by omega), gd_pos (by simp; omega), gd_pos (by simp; omega), gd_pos (by omega), gd_pos (by simp; omega), if_neg (by simpa using q)]
      refine ⟨(i + 1, insK (r[i].from_, r[i].to_) l), ?_, ⟨by simp only; omega, by simp only; rw [lkR_take h, hl]⟩, by simp only; omega⟩
      simp only
      rw [if_pos (by simpa using h), hC2, bindO_pure, gd_pos (by omega)]
    · right
      refine ⟨l, by simp only; rw [if_neg (by simpa using h)], ?_⟩
      rw [hl, List.take_of_length_le (by omega)]) N (0, []) ⟨Nat.zero_le _, rfl⟩ (by simp only; omega)
  rw [h1, h2]; rfl
theorem cmpK_is (hN : 9223372036854775808 ≤ N) (x y : Ky) : ∃ z, m_net_bags_Links_1 N x.1 x.2 y.1 y.2 = some z ∧ (z < 0 ↔ ltP x y) := by
  have hc : ∀ a b : Int, m_cmp_Compare_int N a b = some (if a < b then -1 else if a > b then 1 else 0) := fun a b => by
    unfold m_cmp_Compare_int m_cmp_isNaN_int
    rw [bindO_pure, bindO_pure, if_neg (by simp), if_neg (by simp)]
    by_cases h1 : a < b
    · rw [if_pos (by simpa using h1), if_pos h1]
    · rw [if_neg (by simpa using h1), if_neg h1]
      by_cases h2 : a > b
      · rw [if_pos (by simpa using h2), if_pos h2]
      · rw [if_neg (by simpa using h2), if_neg h2]
  have ho : ∀ a b : Int, m_cmp_Or_int N [a, b] = some (if a = 0 then b else a) := fun a b => by
    unfold m_cmp_Or_int
    obtain ⟨M, rfl⟩ : ∃ M, N = M + 3 := ⟨N - 3, by omega⟩
    have st : ∀ (i : Nat) (x : Int), [a, b][i]? = some x → i < 2 → m_cmp_Or_int_L1 (M + 3) [a, b] i = if x = 0 then some (.inl (i + 1)) else some (.inr (.inr x)) := fun i x hx hi => by
      unfold m_cmp_Or_int_L1
      rw [if_pos (by simpa using hi), hx, bindO_pure, gd_pos (by omega)]
      by_cases h : x = 0
      · rw [if_neg (by simp [h]), if_pos h]
      · rw [if_pos (by simpa using h), if_neg h]
    by_cases h0 : a = 0
    · rw [iter_step (by rw [st 0 a rfl (by omega), if_pos h0]), if_pos h0]
      by_cases h1 : b = 0
      · rw [iter_step (by rw [st 1 b rfl (by omega), if_pos h1]), iter_stop (o := .inl ()) (by unfold m_cmp_Or_int_L1; rw [if_neg (by simp)]), h1]; rfl
      · rw [iter_stop (by rw [st 1 b rfl (by omega), if_neg h1])]; rfl
    · rw [iter_stop (by rw [st 0 a rfl (by omega), if_neg h0]), if_neg h0]; rfl
  unfold m_net_bags_Links_1
  rw [hc, bindO_pure, hc, bindO_pure, ho, bindO_pure]
  refine ⟨_, rfl, ?_⟩
  simp only [ltP]
  by_cases h1 : x.1 < y.1
  · simp [h1]
  · by_cases h2 : x.1 > y.1
    · simp [h1, h2]; omega
    · have h3 : x.1 = y.1 := by omega
      by_cases h4 : x.2 < y.2
      · simp [h3, h4]
      · by_cases h5 : x.2 > y.2 <;> simp [h3, h4, h5]
theorem cfK (hN : 9223372036854775808 ≤ N) (x y : Ky) : cfO (fun x_ y_ => m_net_bags_Links_1 N x_.1 x_.2 y_.1 y_.2) x y < 0 ↔ ltP x y := by
  obtain ⟨z, h1, h2⟩ := cmpK_is hN x y
  unfold cfO
  dsimp only
  rw [h1]; exact h2
theorem links_is {e : EnvG} {L : List Ky} (hN : 9223372036854775808 ≤ N) (he : InvG e) (hL : L.Pairwise ltP) (hm : ∀ k, k ∈ L ↔ bagE e k ≠ []) (hlen : L.length ≤ 1000000) : m_net_Net_Links N e = some L := by
  have hp : L.Perm (e.map (·.1)) := (List.perm_ext_iff_of_nodup (nodup_sorted hL) he.nodup).2 fun k => (hm k).trans he.mem.symm
  have hl : e.length = L.length := by have := hp.length_eq; simpa using this.symm
  have hok : SortOk (fun x_ y_ : Ky => m_net_bags_Links_1 N x_.1 x_.2 y_.1 y_.2) (List.map (fun x : (Int × Int) × List (List Int) => x.1) e) := by
    refine ⟨fun x _ y _ => ?_, fun x _ h => ?_, fun x _ y _ z _ h1 h2 => ?_, fun x _ y _ z _ h1 h2 => ?_, fun x _ y _ h1 h2 => ?_, by simp; omega⟩
    · obtain ⟨z, h, _⟩ := cmpK_is hN x y
      exact ⟨z, h⟩
    · rw [cfK hN] at h; simp only [ltP] at h; omega
    · rw [cfK hN] at h1 h2 ⊢; simp only [ltP] at h1 h2 ⊢; omega
    · rw [cfK hN] at h1 h2 ⊢; simp only [ltP] at h1 h2 ⊢; omega
    · rw [cfK hN] at h1 h2
      obtain ⟨x1, x2⟩ := x
      obtain ⟨y1, y2⟩ := y
      simp only [ltP] at h1 h2
      simp only [Prod.mk.injEq]
      omega
  have hs := sortM_is (l' := L) hok hp (hL.imp fun {a b} hab h => by
    rw [cfK hN] at h
    simp only [ltP] at h hab
    omega)
  unfold m_net_Net_Links m_net_Net_all
  rw [bindO_pure, gd_pos (by omega), hs, bindO_pure]
theorem linksame_is {l : List Ky} (hN : 9223372036854775808 ≤ N) (hl : l.length ≤ 1000000) : m_ropewalklaw20_links N l l = some true := by
  unfold m_ropewalklaw20_links
  rw [if_neg (by simp), iter_look l.length (fun i hi => by
    unfold m_ropewalklaw20_links_L1
    rw [if_pos (by simpa using hi), List.getElem?_eq_getElem hi, bindO_pure, bindO_pure, if_neg (by simp), gd_pos (by omega)])
    (by unfold m_ropewalklaw20_links_L1; rw [if_neg (by simp)]) (by omega), bindS_inl]
theorem sameB_self {l : List Int} (hN : 9223372036854775808 ≤ N) (hl : l.length ≤ 100000000) : m_ropewalkkit_SameBytes N l l = some true := by
  unfold m_ropewalkkit_SameBytes
  rw [if_neg (by simp), iter_look l.length (fun i hi => by
    unfold m_ropewalkkit_SameBytes_L1
    rw [if_pos (by simpa using hi), List.getElem?_eq_getElem hi, bindO_pure, bindO_pure, if_neg (by simp), gd_pos (by omega)])
    (by unfold m_ropewalkkit_SameBytes_L1; rw [if_neg (by simp)]) (by omega), bindS_inl]
end
end Go.Proofs.Ytegkmbkbaenkcaa
