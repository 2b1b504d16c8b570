import Derived.Test.YtegkmbkbaenkcaaXM
import Derived.Test.YtegkmbkbaenkcaaMapGS
import Derived.Test.YtegkmbkbaenkcaaPlain2
namespace Go.Proofs.Ytegkmbkbaenkcaa
open Go Go.RowKit
abbrev Ky := Int × Int
abbrev EnvG := List (Ky × List (List Int))
abbrev Pkt := Ropewalkref20_packetD
abbrev i64 (a : Int) : Prop := -9223372036854775808 ≤ a ∧ a ≤ 9223372036854775807
def bagE (e : EnvG) (k : Ky) : List (List Int) := (mlook k e).getD []
def sendC (e : EnvG) (k : Ky) (l : List Int) : Nat := if 1048576 < l.length then 3 else if 64 ≤ (bagE e k).length then 5 else 0
def sendE (e : EnvG) (k : Ky) (l : List Int) : EnvG := if sendC e k l = 0 then mput k (bagE e k ++ [l]) e else e
def cutL (l : List (List Int)) (n : Nat) : List (List Int) := l.take n ++ l.drop (n + 1)
def takeE (e : EnvG) (k : Ky) (n : Nat) : EnvG := if (cutL (bagE e k) n).length = 0 then mdel k (mput k (cutL (bagE e k) n) e) else mput k (cutL (bagE e k) n) e
def isAt (e : EnvG) (k : Ky) (c : Int) : Prop := 0 ≤ c ∧ c.toNat < (bagE e k).length
instance (e : EnvG) (k : Ky) (c : Int) : Decidable (isAt e k c) := inferInstanceAs (Decidable (_ ∧ _))
theorem bag_put {e : EnvG} {k : Ky} {l : List (List Int)} : bagE (mput k l e) k = l := by unfold bagE; rw [mlook_mput]; rfl
theorem bag_put_ne {e : EnvG} {k k' : Ky} {l : List (List Int)} (h : k' ≠ k) : bagE (mput k l e) k' = bagE e k' := by unfold bagE; rw [mlook_mput_ne h]
theorem keys_put {e : EnvG} {k : Ky} {l : List (List Int)} (h : (e.map (·.1)).Nodup) : ((mput k l e).map (·.1)).Nodup := by
  cases h1 : mlook k e with
  | none =>
    rw [mput_new (mlook_isNone h1)]
    simp only [List.map_append, List.map_cons, List.map_nil]
    exact List.nodup_append.2 ⟨h, by simp, fun a ha b hb => by simp at hb; subst hb; exact fun e => mlook_isNone h1 (e ▸ ha)⟩
  | some u => rw [mput_old_keys h1]; exact h
theorem keys_del {e : EnvG} {k : Ky} (h : (e.map (·.1)).Nodup) : ((mdel k e).map (·.1)).Nodup := by
  cases h1 : mlook k e with
  | none => rw [mdel_new (mlook_isNone h1)]; exact h
  | some u =>
    have := ((mdel_cons h1).map (·.1)).nodup_iff.1 h
    simp only [List.map_cons, List.nodup_cons] at this
    exact this.2
theorem bag_take {e : EnvG} {k : Ky} {n : Nat} (h : (e.map (·.1)).Nodup) : bagE (takeE e k n) k = cutL (bagE e k) n := by
  unfold takeE
  split
  · rename_i h0
    have : bagE (mdel k (mput k (cutL (bagE e k) n) e)) k = [] := by
      show (mlook k _).getD [] = _
      rw [mlook_mdel (keys_put h)]; rfl
    rw [this]
    exact (List.length_eq_zero_iff.1 h0).symm
  · exact bag_put
theorem bag_take_ne {e : EnvG} {k k' : Ky} {n : Nat} (hk : k' ≠ k) : bagE (takeE e k n) k' = bagE e k' := by
  unfold takeE
  split
  · show (mlook k' _).getD [] = _
    rw [mlook_mdel_ne hk]; exact bag_put_ne hk
  · exact bag_put_ne hk
theorem bag_send {e : EnvG} {k : Ky} {l : List Int} : bagE (sendE e k l) k = if sendC e k l = 0 then bagE e k ++ [l] else bagE e k := by
  unfold sendE
  split
  · exact bag_put
  · rfl
theorem bag_send_ne {e : EnvG} {k k' : Ky} {l : List Int} (hk : k' ≠ k) : bagE (sendE e k l) k' = bagE e k' := by
  unfold sendE
  split
  · exact bag_put_ne hk
  · rfl
structure InvG (e : EnvG) : Prop where
  nodup : (e.map (·.1)).Nodup
  full : ∀ k l, mlook k e = some l → l ≠ []
theorem InvG.nil : InvG [] := ⟨by simp, fun k l h => by cases h⟩
theorem InvG.send {e : EnvG} (h : InvG e) (k : Ky) (l : List Int) : InvG (sendE e k l) := by
  unfold sendE
  split
  · refine ⟨keys_put h.nodup, fun k' l' h' => ?_⟩
    by_cases hk : k' = k
    · subst hk
      rw [mlook_mput] at h'; cases h'
      simp
    · rw [mlook_mput_ne hk] at h'; exact h.full _ _ h'
  · exact h
theorem InvG.take {e : EnvG} (h : InvG e) (k : Ky) (n : Nat) : InvG (takeE e k n) := by
  unfold takeE
  split
  · refine ⟨keys_del (keys_put h.nodup), fun k' l' h' => ?_⟩
    by_cases hk : k' = k
    · subst hk
      rw [mlook_mdel (keys_put h.nodup)] at h'; cases h'
    · rw [mlook_mdel_ne hk, mlook_mput_ne hk] at h'; exact h.full _ _ h'
  · rename_i h0
    refine ⟨keys_put h.nodup, fun k' l' h' => ?_⟩
    by_cases hk : k' = k
    · subst hk
      rw [mlook_mput] at h'; cases h'
      exact fun e => h0 (by rw [e]; rfl)
    · rw [mlook_mput_ne hk] at h'; exact h.full _ _ h'
theorem InvG.mem {e : EnvG} (h : InvG e) {k : Ky} : k ∈ e.map (·.1) ↔ bagE e k ≠ [] := by
  constructor
  · intro hk
    obtain ⟨l, hl⟩ := mlook_isSome hk
    unfold bagE
    rw [hl]
    exact h.full _ _ hl
  · intro hb
    by_cases hk : k ∈ e.map (·.1)
    · exact hk
    · unfold bagE at hb
      rw [mlook_none hk] at hb
      exact absurd rfl hb
section
variable {N : Nat} {e : EnvG} {a b c : Int}
theorem count_is (ha : i64 a) (hb : i64 b) : m_net_Net_Count N e a b = some (bagE e (a, b)).length := by
  unfold m_net_Net_Count m_net_Net_all m_net_bags_Count
  rw [bindO_pure, gd_pos ha, gd_pos hb, bindO_pure, bindO_pure]; rfl
theorem at_is (ha : i64 a) (hb : i64 b) : m_net_bags_at N e a b c = some (if isAt e (a, b) c then 0 else 6) := by
  unfold m_net_bags_at
  by_cases h0 : c < 0
  · rw [if_pos (by simpa using h0), bindO_pure, if_pos rfl, if_neg (fun h => by have := h.1; omega)]
  · rw [if_neg (by simpa using h0), gd_pos ha, gd_pos hb, bindO_pure, bindO_pure]
    by_cases h1 : c ≥ (((bagE e (a, b)).length : Nat) : Int)
    · rw [if_pos (by simpa [bagE] using h1), if_neg (fun h => by have := h.2; omega)]
    · rw [if_neg (by simpa [bagE] using h1), if_pos ⟨by omega, by omega⟩]
theorem send_is {l : List Int} (ha : i64 a) (hb : i64 b) (hl : (bagE e (a, b)).length ≤ 1000000) : m_net_Net_Send N e a b l = some (sendC e (a, b) l, sendE e (a, b) l) := by
  unfold m_net_Net_Send m_net_Net_all m_net_bags_put sendE sendC
  rw [bindO_pure]
  by_cases h1 : 1048576 < l.length
  · rw [if_pos (by simpa using h1), bindO_pure, if_pos h1, if_neg (by decide)]
  · rw [if_neg (by simpa using h1), gd_pos ha, gd_pos hb, bindO_pure, if_neg h1]
    by_cases h2 : 64 ≤ (bagE e (a, b)).length
    · rw [if_pos (by simpa [bagE] using h2), bindO_pure, if_pos h2, if_neg (by decide)]
    · rw [if_neg (by simpa [bagE] using h2), gd_pos (by omega), bindO_pure, gd_pos (by simp [bagE] at hl ⊢; omega), bindO_pure, if_neg h2, if_pos rfl]; rfl
theorem take_is (ha : i64 a) (hb : i64 b) (hl : (bagE e (a, b)).length ≤ 1000000) : m_net_Net_Take N e a b c = some (if isAt e (a, b) c then ((bagE e (a, b)).getD c.toNat [], 0, takeE e (a, b) c.toNat) else ([], 6, e)) := by
  unfold m_net_Net_Take m_net_Net_all m_net_bags_take
  rw [bindO_pure, at_is ha hb, bindO_pure]
  by_cases h : isAt e (a, b) c
  · have h0 := h.1
    have h1 := h.2
    rw [if_pos h, if_pos h, if_neg (by simp), gd_pos ha, gd_pos hb, bindO_pure, gd_pos h0]
    have hx : ((mlook (a, b) e).getD [])[c.toNat]? = some ((bagE e (a, b)).getD c.toNat []) := by
      show (bagE e (a, b))[c.toNat]? = _
      rw [List.getD_eq_getElem?_getD, List.getElem?_eq_getElem h1]; rfl
    rw [hx, bindO_pure, gd_pos (show -9223372036854775808 ≤ c + 1 ∧ c + 1 ≤ 9223372036854775807 by omega), gd_pos h0, gd_pos (show c.toNat < ((mlook (a, b) e).getD []).length from h1)]
    unfold takeE cutL
    by_cases h2 : ((bagE e (a, b)).take c.toNat ++ (bagE e (a, b)).drop (c.toNat + 1)).length = 0
    · rw [if_pos (by simpa [bagE] using h2), bindO_pure, if_pos h2]; rfl
    · rw [if_neg (by simpa [bagE] using h2), bindO_pure, if_neg h2]; rfl
  · rw [if_neg h, if_neg h, if_pos (by simp)]; rfl
theorem double_is (ha : i64 a) (hb : i64 b) (hl : (bagE e (a, b)).length ≤ 1000000) : m_net_Net_Double N e a b c = some (if isAt e (a, b) c then (sendC e (a, b) ((bagE e (a, b)).getD c.toNat []), sendE e (a, b) ((bagE e (a, b)).getD c.toNat [])) else (6, e)) := by
  unfold m_net_Net_Double m_net_Net_all
  rw [bindO_pure, at_is ha hb, bindO_pure]
  by_cases h : isAt e (a, b) c
  · have h0 := h.1
    have h1 := h.2
    rw [if_pos h, if_pos h, if_neg (by simp), bindO_pure, bindO_pure, gd_pos ha, gd_pos hb, bindO_pure, gd_pos h0]
    have hx : ((mlook (a, b) e).getD [])[c.toNat]? = some ((bagE e (a, b)).getD c.toNat []) := by
      show (bagE e (a, b))[c.toNat]? = _
      rw [List.getD_eq_getElem?_getD, List.getElem?_eq_getElem h1]; rfl
    rw [hx, bindO_pure]
    have := send_is (N := N) (e := e) (l := (bagE e (a, b)).getD c.toNat []) ha hb hl
    unfold m_net_Net_Send m_net_Net_all at this
    rw [bindO_pure] at this
    exact this
  · rw [if_neg h, if_neg h, if_pos (by simp)]
end
def pk (k : Ky) (p : Pkt) : Bool := p.from_ == k.1 && p.to_ == k.2
def bagR (r : List Pkt) (k : Ky) : List (List Int) := (r.filter (pk k)).map (·.b)
def plc (q : Pkt → Bool) : List Pkt → Nat → Option Nat
  | [], _ => none
  | x :: l, n => if q x = true then (if n = 0 then some 0 else (plc q l (n - 1)).map (· + 1)) else (plc q l n).map (· + 1)
theorem plc_some {q : Pkt → Bool} : ∀ {l : List Pkt} {n i : Nat}, plc q l n = some i → ∃ x, l[i]? = some x ∧ q x = true ∧ (l.filter q)[n]? = some x ∧ (l.take i ++ l.drop (i + 1)).filter q = (l.filter q).take n ++ (l.filter q).drop (n + 1) ∧ ∀ q' : Pkt → Bool, (∀ y, q y = true → q' y = false) → (l.take i ++ l.drop (i + 1)).filter q' = l.filter q'
  | [], n, i, h => by cases h
  | x :: l, n, i, h => by
    unfold plc at h
    by_cases hx : q x = true
    · rw [if_pos hx] at h
      by_cases hn : n = 0
      · rw [if_pos hn] at h
        cases h
        subst hn
        exact ⟨x, rfl, hx, by rw [List.filter_cons_of_pos hx]; rfl, by simp [hx], fun q' hq => by simp [hq x hx]⟩
      · rw [if_neg hn] at h
        obtain ⟨j, hj, rfl⟩ := Option.map_eq_some_iff.1 h
        obtain ⟨y, h1, h2, h3, h4, h5⟩ := plc_some hj
        obtain ⟨m, rfl⟩ : ∃ m, n = m + 1 := ⟨n - 1, by omega⟩
        simp only [Nat.add_sub_cancel] at h3 h4
        refine ⟨y, by simpa using h1, h2, by rw [List.filter_cons_of_pos hx]; simpa using h3, ?_, fun q' hq => ?_⟩
        · rw [List.filter_cons_of_pos hx]
          simp only [List.take_succ_cons, List.drop_succ_cons, List.cons_append]
          rw [List.filter_cons_of_pos hx, h4]
        · simp only [List.take_succ_cons, List.drop_succ_cons, List.cons_append]
          rw [List.filter_cons, List.filter_cons, h5 q' hq]
    · rw [if_neg hx] at h
      obtain ⟨j, hj, rfl⟩ := Option.map_eq_some_iff.1 h
      obtain ⟨y, h1, h2, h3, h4, h5⟩ := plc_some hj
      refine ⟨y, by simpa using h1, h2, by rw [List.filter_cons_of_neg hx]; exact h3, ?_, fun q' hq => ?_⟩
      · rw [List.filter_cons_of_neg hx]
        simp only [List.take_succ_cons, List.drop_succ_cons, List.cons_append]
        rw [List.filter_cons_of_neg hx, h4]
      · simp only [List.take_succ_cons, List.drop_succ_cons, List.cons_append]
        rw [List.filter_cons, List.filter_cons, h5 q' hq]
section
variable {N : Nat} {r : List Pkt} {a b c : Int}
theorem rcount_is (hN : 9223372036854775808 ≤ N) (hr : r.length ≤ 1000000) : m_ropewalkref20_Net_Count N r a b = some (bagR r (a, b)).length := by
  unfold m_ropewalkref20_Net_Count
  obtain ⟨o, h1, h2⟩ := iter_inv (f := m_ropewalkref20_Net_Count_L1 N r a b) (fun s => s.1 ≤ r.length ∧ s.2 = ((r.take s.1).filter (pk (a, b))).length) (fun s => r.length - s.1) (fun o => o = (bagR r (a, b)).length) (fun s hs => by
    obtain ⟨i, n⟩ := s
    obtain ⟨hi, hn⟩ := hs
    simp only at hi hn
    unfold m_ropewalkref20_Net_Count_L1
    by_cases h : i < r.length
    · left
      have hx : r[i]? = some r[i] := List.getElem?_eq_getElem h
      have hc : m_ropewalkref20_Net_Count_C2 N r i a b n = some (if pk (a, b) r[i] = true then n + 1 else n) := by
        unfold m_ropewalkref20_Net_Count_C2 pk
        have hnl : n ≤ r.length := by
          rw [hn]; exact Nat.le_trans (List.length_filter_le _ _) (by rw [List.length_take]; omega)
        rw [hx, bindO_pure]
        by_cases q1 : r[i].from_ = a
        · rw [if_pos (by simpa using q1), bindO_pure, bindO_pure]
          by_cases q2 : r[i].to_ = b
          · rw [if_pos (by simpa using q2), gd_pos (by omega), if_pos (by simp [q1, q2])]
          · rw [if_neg (by simpa using q2), if_neg (by simp [q2])]
        · rw [if_neg (by simpa using q1), bindO_pure, if_neg (by simp), if_neg (by simp [q1])]
      refine ⟨(i + 1, if pk (a, b) r[i] = true then n + 1 else n), ?_, ⟨by simp only; omega, ?_⟩, by simp only; omega⟩
      · simp only
        rw [if_pos (by simpa using h), hc, bindO_pure, gd_pos (by omega)]
      · simp only
        rw [List.take_add_one, hx, List.filter_append, List.length_append, ← hn]
        by_cases q : pk (a, b) r[i] = true
        · rw [if_pos q]; simp [q]
        · rw [if_neg q]; simp [q]
    · right
      refine ⟨n, by simp only; rw [if_neg (by simpa using h)], ?_⟩
      rw [hn, List.take_of_length_le (by omega)]
      simp [bagR]) N (0, 0) ⟨Nat.zero_le _, rfl⟩ (by simp only; omega)
  rw [h1, h2]; rfl
theorem rsend_is {l : List Int} (hN : 9223372036854775808 ≤ N) (hr : r.length ≤ 1000000) : m_ropewalkref20_Net_Send N r a b l = some (if 1048576 < l.length then (3, r) else if 64 ≤ (bagR r (a, b)).length then (5, r) else (0, r ++ [⟨a, b, l⟩])) := by
  unfold m_ropewalkref20_Net_Send
  by_cases h1 : 1048576 < l.length
  · rw [if_pos (by simpa using h1), if_pos h1]
  · rw [if_neg (by simpa using h1), rcount_is hN hr, bindO_pure, if_neg h1]
    by_cases h2 : 64 ≤ (bagR r (a, b)).length
    · rw [if_pos (by simpa using h2), if_pos h2]
    · rw [if_neg (by simpa using h2), gd_pos (by simp; omega), gd_pos (by simp; omega), if_neg h2]
end
def ltP (x y : Ky) : Prop := x.1 < y.1 ∨ (x.1 = y.1 ∧ x.2 < y.2)
instance (x y : Ky) : Decidable (ltP x y) := inferInstanceAs (Decidable (_ ∨ _))
theorem nodup_sorted {l : List Ky} (h : l.Pairwise ltP) : l.Nodup := h.imp fun {a b} hab e => by
  subst e
  simp only [ltP] at hab
  omega
section
variable {N : Nat}
theorem cmpK_is (hN : 9223372036854775808 ≤ N) (x y : Ky) : ∃ z, m_net_bags_Links_1 N x.1 x.2 y.1 y.2 = some z ∧ (z < 0 ↔ ltP x y) := by
  have hc : ∀ a b : Int, m_cmp_Compare_int N a b = some (if a < b then -1 else if a > b then 1 else 0) := fun a b => by
    unfold m_cmp_Compare_int m_cmp_isNaN_int
    rw [bindO_pure, bindO_pure, if_neg (by simp), if_neg (by simp)]
    by_cases h1 : a < b
    · rw [if_pos (by simpa using h1), if_pos h1]
    · rw [if_neg (by simpa using h1), if_neg h1]
      by_cases h2 : a > b
      · rw [if_pos (by simpa using h2), if_pos h2]
      · rw [if_neg (by simpa using h2), if_neg h2]
  have ho : ∀ a b : Int, m_cmp_Or_int N [a, b] = some (if a = 0 then b else a) := fun a b => by
    unfold m_cmp_Or_int
    obtain ⟨M, rfl⟩ : ∃ M, N = M + 3 := ⟨N - 3, by omega⟩
    have st : ∀ (i : Nat) (x : Int), [a, b][i]? = some x → i < 2 → m_cmp_Or_int_L1 (M + 3) [a, b] i = if x = 0 then some (.inl (i + 1)) else some (.inr (.inr x)) := fun i x hx hi => by
      unfold m_cmp_Or_int_L1
      rw [if_pos (by simpa using hi), hx, bindO_pure, gd_pos (by omega)]
      by_cases h : x = 0
      · rw [if_neg (by simp [h]), if_pos h]
      · rw [if_pos (by simpa using h), if_neg h]
    by_cases h0 : a = 0
    · rw [iter_step (by rw [st 0 a rfl (by omega), if_pos h0]), if_pos h0]
      by_cases h1 : b = 0
      · rw [iter_step (by rw [st 1 b rfl (by omega), if_pos h1]), iter_stop (o := .inl ()) (by unfold m_cmp_Or_int_L1; rw [if_neg (by simp)]), h1]; rfl
      · rw [iter_stop (by rw [st 1 b rfl (by omega), if_neg h1])]; rfl
    · rw [iter_stop (by rw [st 0 a rfl (by omega), if_neg h0]), if_neg h0]; rfl
  unfold m_net_bags_Links_1
  rw [hc, bindO_pure, hc, bindO_pure, ho, bindO_pure]
  refine ⟨_, rfl, ?_⟩
  simp only [ltP]
  by_cases h1 : x.1 < y.1
  · simp [h1]
  · by_cases h2 : x.1 > y.1
    · simp [h1, h2]; omega
    · have h3 : x.1 = y.1 := by omega
      by_cases h4 : x.2 < y.2
      · simp [h3, h4]
      · by_cases h5 : x.2 > y.2 <;> simp [h3, h4, h5]
theorem cfK (hN : 9223372036854775808 ≤ N) (x y : Ky) : cfO (fun x_ y_ => m_net_bags_Links_1 N x_.1 x_.2 y_.1 y_.2) x y < 0 ↔ ltP x y := by
  obtain ⟨z, h1, h2⟩ := cmpK_is hN x y
  unfold cfO
  dsimp only
  rw [h1]; exact h2
theorem links_is {e : EnvG} {L : List Ky} (hN : 9223372036854775808 ≤ N) (he : InvG e) (hL : L.Pairwise ltP) (hm : ∀ k, k ∈ L ↔ bagE e k ≠ []) (hlen : L.length ≤ 1000000) : m_net_Net_Links N e = some L := by
  have hp : L.Perm (e.map (·.1)) := (List.perm_ext_iff_of_nodup (nodup_sorted hL) he.nodup).2 fun k => (hm k).trans he.mem.symm
  have hl : e.length = L.length := by have := hp.length_eq; simpa using this.symm
  have hok : SortOk (fun x_ y_ : Ky => m_net_bags_Links_1 N x_.1 x_.2 y_.1 y_.2) (List.map (fun x : (Int × Int) × List (List Int) => x.1) e) := by
    refine ⟨fun x _ y _ => ?_, fun x _ h => ?_, fun x _ y _ z _ h1 h2 => ?_, fun x _ y _ z _ h1 h2 => ?_, fun x _ y _ h1 h2 => ?_, by simp; omega⟩
    · obtain ⟨z, h, _⟩ := cmpK_is hN x y
      exact ⟨z, h⟩
    · rw [cfK hN] at h; simp only [ltP] at h; omega
    · rw [cfK hN] at h1 h2 ⊢; simp only [ltP] at h1 h2 ⊢; omega
    · rw [cfK hN] at h1 h2 ⊢; simp only [ltP] at h1 h2 ⊢; omega
    · rw [cfK hN] at h1 h2
      obtain ⟨x1, x2⟩ := x
      obtain ⟨y1, y2⟩ := y
      simp only [ltP] at h1 h2
      simp only [Prod.mk.injEq]
      omega
  have hs := sortM_is (l' := L) hok hp (hL.imp fun {a b} hab h => by
    rw [cfK hN] at h
    simp only [ltP] at h hab
    omega)
  unfold m_net_Net_Links m_net_Net_all
  rw [bindO_pure, gd_pos (by omega), hs, bindO_pure]
theorem linksame_is {l : List Ky} (hN : 9223372036854775808 ≤ N) (hl : l.length ≤ 1000000) : m_ropewalklaw20_links N l l = some true := by
  unfold m_ropewalklaw20_links
  rw [if_neg (by simp), iter_look l.length (fun i hi => by
    unfold m_ropewalklaw20_links_L1
    rw [if_pos (by simpa using hi), List.getElem?_eq_getElem hi, bindO_pure, bindO_pure, if_neg (by simp), gd_pos (by omega)])
    (by unfold m_ropewalklaw20_links_L1; rw [if_neg (by simp)]) (by omega), bindS_inl]
end
end Go.Proofs.Ytegkmbkbaenkcaa
