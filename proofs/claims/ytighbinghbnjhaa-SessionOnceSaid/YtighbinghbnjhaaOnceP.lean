/- The plain law behind SessionOnce: the model says true. -/
import Derived.Test.YtighbinghbnjhaaSesP
namespace Go.Proofs.Ytighbinghbnjhaa
open Go.RowKit
structure OnceI (k : Nat) (ids : List Int) (L : List SessD) (f : Int × Int → Option Int) : Prop where
  pos : 1 ≤ k
  len : L.length ≤ 32
  low : ∀ x ∈ ids, 0 < x ∧ x < (k : Int)
  led : Ledger k L f
theorem led_fit {k : Nat} {L : List SessD} {f : Int × Int → Option Int} (h : Ledger k L f) : ∀ y ∈ L, y.r.fit := fun y hy => by
  obtain ⟨h1, h2⟩ := h.bare y hy
  simp [ReplyD.fit, h1, h2]
theorem once_C4 {N k n : Nat} {ids : List Int} {L : List SessD} {f : Int × Int → Option Int} (x : Ropewalklaw27_DoD) (hN : 9223372036854775808 ≤ N) (h : OnceI k ids L f) (hk : k ≤ n + 1) (hn : n < 120) (hi : ids.length ≤ n) :
    m_ropewalklaw27_SessionOnce_C4 N ids x L (k : Int) = some (.inr (.inr (.inr (.inr true)))) ∨
    ∃ (ids' : List Int) (L' : List SessD) (k' : Nat), m_ropewalklaw27_SessionOnce_C4 N ids x L (k : Int) = some (.inl (ids', L', (k' : Int))) ∧ OnceI k' ids' L' f ∧ k' ≤ n + 2 ∧ ids'.length ≤ n + 1 ∧ ids' ≠ [] := by
  obtain ⟨y, hy, _⟩ := Pick_is (N := N) (x := x.op) (n := 8) (by omega)
  obtain ⟨c, hc⟩ : ∃ c : Bool, (if (ids.length == 0) = true then some true else bindO (m_ropewalkkit_Pick N x.op 8) fun v41 => some (v41 == 0)) = some c ∧ (c = false → ids ≠ []) := by
    by_cases h0 : ids = []
    · subst h0; exact ⟨true, rfl, by simp⟩
    · rw [if_neg (by simpa using h0), hy]; exact ⟨_, rfl, fun _ => h0⟩
  unfold m_ropewalklaw27_SessionOnce_C4
  rw [hc.1, bindO_pure]
  cases c with
  | false => right; exact ⟨ids, L, k, rfl, h, by omega, by omega, hc.2 rfl⟩
  | true =>
    rw [if_pos rfl, open_is (by have := h.len; omega) (by have := h.pos; omega) (by omega)]
    by_cases hf : 32 ≤ L.length
    · left
      rw [if_pos (.inl hf)]
      simp only [bindO_pure]
      rw [if_pos (by simp), if_pos (by simp), All_is hN (by have := h.len; omega) (led_fit h.led) (by have := h.pos; omega), bindO_pure]
      have : L.length = 32 := by have := h.len; omega
      simp [this]
    · right
      rw [if_neg (by omega)]
      simp only [bindO_pure]
      rw [if_neg (by simp)]
      have e : (if (decide (0 < ids.length)) = true then (gd (-9223372036854775808 ≤ ((ids.length : Nat) : Int) - 1 ∧ ((ids.length : Nat) : Int) - 1 ≤ 9223372036854775807) <| gd (0 ≤ ((ids.length : Nat) : Int) - 1) <|
          bindO (ids[(((ids.length : Nat) : Int) - 1).toNat]?) fun x68 => some (decide ((k : Int) ≤ x68))) else some false) = some false := by
        by_cases h0 : 0 < ids.length
        · rw [if_pos (by simpa using h0), gd_pos (by omega), gd_pos (by omega)]
          have hlt : (((ids.length : Nat) : Int) - 1).toNat < ids.length := by omega
          rw [List.getElem?_eq_getElem hlt, bindO_pure]
          have := h.low _ (List.getElem_mem hlt)
          simp only [Option.some.injEq, decide_eq_false_iff_not]; omega
        · rw [if_neg (by simpa using h0)]
      rw [e, bindO_pure, if_neg (by simp), gd_pos (by simp; omega)]
      refine ⟨ids ++ [(k : Int)], L ++ [sesNew (k : Int)], k + 1, by rw [Int.natCast_add]; rfl, ⟨by omega, by simp; omega, fun x hx => ?_, led_open h.led⟩, by omega, by simp; omega, by simp⟩
      rcases List.mem_append.1 hx with hx | hx
      · have := h.low x hx; omega
      · simp at hx; subst hx; have := h.pos; omega
theorem expire_len (L : List SessD) (id : Int) : (expireOf L id).1.length ≤ L.length := by
  unfold expireOf; split
  · exact Nat.le_refl _
  · simp; omega
theorem done_len (L : List SessD) (id seq : Int) (x : ReplyD) : (doneOf L id seq x).1.length = L.length := by
  unfold doneOf; split
  · rfl
  · split
    · rfl
    · split <;> simp
theorem once_C3 {N k n c : Nat} {ids : List Int} {L : List SessD} {f : Int × Int → Option Int} {l : List Ropewalklaw27_DoD} (hN : 9223372036854775808 ≤ N) (h : OnceI k ids L f) (hk : k ≤ n + 1) (hn : n < 120) (hi : ids.length ≤ n) (hl : n < l.length) (hc : c ≤ n) :
    m_ropewalklaw27_SessionOnce_C3 N l n ids L (k : Int) f c = some (.inr (.inr (.inr true))) ∨
    ∃ (ids' : List Int) (L' : List SessD) (k' c' : Nat) (f' : Int × Int → Option Int), m_ropewalklaw27_SessionOnce_C3 N l n ids L (k : Int) f c = some (.inl (ids', c', f', L', (k' : Int))) ∧ OnceI k' ids' L' f' ∧ k' ≤ n + 2 ∧ ids'.length ≤ n + 1 ∧ c' ≤ n + 1 := by
  unfold m_ropewalklaw27_SessionOnce_C3
  rw [List.getElem?_eq_getElem hl, bindO_pure]
  rcases once_C4 l[n] hN h hk hn hi with e | ⟨ids', L', k', e, h', hk', hi', hne⟩
  · left; rw [e]; rfl
  · right
    rw [e]
    simp only [bindS_inl]
    have hpos : 0 < ids'.length := List.length_pos_iff.2 hne
    obtain ⟨v, hv, hv0, hv1, _⟩ := Pick_is (N := N) (x := l[n].id) (n := ((ids'.length : Nat) : Int)) (by omega)
    have hv1 := hv1 (by omega)
    have hlt : v.toNat < ids'.length := by omega
    obtain ⟨q, hq, hq0, hq1, _⟩ := Pick_is (N := N) (x := l[n].seq) (n := 12) (by omega)
    have hq1 := hq1 (by omega)
    obtain ⟨r, hr, _⟩ := Pick_is (N := N) (x := l[n].op) (n := 30) (by omega)
    have hid := h'.low _ (List.getElem_mem hlt)
    have hkp := h'.pos
    have hlen := h'.len
    rw [hv, bindO_pure, gd_pos hv0, List.getElem?_eq_getElem hlt, bindO_pure, hq, bindO_pure, gd_pos (by omega), hr]
    generalize ids'[v.toNat] = id at hid ⊢
    -- the table behind a session that may have ended
    obtain ⟨M, hM, hM2, hM3⟩ : ∃ M, (bindO (some r) fun v90 => if (v90 == 1) = true then (bindO (m_session_Table_Expire N L' (k' : Int) id) fun (v94_0, v94_1) => some v94_1) else some L') = some M ∧ Ledger k' M f ∧ M.length ≤ 32 := by
      rw [bindO_pure]
      by_cases hr1 : r = 1
      · obtain ⟨e, _, h2⟩ := Expire_is (N := N) (l := L') (nx := (k' : Int)) (id := id) hN (by omega) (by omega)
        rw [if_pos (by simpa using hr1), h2]
        exact ⟨_, rfl, led_expire h'.led id, Nat.le_trans (expire_len ..) hlen⟩
      · rw [if_neg (by simpa using hr1)]; exact ⟨_, rfl, h'.led, hlen⟩
    rw [hM, bindO_pure]
    have hfit := led_fit hM2
    obtain ⟨ea, hea, hask⟩ := Ask_is (N := N) (l := M) (nx := (k' : Int)) (id := id) (seq := 1 + q) hN (by omega) hfit (by omega)
    rw [hask]
    simp only [bindO_pure]
    rw [gd_pos (by omega), gd_pos (by omega)]
    have base : ∀ g, Ledger k' M g → OnceI k' ids' M g := fun g hg => ⟨hkp, hM3, h'.low, hg⟩
    cases hd : (askOf M id (1 + q)).2.1 with
    | true =>
      obtain ⟨h1, h2⟩ := ask_is hM2 hd
      have he0 : ea = 0 := by omega
      subst he0
      rw [if_pos rfl]
      simp only [h2]
      refine ⟨ids', M, k', c, f, by simp [bindO_pure], base f hM2, by omega, by omega, by omega⟩
    | false =>
      rw [if_neg (by simp)]
      by_cases he0 : ea = 0
      · subst he0
        obtain ⟨h1, h2⟩ := ask_new hM2 hd hea.symm
        obtain ⟨h3, h4⟩ := h2 ⟨0, ((n + 1 : Nat) : Int), [], []⟩
        obtain ⟨ed, hed, hdone⟩ := Done_is (N := N) (l := M) (nx := (k' : Int)) (id := id) (seq := 1 + q) (a := 0) (b := ((n + 1 : Nat) : Int)) (fs := []) (sd := []) hN (by omega) (by simp [ReplyD.fit]) (by omega)
        have hd0 : ed = 0 := by omega
        subst hd0
        rw [if_pos (by simp), h1]
        simp only [Option.isSome_none, Bool.false_eq_true, if_false]
        rw [gd_pos (by omega), hdone]
        simp only [bindO_pure, bne_self_eq_false, Bool.false_eq_true, if_false]
        rw [gd_pos (by omega), gd_pos (by omega), gd_pos (by omega), gd_pos (by omega), gd_pos (by omega)]
        exact ⟨_, _, k', c + 1, _, rfl, ⟨hkp, by rw [done_len]; exact hM3, h'.low, h4 ⟨rfl, rfl⟩⟩, by omega, by omega, by omega⟩
      · rw [if_neg (by simpa using he0)]
        have he : ea = 303 ∨ ea = 304 := by
          rcases ask_else (L := M) (id := id) (seq := 1 + q) with h1 | h1 | h1 <;> omega
        rcases he with rfl | rfl
        · exact ⟨ids', M, k', c, f, by simp [bindO_pure], base f hM2, by omega, by omega, by omega⟩
        · exact ⟨ids', M, k', c, f, by simp [bindO_pure], base f hM2, by omega, by omega, by omega⟩
theorem once_awake : m_ropewalklaw27_awake 9223372036854775808 = some true := by kernel_rfl
theorem once_law (l : List Ropewalklaw27_DoD) (hl : l.length ≤ 9223372036854775807) : m_ropewalklaw27_SessionOnce 9223372036854775808 l = some true := by
  obtain ⟨o, h1, h2⟩ := iter_inv (f := m_ropewalklaw27_SessionOnce_L1 9223372036854775808 l)
    (fun (i, ids, c, f, L, nx) => ∃ k : Nat, nx = (k : Int) ∧ OnceI k ids L f ∧ k ≤ i + 1 ∧ i ≤ 120 ∧ ids.length ≤ i ∧ c ≤ i ∧ i ≤ l.length) (fun s => 120 - s.1) (fun o => o = .inl () ∨ o = .inr true)
    (fun (i, ids, c, f, L, nx) ⟨k, hnx, hI, hk, hi, hid, hc, hil⟩ => by
      subst hnx
      unfold m_ropewalklaw27_SessionOnce_L1
      by_cases h : i < l.length ∧ i < 120
      · have e : (if (decide (i < l.length)) = true then some (decide (i < 120)) else some false) = some true := by
          rw [if_pos (by simpa using h.1)]; simp [h.2]
        simp only [e, bindO_pure, if_true]
        rcases once_C3 (l := l) (Nat.le_refl _) hI hk h.2 hid h.1 hc with e2 | ⟨ids', L', k', c', f', e2, hI', hk', hid', hc'⟩
        · right; exact ⟨_, by rw [e2]; rfl, .inr rfl⟩
        · left
          refine ⟨(i + 1, ids', c', f', L', (k' : Int)), by rw [e2]; simp only [bindS_inl]; rw [gd_pos (by omega)], ⟨k', rfl, hI', by omega, by omega, by omega, by omega, by omega⟩, ?_⟩
          simp only; omega
      · right
        refine ⟨.inl (), ?_, .inl rfl⟩
        have e : (if (decide (i < l.length)) = true then some (decide (i < 120)) else some false) = some false := by
          by_cases h0 : i < l.length
          · rw [if_pos (by simpa using h0)]; simp; omega
          · rw [if_neg (by simpa using h0)]
        simp only [e, bindO_pure, Bool.false_eq_true, if_false]) 9223372036854775808 (0, [], 0, fun _ => none, [], 1) ⟨1, rfl, ⟨by omega, by simp, by simp, led_new⟩, by omega, by omega, by simp, by omega, by omega⟩ (by simp only; omega)
  unfold m_ropewalklaw27_SessionOnce
  rw [once_awake, bindO_pure]
  simp only [Bool.not_true, Bool.false_eq_true, if_false, m_session_New, bindO_pure]
  rw [h1]
  rcases h2 with rfl | rfl <;> rfl
theorem once_arg {q : Ropewalklaw27_DoD → Prop} (l : List Ropewalklaw27_DoD) (ok : l.length ≤ 9223372036854775807 ∧ ∀ y ∈ l, q y) : m_ropewalklaw27_SessionOnce 9223372036854775808 l = some true := once_law l ok.1
end Go.Proofs.Ytighbinghbnjhaa
