import Derived.Test.YtgangmegcejllaaDoorXM
import Derived.Test.YtgangmegcejllaaDoorPlain2
import Derived.Sort.AssemblyPlain
namespace Go.Proofs.YtgangmegcejllaaDoor
open Go Go.RowKit
def cmpI (a b : Int) : Int := if a < b then -1 else if a > b then 1 else 0
def lexI : List Int → List Int → Int
  | [], [] => 0
  | [], _ :: _ => -1
  | _ :: _, [] => 1
  | a :: l, b :: m => if a < b then -1 else if a > b then 1 else lexI l m
theorem lexI_zero : ∀ {l m : List Int}, lexI l m = 0 → l = m
  | [], [], _ => rfl
  | [], _ :: _, h => by simp [lexI] at h
  | _ :: _, [], h => by simp [lexI] at h
  | a :: l, b :: m, h => by
    unfold lexI at h
    split at h
    · omega
    · split at h
      · omega
      · rw [lexI_zero h, show a = b by omega]
section
variable {N : Nat}
theorem cmp_is (a b : Int) : m_cmp_Compare_int N a b = some (cmpI a b) := by
  unfold m_cmp_Compare_int cmpI m_cmp_isNaN_int
  rw [bindO_pure, bindO_pure, if_neg (by simp), if_neg (by simp)]
  by_cases h1 : a < b
  · rw [if_pos (by simpa using h1), if_pos h1]
  · rw [if_neg (by simpa using h1), if_neg h1]
    by_cases h2 : a > b
    · rw [if_pos (by simpa using h2), if_pos h2]
    · rw [if_neg (by simpa using h2), if_neg h2]
theorem compare_go (l m : List Int) : ∀ (k i fuel : Nat), l.length - i ≤ k → k < fuel → i ≤ l.length → i ≤ m.length → l.length ≤ 9223372036854775000 →
    (bindS (iter (m_slices_Compare_int_L1 N l m) fuel i) fun _ => if (decide (l.length < m.length)) = true then some (-1) else some 0) = some (lexI (l.drop i) (m.drop i)) := by
  intro k
  induction k with
  | zero =>
    intro i fuel h1 h2 h3 h4 h5
    obtain ⟨fuel, rfl⟩ : ∃ f, fuel = f + 1 := ⟨fuel - 1, by omega⟩
    have hi : i = l.length := by omega
    subst hi
    rw [iter_stop (o := .inl ()) (by unfold m_slices_Compare_int_L1; rw [if_neg (by simp)]), bindS_inl, List.drop_length]
    by_cases h : l.length < m.length
    · rw [if_pos (by simpa using h), List.drop_eq_getElem_cons h]; rfl
    · rw [if_neg (by simpa using h), List.drop_eq_nil_of_le (by omega)]; rfl
  | succ k ih =>
    intro i fuel h1 h2 h3 h4 h5
    by_cases hi : i < l.length
    · obtain ⟨fuel, rfl⟩ : ∃ f, fuel = f + 1 := ⟨fuel - 1, by omega⟩
      rw [List.drop_eq_getElem_cons hi]
      by_cases hm : i < m.length
      · rw [List.drop_eq_getElem_cons hm]
        unfold lexI
        have hs : m_slices_Compare_int_L1 N l m i = if (cmpI l[i] m[i] != 0) = true then some (.inr (.inr (cmpI l[i] m[i]))) else some (.inl (i + 1)) := by
          unfold m_slices_Compare_int_L1
          rw [if_pos (by simpa using hi), List.getElem?_eq_getElem hi, bindO_pure, if_neg (by simp; omega), List.getElem?_eq_getElem hm, bindO_pure, cmp_is, bindO_pure, gd_pos (by omega)]
        by_cases hc : cmpI l[i] m[i] = 0
        · rw [if_neg (by simp [hc])] at hs
          rw [iter_step hs, ih (i + 1) fuel (by omega) (by omega) (by omega) (by omega) h5]
          unfold cmpI at hc
          split at hc
          · omega
          · split at hc
            · omega
            · rename_i q1 q2
              rw [if_neg q1, if_neg q2]
        · rw [if_pos (by simpa using hc)] at hs
          rw [iter_stop hs, bindS_inr]
          unfold cmpI at hc ⊢
          split
          · rfl
          · split
            · rfl
            · rename_i q1 q2
              rw [if_neg q1, if_neg q2] at hc
              exact absurd rfl hc
      · rw [iter_stop (o := .inr 1) (by unfold m_slices_Compare_int_L1; rw [if_pos (by simpa using hi), List.getElem?_eq_getElem hi, bindO_pure, if_pos (by simp; omega)]), bindS_inr, show m.drop i = [] from List.drop_eq_nil_of_le (by omega)]; rfl
    · exact ih i fuel (by omega) (by omega) h3 h4 h5
theorem compare_is {l m : List Int} (hN : 1000000 ≤ N) (hl : l.length ≤ 100000) : m_slices_Compare_int N l m = some (lexI l m) := by
  have := compare_go (N := N) l m l.length 0 N (by omega) (by omega) (by omega) (by omega) (by omega)
  unfold m_slices_Compare_int
  simpa using this
def orI : List Int → Int
  | [] => 0
  | a :: l => if a = 0 then orI l else a
theorem or_is (hN : 1000000 ≤ N) (a b c d : Int) : m_cmp_Or_int N [a, b, c, d] = some (orI [a, b, c, d]) := by
  unfold m_cmp_Or_int
  obtain ⟨M, rfl⟩ : ∃ M, N = M + 5 := ⟨N - 5, by omega⟩
  have st : ∀ (i : Nat) (x : Int), [a, b, c, d][i]? = some x → i < 4 → m_cmp_Or_int_L1 (M + 5) [a, b, c, d] i = if x = 0 then some (.inl (i + 1)) else some (.inr (.inr x)) := fun i x hx hi => by
    unfold m_cmp_Or_int_L1
    rw [if_pos (by simpa using hi), hx, bindO_pure, gd_pos (by omega)]
    by_cases h : x = 0
    · rw [if_neg (by simp [h]), if_pos h]
    · rw [if_pos (by simpa using h), if_neg h]
  unfold orI
  by_cases h0 : a = 0
  · rw [iter_step (by rw [st 0 a rfl (by omega), if_pos h0]), if_pos h0]
    unfold orI
    by_cases h1 : b = 0
    · rw [iter_step (by rw [st 1 b rfl (by omega), if_pos h1]), if_pos h1]
      unfold orI
      by_cases h2 : c = 0
      · rw [iter_step (by rw [st 2 c rfl (by omega), if_pos h2]), if_pos h2]
        unfold orI
        by_cases h3 : d = 0
        · rw [iter_step (by rw [st 3 d rfl (by omega), if_pos h3]), if_pos h3, iter_stop (o := .inl ()) (by unfold m_cmp_Or_int_L1; rw [if_neg (by simp)])]; rfl
        · rw [iter_stop (by rw [st 3 d rfl (by omega), if_neg h3]), if_neg h3]; rfl
      · rw [iter_stop (by rw [st 2 c rfl (by omega), if_neg h2]), if_neg h2]; rfl
    · rw [iter_stop (by rw [st 1 b rfl (by omega), if_neg h1]), if_neg h1]; rfl
  · rw [iter_stop (by rw [st 0 a rfl (by omega), if_neg h0]), if_neg h0]; rfl
end
def Desc (l : List Int) : Prop := l.Pairwise fun a b => b ≤ a
def desc (l : List Int) : List Int := l.mergeSort fun a b => decide (b ≤ a)
theorem desc_perm (l : List Int) : (desc l).Perm l := List.mergeSort_perm l _
theorem desc_sorted (l : List Int) : Desc (desc l) := by
  have h := List.pairwise_mergeSort (le := fun a b : Int => decide (b ≤ a)) (fun a b c h1 h2 => by simp at *; omega) (fun a b => by simp; omega) l
  exact h.imp fun h => by simpa using h
theorem desc_len (l : List Int) : (desc l).length = l.length := (desc_perm l).length_eq
section
variable {N : Nat}
theorem cfO_is : cfO (fun x y => m_agenda_falling_1 N x y) = fun x y => cmpI y x := by
  funext x y
  unfold cfO m_agenda_falling_1
  simp only [cmp_is]
  rw [bindO_pure]; rfl
theorem cmpI_neg {a b : Int} : cmpI a b < 0 ↔ a < b := by
  unfold cmpI
  split
  · simp; assumption
  · split <;> simp <;> omega
theorem falling_is {l : List Int} (hl : l.length ≤ 1000000000) : m_agenda_falling N l = some (desc l) := by
  unfold m_agenda_falling
  have hk : SortOk (fun x y => m_agenda_falling_1 N x y) l := {
      some := fun x _ y _ => ⟨cmpI y x, by unfold m_agenda_falling_1; rw [cmp_is, bindO_pure]⟩
      irrefl := fun x _ => by rw [cfO_is]; simp only [cmpI_neg]; omega
      trans := fun x _ y _ z _ => by rw [cfO_is]; simp only [cmpI_neg]; omega
      ntrans := fun x _ y _ z _ => by rw [cfO_is]; simp only [cmpI_neg]; omega
      parts := fun x _ y _ => by rw [cfO_is]; simp only [cmpI_neg]; omega
      len := by omega }
  rw [gd_pos (by omega), sortM_is (l' := desc l) hk (desc_perm l) (by rw [cfO_is]; exact (desc_sorted l).imp fun h => by rw [cmpI_neg]; omega), bindO_pure]
end
def mkRl (s : Int) : Api_RuleD := ⟨(⟨#[]⟩ : ByteArray), s, 0, [], []⟩
def sal (l : List Int) (r : Int) : Int := if r < 0 then 0 else l.getD r.toNat 0
section
variable {N : Nat} (hN : 1000000 ≤ N)
include hN
theorem of_is {l : List Int} (hl : l.length ≤ 1000) : m_ropewalklaw14_of N l = some (l.map mkRl) := by
  unfold m_ropewalklaw14_of
  rw [iter_push l.length (fun i => mkRl (l.getD i 0)) [] (fun i hi => by
    unfold m_ropewalklaw14_of_L1
    simp only
    have hg : l.getD i 0 = l[i] := by simp [hi]
    rw [if_pos (by simpa using hi), List.getElem?_eq_getElem hi, bindO_pure, gd_pos (by simp; omega), gd_pos (by omega), hg]
    rfl) (by unfold m_ropewalklaw14_of_L1; simp only; rw [if_neg (by simp)]) (by omega), bindO_pure, List.nil_append, map_range l mkRl 0]
theorem by_is {l : List Int} {t : List Api_TypeD} (hl : l.length ≤ 1000) : m_agenda_by N t (l.map mkRl) = some l := by
  unfold m_agenda_by
  rw [iter_push l.length (fun i => id (l.getD i 0)) [] (fun i hi => by
    unfold m_agenda_by_L1
    simp only
    have hg : l.getD i 0 = l[i] := by simp [hi]
    rw [if_pos (by simpa using hi), List.getElem?_map, List.getElem?_eq_getElem hi, Option.map_some, bindO_pure, gd_pos (by simp; omega), gd_pos (by omega), hg]
    rfl) (by unfold m_agenda_by_L1; simp only; rw [if_neg (by simp)]) (by omega), bindO_pure, List.nil_append, map_range l id 0]
  simp
omit hN in
theorem ofsal_is {l x : List Int} {r : Int} : m_agenda_order_of N l r x = some (sal l r) := by
  unfold m_agenda_order_of sal
  by_cases h : r < 0
  · rw [if_pos (by simpa using h), bindO_pure, if_pos rfl, if_pos h]
  · rw [if_neg (by simpa using h), bindO_pure, if_neg h]
    by_cases h2 : r ≥ ((l.length : Nat) : Int)
    · rw [if_pos (by simpa using h2), List.getD_eq_getElem?_getD, List.getElem?_eq_none (by omega)]; rfl
    · have h3 : r.toNat < l.length := by omega
      rw [if_neg (by simpa using h2), gd_pos (by omega), List.getElem?_eq_getElem h3, bindO_pure, List.getD_eq_getElem?_getD, List.getElem?_eq_getElem h3]; rfl
def ordI (s : List Int) (r1 : Int) (i1 : List Int) (r2 : Int) (i2 : List Int) : Int := orI [cmpI (sal s r2) (sal s r1), lexI (desc i2) (desc i1), cmpI r1 r2, lexI i1 i2]
theorem order_is {s i1 i2 : List Int} {r1 r2 : Int} (h1 : i1.length ≤ 1000) (h2 : i2.length ≤ 1000) : m_agenda_order_compare N s r1 i1 r2 i2 = some (ordI s r1 i1 r2 i2) := by
  unfold m_agenda_order_compare ordI
  rw [ofsal_is, bindO_pure, ofsal_is, bindO_pure, cmp_is, bindO_pure, falling_is (by omega), bindO_pure, falling_is (by omega), bindO_pure, compare_is hN (by rw [desc_len]; omega), bindO_pure, cmp_is, bindO_pure, compare_is hN (by omega), bindO_pure, or_is hN, bindO_pure]
theorem pbetter_is {s i1 i2 : List Int} {t : List Api_TypeD} {r1 r2 : Int} (hs : s.length ≤ 1000) (h1 : i1.length ≤ 1000) (h2 : i2.length ≤ 1000) : m_agenda_Better N t (s.map mkRl) r1 i1 r2 i2 = some (decide (ordI s r1 i1 r2 i2 < 0)) := by
  unfold m_agenda_Better
  rw [by_is hN hs, bindO_pure, order_is hN h1 h2, bindO_pure]
end
structure WO {α : Type} (c : α → α → Int) : Prop where
  anti : ∀ x y, c x y < 0 ↔ 0 < c y x
  tr : ∀ x y z, c x y ≤ 0 → c y z ≤ 0 → c x z ≤ 0
theorem WO.flip {α : Type} {c : α → α → Int} (h : WO c) : WO fun x y => c y x :=
  ⟨fun x y => h.anti y x, fun x y z h1 h2 => h.tr z y x h2 h1⟩
theorem WO.key {α β : Type} {c : β → β → Int} (h : WO c) (f : α → β) : WO fun x y => c (f x) (f y) :=
  ⟨fun x y => h.anti _ _, fun x y z h1 h2 => h.tr _ _ _ h1 h2⟩
theorem WO.or {α : Type} {c c' : α → α → Int} (h : WO c) (h' : WO c') : WO fun x y => if c x y = 0 then c' x y else c x y := by
  constructor
  · intro x y
    have a1 := h.anti x y
    have a2 := h.anti y x
    have b1 := h'.anti x y
    by_cases e : c x y = 0
    · have e2 : c y x = 0 := by omega
      rw [if_pos e, if_pos e2]; exact b1
    · have e2 : c y x ≠ 0 := by omega
      rw [if_neg e, if_neg e2]; exact a1
  · intro x y z h1 h2
    have a1 := h.anti x y
    have a1' := h.anti y x
    have a2 := h.anti y z
    have a2' := h.anti z y
    have a3 := h.anti x z
    have a3' := h.anti z x
    have q1 : c x y ≤ 0 := by
      by_cases e : c x y = 0
      · omega
      · rw [if_neg e] at h1; exact h1
    have q2 : c y z ≤ 0 := by
      by_cases e : c y z = 0
      · omega
      · rw [if_neg e] at h2; exact h2
    have q3 := h.tr x y z q1 q2
    by_cases e : c x z = 0
    · rw [if_pos e]
      have t1 : c y x ≤ 0 := h.tr y z x q2 (by omega)
      have t2 : c z y ≤ 0 := h.tr z x y (by omega) q1
      rw [if_pos (by omega)] at h1 h2
      exact h'.tr x y z h1 h2
    · rw [if_neg e]; exact q3
theorem cmpI_wo : WO cmpI := by
  constructor
  · intro x y; unfold cmpI; split <;> split <;> (try split) <;> (try split) <;> omega
  · intro x y z; unfold cmpI; split <;> split <;> (try split) <;> (try split) <;> (try split) <;> omega
theorem lexI_anti : ∀ l m : List Int, lexI l m < 0 ↔ 0 < lexI m l
  | [], [] => by simp [lexI]
  | [], _ :: _ => by simp [lexI]
  | _ :: _, [] => by simp [lexI]
  | a :: l, b :: m => by
    have := lexI_anti l m
    unfold lexI
    split <;> split <;> (try split) <;> (try split) <;> omega
theorem lexI_tr : ∀ l m k : List Int, lexI l m ≤ 0 → lexI m k ≤ 0 → lexI l k ≤ 0
  | [], _, [] => by simp [lexI]
  | [], _, _ :: _ => by simp [lexI]
  | _ :: _, [], _ => by intro h; simp [lexI] at h
  | _ :: _, _ :: _, [] => by intro _ h; simp [lexI] at h
  | a :: l, b :: m, c :: k => by
    have := lexI_tr l m k
    unfold lexI
    intro h1 h2
    split at h1
    · split at h2
      · rw [if_pos (by omega)]; omega
      · split at h2
        · omega
        · rw [if_pos (by omega)]; omega
    · split at h1
      · omega
      · split at h2
        · rw [if_pos (by omega)]; omega
        · split at h2
          · omega
          · rw [if_neg (by omega), if_neg (by omega)]; exact this h1 h2
theorem lexI_wo : WO lexI := ⟨lexI_anti, lexI_tr⟩
def cfT (s : List Int) (x y : Api_TokenD) : Int := ordI s x.rule x.ids y.rule y.ids
def ltT (s : List Int) (x y : Api_TokenD) : Bool := decide (cfT s x y < 0)
theorem cfT_wo (s : List Int) : WO (cfT s) := by
  have h1 : WO fun x y : Api_TokenD => cmpI (sal s y.rule) (sal s x.rule) := (cmpI_wo.key fun x : Api_TokenD => sal s x.rule).flip
  have h2 : WO fun x y : Api_TokenD => lexI (desc y.ids) (desc x.ids) := (lexI_wo.key fun x : Api_TokenD => desc x.ids).flip
  have h3 : WO fun x y : Api_TokenD => cmpI x.rule y.rule := cmpI_wo.key fun x : Api_TokenD => x.rule
  have h4 : WO fun x y : Api_TokenD => lexI x.ids y.ids := lexI_wo.key fun x : Api_TokenD => x.ids
  have h := h1.or (h2.or (h3.or h4))
  have e : cfT s = fun x y : Api_TokenD => if cmpI (sal s y.rule) (sal s x.rule) = 0 then (if lexI (desc y.ids) (desc x.ids) = 0 then (if cmpI x.rule y.rule = 0 then lexI x.ids y.ids else cmpI x.rule y.rule) else lexI (desc y.ids) (desc x.ids)) else cmpI (sal s y.rule) (sal s x.rule) := by
    funext x y
    unfold cfT ordI orI orI orI orI orI
    by_cases e : lexI x.ids y.ids = 0
    · simp [e]
    · simp [e]
  rw [e]; exact h
theorem cfT_zero {s : List Int} {x y : Api_TokenD} (h : cfT s x y = 0) : x = y := by
  unfold cfT ordI orI orI orI orI orI at h
  have hr : x.rule = y.rule ∧ x.ids = y.ids := by
    split at h
    · split at h
      · split at h
        · split at h
          · rename_i _ _ q3 q4
            refine ⟨?_, lexI_zero q4⟩
            unfold cmpI at q3
            split at q3
            · omega
            · split at q3 <;> omega
          · exact absurd h (by assumption)
        · exact absurd h (by assumption)
      · exact absurd h (by assumption)
    · exact absurd h (by assumption)
  cases x; cases y; simp at hr ⊢; exact hr
theorem cfT_self (s : List Int) (x : Api_TokenD) : cfT s x x = 0 := by
  have := (cfT_wo s).anti x x
  omega
theorem ltT_swo (s : List Int) : Go.Sort.SWO (ltT s) where
  irrefl x := by unfold ltT; rw [cfT_self]; rfl
  trans x y z h1 h2 := by
    unfold ltT at *
    simp only [decide_eq_true_eq] at *
    have w := cfT_wo s
    have a1 := w.anti x y
    have a2 := w.anti y z
    have a3 := w.anti x z
    have a4 := w.anti z x
    have t := w.tr x y z (by omega) (by omega)
    by_cases e : cfT s x z = 0
    · have t2 := w.tr y z x (by omega) (by omega)
      omega
    · omega
  ntrans x y z h1 h2 := by
    unfold ltT at *
    simp only [decide_eq_false_iff_not] at *
    have w := cfT_wo s
    have a1 := w.anti x y
    have a1' := w.anti y x
    have a2 := w.anti y z
    have a2' := w.anti z y
    have a3 := w.anti x z
    have a3' := w.anti z x
    have t := w.tr z y x (by omega) (by omega)
    omega
theorem ltT_parts {s : List Int} {x y : Api_TokenD} (h1 : ltT s x y = false) (h2 : ltT s y x = false) : x = y := by
  unfold ltT at *
  simp only [decide_eq_false_iff_not] at *
  have a1 := (cfT_wo s).anti x y
  have a2 := (cfT_wo s).anti y x
  exact cfT_zero (s := s) (by omega)
end Go.Proofs.YtgangmegcejllaaDoor
