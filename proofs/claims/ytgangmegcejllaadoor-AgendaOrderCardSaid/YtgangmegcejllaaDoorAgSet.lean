import Derived.Test.YtgangmegcejllaaDoorPdqG
namespace Go.Proofs.YtgangmegcejllaaDoor
open Go Go.RowKit
instance : DecidableEq Api_TokenD := fun x y => if h : x.rule = y.rule ∧ x.ids = y.ids then .isTrue (by cases x; cases y; simp at h ⊢; exact h) else .isFalse fun e => h (by subst e; exact ⟨rfl, rfl⟩)
structure TokOk (x : Api_TokenD) : Prop where
  rule : -9223372036854775808 ≤ x.rule ∧ x.rule ≤ 9223372036854775807
  ids : ∀ z ∈ x.ids, -9223372036854775808 ≤ z ∧ z ≤ 9223372036854775807
  len : x.ids.length ≤ 400
theorem fold_go {α σ : Type} {f : Nat × σ → Option ((Nat × σ) ⊕ σ)} (l : List α) (g : σ → α → σ) (I : Nat → σ → Prop) (step : ∀ i x a, l[i]? = some x → I i a → f (i, a) = some (.inl (i + 1, g a x)) ∧ I (i + 1) (g a x)) (stop : ∀ a, f (l.length, a) = some (.inr a)) :
    ∀ (k i : Nat) (a : σ), l.length - i ≤ k → i ≤ l.length → I i a → ∀ fuel, k < fuel → iter f fuel (i, a) = some ((l.drop i).foldl g a) ∧ I l.length ((l.drop i).foldl g a) := by
  intro k
  induction k with
  | zero =>
    intro i a hk hi hI fuel hf
    obtain ⟨fuel, rfl⟩ : ∃ f, fuel = f + 1 := ⟨fuel - 1, by omega⟩
    have e : i = l.length := by omega
    subst e
    rw [iter_stop (stop a), List.drop_length]
    exact ⟨rfl, hI⟩
  | succ k ih =>
    intro i a hk hi hI fuel hf
    obtain ⟨fuel, rfl⟩ : ∃ f, fuel = f + 1 := ⟨fuel - 1, by omega⟩
    by_cases h : i < l.length
    · obtain ⟨h1, h2⟩ := step i _ a (List.getElem?_eq_getElem h) hI
      rw [iter_step h1, List.drop_eq_getElem_cons h, List.foldl_cons]
      exact ih (i + 1) _ (by omega) (by omega) h2 fuel (by omega)
    · have e : i = l.length := by omega
      subst e
      rw [iter_stop (stop a), List.drop_length]
      exact ⟨rfl, hI⟩
theorem decF_len : ∀ f n : Nat, (decF f n).length ≤ f
  | 0, _ => Nat.le_refl _
  | f + 1, n => by
    unfold decF
    split
    · simp
    · have := decF_len f (n / 10)
      simp; omega
theorem itoa_len (n : Int) : (itoaF n).size ≤ 21 := by
  have h1 := decF_len 20 n.natAbs
  have h2 := decF_len 20 n.toNat
  have e : (itoaF n).size = (if n < 0 then 45 :: decF 20 n.natAbs else decF 20 n.toNat).length := by
    show (List.toArray _).size = _
    rw [List.size_toArray]
  rw [e]
  split
  · rw [List.length_cons]; omega
  · omega
def nameF (x : Api_TokenD) : ByteArray := x.ids.foldl (fun b z => b ++ ((⟨#[32]⟩ : ByteArray) ++ itoaF z)) (itoaF x.rule)
section
variable {N : Nat} (hN : 9223372036854775808 ≤ N)
include hN
theorem name_is {x : Api_TokenD} (h : TokOk x) : m_agenda_name N x.rule x.ids = some (nameF x) := by
  have hl := h.len
  unfold m_agenda_name
  have := fold_go (f := m_agenda_name_L1 N x.ids) x.ids (fun b z => b ++ ((⟨#[32]⟩ : ByteArray) ++ itoaF z)) (fun i b => b.size ≤ 22 * (i + 1)) (fun i z b hz hb => by
    have hi : i < x.ids.length := (List.getElem?_eq_some_iff.1 hz).1
    have hm := h.ids z (List.mem_of_getElem? hz)
    have h21 := itoa_len z
    have e32 : (⟨#[32]⟩ : ByteArray).size = 1 := rfl
    unfold m_agenda_name_L1
    simp only
    rw [if_pos (decide_eq_true hi), hz, bindO_pure, gd_pos hm, gd_pos (by omega), gd_pos (by rw [ByteArray.size_append]; omega), gd_pos (by omega)]
    exact ⟨rfl, by rw [ByteArray.size_append, ByteArray.size_append]; omega⟩) (fun b => by
    unfold m_agenda_name_L1
    simp only
    rw [if_neg (by simp)]) x.ids.length 0 (itoaF x.rule) (by omega) (by omega) (by have := itoa_len x.rule; omega) N (by omega)
  rw [gd_pos h.rule, this.1, bindO_pure]
  rfl
omit hN in
theorem own_is {x : Api_TokenD} (h : TokOk x) : m_agenda_own N x.rule x.ids = some () := by
  have := h.len
  unfold m_agenda_own
  rw [gd_pos (by omega)]
def Tm (m : List (ByteArray × Bool)) (K : ByteArray → Prop) : Prop := ∀ k, (mlook k m = some true ∧ K k) ∨ (mlook k m = none ∧ ¬ K k)
omit hN in
theorem tm_nil : Tm [] (fun _ => False) := fun _ => .inr ⟨rfl, id⟩
omit hN in
theorem mlook_mins {x k : ByteArray} : ∀ {m : List (ByteArray × Bool)}, mlook x m = none → mlook k (mins ltB x true m) = if x = k then some true else mlook k m
  | [], _ => rfl
  | y :: m, h => by
    unfold mins
    split
    · rfl
    · have hy : y.1 ≠ x := fun e => by rw [mlook, if_pos e] at h; cases h
      rw [mlook, if_neg hy] at h
      rw [mlook, mlook_mins h]
      by_cases e : y.1 = k
      · rw [if_pos e, if_neg (fun e2 => hy (e.trans e2.symm)), mlook, if_pos e]
      · rw [if_neg e]
        rw [mlook, if_neg e]
omit hN in
theorem mlook_mputT {x k : ByteArray} : ∀ {m : List (ByteArray × Bool)}, mlook k (mput x true m) = if x = k then some true else mlook k m
  | [] => rfl
  | y :: m => by
    unfold mput
    split
    · rename_i h
      rw [mlook]
      by_cases e : x = k
      · rw [if_pos e, if_pos e]
      · rw [if_neg e, if_neg e, mlook, if_neg (fun e2 => e (h.symm.trans e2))]
    · rename_i h
      rw [mlook, mlook_mputT]
      by_cases e : y.1 = k
      · rw [if_pos e, if_neg (fun e2 => h (e.trans e2.symm)), mlook, if_pos e]
      · rw [if_neg e]
        rw [mlook, if_neg e]
omit hN in
theorem Tm.put {m : List (ByteArray × Bool)} {K : ByteArray → Prop} (h : Tm m K) (x : ByteArray) : Tm (mputP ltB x true m) (fun k => k = x ∨ K k) := by
  intro k
  have e : mlook k (mputP ltB x true m) = if x = k then some true else mlook k m := by
    unfold mputP
    cases hx : mlook x m with
    | some b => exact mlook_mputT
    | none => exact mlook_mins hx
  rw [e]
  by_cases hk : x = k
  · left; rw [if_pos hk]; exact ⟨rfl, .inl hk.symm⟩
  · rw [if_neg hk]
    rcases h k with ⟨h1, h2⟩ | ⟨h1, h2⟩
    · exact .inl ⟨h1, .inr h2⟩
    · exact .inr ⟨h1, fun h3 => h3.elim (fun e => hk e.symm) h2⟩
omit hN in
theorem Tm.iff {m : List (ByteArray × Bool)} {K K' : ByteArray → Prop} (h : Tm m K) (e : ∀ k, K k ↔ K' k) : Tm m K' := fun k => (h k).imp (fun h => ⟨h.1, (e k).1 h.2⟩) (fun h => ⟨h.1, fun h2 => h.2 ((e k).2 h2)⟩)
omit hN in
theorem Tm.opt {m : List (ByteArray × Bool)} {K : ByteArray → Prop} (h : Tm m K) (k : ByteArray) : ∃ b : Bool, optE (mlook k m) (some false) (fun x => some x) = some b ∧ (b = true ↔ K k) := by
  rcases h k with ⟨h1, h2⟩ | ⟨h1, h2⟩
  · exact ⟨true, by rw [h1]; rfl, by simp [h2]⟩
  · exact ⟨false, by rw [h1]; rfl, by simp [h2]⟩
def Takes (s : List Int) (l : List Api_TokenD) : Prop := (∀ x ∈ l, 0 ≤ x.rule ∧ x.rule < ((s.length : Nat) : Int)) ∧ (l.map nameF).Nodup
theorem set_check {s : List Int} {l l1 l2 : List Api_TokenD} {e3 : List (ByteArray × Bool)} (hl : l.length ≤ 1000) (ho : ∀ x ∈ l, TokOk x) : ∀ (k i : Nat) (m : List (ByteArray × Bool)), l.length - i ≤ k → i ≤ l.length → Takes s (l.take i) → Tm m (fun n => ∃ x ∈ l.take i, nameF x = n) → ∀ fuel, k < fuel →
    (iter (m_agenda_Agenda_Set_v2_L1 N l s l1 l2 e3) fuel (i, m) = some (.inl ()) ∧ Takes s l) ∨ (iter (m_agenda_Agenda_Set_v2_L1 N l s l1 l2 e3) fuel (i, m) = some (.inr (4, s, l1, l2, e3)) ∧ ¬ Takes s l) := by
  intro k
  induction k with
  | zero =>
    intro i m hk hi ht hm fuel hf
    obtain ⟨fuel, rfl⟩ : ∃ f, fuel = f + 1 := ⟨fuel - 1, by omega⟩
    have e : i = l.length := by omega
    subst e
    left
    rw [List.take_length] at ht
    exact ⟨iter_stop (by unfold m_agenda_Agenda_Set_v2_L1; simp only; rw [if_neg (by simp)]), ht⟩
  | succ k ih =>
    intro i m hk hi ht hm fuel hf
    obtain ⟨fuel, rfl⟩ : ∃ f, fuel = f + 1 := ⟨fuel - 1, by omega⟩
    by_cases h : i < l.length
    · have hx := List.getElem?_eq_getElem h
      have hox := ho l[i] (List.getElem_mem h)
      have hC : ∃ b : Bool, m_agenda_Agenda_Set_v2_C2 N l[i] s m = some b ∧ (b = true ↔ ¬ ((0 ≤ l[i].rule ∧ l[i].rule < ((s.length : Nat) : Int)) ∧ ¬ ∃ x ∈ l.take i, nameF x = nameF l[i])) := by
        unfold m_agenda_Agenda_Set_v2_C2
        by_cases h1 : l[i].rule < 0
        · exact ⟨true, by rw [if_pos (decide_eq_true h1)], by simp; intro h2; omega⟩
        · rw [if_neg (by rw [decide_eq_true_eq]; exact h1)]
          by_cases h2 : l[i].rule ≥ ((s.length : Nat) : Int)
          · exact ⟨true, by rw [if_pos (decide_eq_true h2)], by simp; intro _ h3; omega⟩
          · rw [if_neg (by rw [decide_eq_true_eq]; exact h2), name_is hN hox, bindO_pure]
            obtain ⟨b, h3, h4⟩ := hm.opt (nameF l[i])
            refine ⟨b, h3, h4.trans ⟨fun h5 h6 => h6.2 h5, fun h5 => Classical.byContradiction fun h6 => h5 ⟨by omega, h6⟩⟩⟩
      obtain ⟨b, hb, hiff⟩ := hC
      have htk : l.take (i + 1) = l.take i ++ [l[i]] := by rw [List.take_add_one, hx]; rfl
      cases b with
      | true =>
        right
        refine ⟨iter_stop (by unfold m_agenda_Agenda_Set_v2_L1; simp only; rw [if_pos (decide_eq_true h), hx, bindO_pure, hb, bindO_pure, if_pos rfl]), fun hT => (hiff.1 rfl) ⟨hT.1 _ (List.getElem_mem h), ?_⟩⟩
        rintro ⟨x, h1, h2⟩
        have h3 := hT.2
        rw [← List.take_append_drop i l, List.map_append, List.nodup_append] at h3
        exact h3.2.2 _ (List.mem_map_of_mem h1) _ (List.mem_map_of_mem (by rw [List.drop_eq_getElem_cons h]; exact List.mem_cons_self)) h2
      | false =>
        have hg : (0 ≤ l[i].rule ∧ l[i].rule < ((s.length : Nat) : Int)) ∧ ¬ ∃ x ∈ l.take i, nameF x = nameF l[i] := Classical.byContradiction fun h1 => by have := hiff.2 h1; cases this
        have hst : m_agenda_Agenda_Set_v2_L1 N l s l1 l2 e3 (i, m) = some (.inl (i + 1, mputP ltB (nameF l[i]) true m)) := by
          unfold m_agenda_Agenda_Set_v2_L1
          simp only
          rw [if_pos (decide_eq_true h), hx, bindO_pure, hb, bindO_pure, if_neg (by simp), name_is hN hox, bindO_pure, gd_pos (by omega)]
        rw [iter_step hst]
        refine ih (i + 1) _ (by omega) (by omega) ?_ ((hm.put (nameF l[i])).iff fun n => ?_) fuel (by omega)
        · rw [htk]
          refine ⟨fun x hx2 => ?_, ?_⟩
          · rcases List.mem_append.1 hx2 with hx2 | hx2
            · exact ht.1 x hx2
            · rw [List.mem_singleton] at hx2; subst hx2; exact hg.1
          · rw [List.map_append, List.nodup_append]
            refine ⟨ht.2, by simp, fun a ha b hb2 e => ?_⟩
            simp only [List.map_cons, List.map_nil, List.mem_singleton] at hb2
            subst hb2; subst e
            obtain ⟨x, h1, h2⟩ := List.mem_map.1 ha
            exact hg.2 ⟨x, h1, h2⟩
        · rw [htk]
          constructor
          · rintro (e | ⟨x, h1, h2⟩)
            · exact ⟨l[i], List.mem_append_right _ (List.mem_singleton_self _), e.symm⟩
            · exact ⟨x, List.mem_append_left _ h1, h2⟩
          · rintro ⟨x, h1, h2⟩
            rcases List.mem_append.1 h1 with h1 | h1
            · exact .inr ⟨x, h1, h2⟩
            · rw [List.mem_singleton] at h1; subst h1; exact .inl h2.symm
    · have e : i = l.length := by omega
      subst e
      left
      rw [List.take_length] at ht
      exact ⟨iter_stop (by unfold m_agenda_Agenda_Set_v2_L1; simp only; rw [if_neg (by simp)]), ht⟩
noncomputable def spentB (K : ByteArray → Prop) (x : Api_TokenD) : Bool := @decide (K (nameF x)) (Classical.propDecidable _)
omit hN in
theorem spentB_iff {K : ByteArray → Prop} {x : Api_TokenD} : spentB K x = true ↔ K (nameF x) := by unfold spentB; exact @decide_eq_true_iff _ (Classical.propDecidable _)
theorem set_split {l : List Api_TokenD} {e3 : List (ByteArray × Bool)} {K : ByteArray → Prop} (hl : l.length ≤ 1000) (ho : ∀ x ∈ l, TokOk x) (hK : Tm e3 K) : ∀ (k i : Nat) (m : List (ByteArray × Bool)) (A B : List Api_TokenD) (J : ByteArray → Prop), l.length - i ≤ k → i ≤ l.length → A.length + B.length ≤ i → Tm m J → ∀ fuel, k < fuel →
    ∃ m', iter (m_agenda_Agenda_Set_v2_L2 N l e3) fuel (i, m, A, B) = some (m', A ++ (l.drop i).filter (fun x => !spentB K x), B ++ (l.drop i).filter (spentB K)) ∧ Tm m' (fun n => J n ∨ ∃ x ∈ l.drop i, nameF x = n ∧ K n) := by
  intro k
  induction k with
  | zero =>
    intro i m A B J hk hi hAB hm fuel hf
    obtain ⟨fuel, rfl⟩ : ∃ f, fuel = f + 1 := ⟨fuel - 1, by omega⟩
    have e : i = l.length := by omega
    subst e
    refine ⟨m, ?_, hm.iff fun n => by simp⟩
    rw [iter_stop (o := (m, A, B)) (by unfold m_agenda_Agenda_Set_v2_L2; simp only; rw [if_neg (by simp)])]
    simp
  | succ k ih =>
    intro i m A B J hk hi hAB hm fuel hf
    obtain ⟨fuel, rfl⟩ : ∃ f, fuel = f + 1 := ⟨fuel - 1, by omega⟩
    by_cases h : i < l.length
    · have hx := List.getElem?_eq_getElem h
      have hox := ho l[i] (List.getElem_mem h)
      obtain ⟨b, h3, h4⟩ := hK.opt (nameF l[i])
      rw [List.drop_eq_getElem_cons h]
      cases b with
      | true =>
        have hk1 : K (nameF l[i]) := h4.1 rfl
        have hsp : spentB K l[i] = true := spentB_iff.2 hk1
        have hst : m_agenda_Agenda_Set_v2_L2 N l e3 (i, m, A, B) = some (.inl (i + 1, mputP ltB (nameF l[i]) true m, A, B ++ [l[i]])) := by
          unfold m_agenda_Agenda_Set_v2_L2 m_agenda_Agenda_Set_v2_C4
          simp only
          rw [if_pos (decide_eq_true h), hx, bindO_pure, name_is hN hox, bindO_pure, h3, bindO_pure, if_pos rfl, own_is hox, bindO_pure, gd_pos (by simp; omega), bindO_pure]
          simp only
          rw [gd_pos (by omega)]
        rw [iter_step hst]
        obtain ⟨m', g1, g2⟩ := ih (i + 1) _ A (B ++ [l[i]]) _ (by omega) (by omega) (by simp; omega) (hm.put (nameF l[i])) fuel (by omega)
        refine ⟨m', ?_, g2.iff fun n => ?_⟩
        · rw [g1, List.filter_cons_of_neg (p := fun x => !spentB K x) (by simp [hsp]), List.filter_cons_of_pos (p := spentB K) hsp]
          simp
        · simp only [List.mem_cons]
          constructor
          · rintro ((e | h5) | ⟨x, h5, h6⟩)
            · subst e; exact .inr ⟨l[i], .inl rfl, rfl, hk1⟩
            · exact .inl h5
            · exact .inr ⟨x, .inr h5, h6⟩
          · rintro (h5 | ⟨x, h5 | h5, h6⟩)
            · exact .inl (.inr h5)
            · subst h5; exact .inl (.inl h6.1.symm)
            · exact .inr ⟨x, h5, h6⟩
      | false =>
        have hk1 : ¬ K (nameF l[i]) := fun h5 => by have := h4.2 h5; cases this
        have hsp : spentB K l[i] = false := by
          cases hq : spentB K l[i]
          · rfl
          · exact absurd (spentB_iff.1 hq) hk1
        have hst : m_agenda_Agenda_Set_v2_L2 N l e3 (i, m, A, B) = some (.inl (i + 1, m, A ++ [l[i]], B)) := by
          unfold m_agenda_Agenda_Set_v2_L2 m_agenda_Agenda_Set_v2_C4
          simp only
          rw [if_pos (decide_eq_true h), hx, bindO_pure, name_is hN hox, bindO_pure, h3, bindO_pure, if_neg (by simp), own_is hox, bindO_pure, gd_pos (by simp; omega), bindO_pure]
          simp only
          rw [gd_pos (by omega)]
        rw [iter_step hst]
        obtain ⟨m', g1, g2⟩ := ih (i + 1) m (A ++ [l[i]]) B J (by omega) (by omega) (by simp; omega) hm fuel (by omega)
        refine ⟨m', ?_, g2.iff fun n => ?_⟩
        · rw [g1, List.filter_cons_of_pos (p := fun x => !spentB K x) (by simp [hsp]), List.filter_cons_of_neg (p := spentB K) (by simp [hsp])]
          simp
        · simp only [List.mem_cons]
          constructor
          · rintro (h5 | ⟨x, h5, h6⟩)
            · exact .inl h5
            · exact .inr ⟨x, .inr h5, h6⟩
          · rintro (h5 | ⟨x, h5 | h5, h6⟩)
            · exact .inl h5
            · subst h5; exact absurd h6.2 (by rw [← h6.1]; exact hk1)
            · exact .inr ⟨x, h5, h6⟩
    · have e : i = l.length := by omega
      subst e
      refine ⟨m, ?_, hm.iff fun n => by simp⟩
      rw [iter_stop (o := (m, A, B)) (by unfold m_agenda_Agenda_Set_v2_L2; simp only; rw [if_neg (by simp)])]
      simp
theorem set_is {s : List Int} {l l1 l2 : List Api_TokenD} {e3 : List (ByteArray × Bool)} {K : ByteArray → Prop} (hl : l.length ≤ 400) (ho : ∀ x ∈ l, TokOk x) (hK : Tm e3 K) :
    (Takes s l ∧ ∃ m', m_agenda_Agenda_Set_v2 N s l1 l2 e3 l = some (0, s, rank s (l.filter fun x => !spentB K x), rank s (l.filter (spentB K)), m') ∧ Tm m' (fun n => ∃ x ∈ l, nameF x = n ∧ K n)) ∨
    (¬ Takes s l ∧ m_agenda_Agenda_Set_v2 N s l1 l2 e3 l = some (4, s, l1, l2, e3)) := by
  have hc := set_check (s := s) (l1 := l1) (l2 := l2) (e3 := e3) hN (by omega : l.length ≤ 1000) ho l.length 0 [] (by omega) (by omega) ⟨by simp, by simp⟩ (tm_nil.iff fun n => by simp) N (by omega)
  unfold m_agenda_Agenda_Set_v2 m_agenda_Agenda_known_v2
  rw [bindO_pure]
  rcases hc with ⟨h1, h2⟩ | ⟨h1, h2⟩
  · left
    refine ⟨h2, ?_⟩
    rw [h1, bindS_inl]
    obtain ⟨m', g1, g2⟩ := set_split hN (by omega : l.length ≤ 1000) ho hK l.length 0 [] [] [] (fun _ => False) (by omega) (by omega) (by simp) tm_nil N (by omega)
    rw [List.drop_zero, List.nil_append, List.nil_append] at g1
    have f1 := List.length_filter_le (fun x => !spentB K x) l
    have f2 := List.length_filter_le (spentB K) l
    rw [g1, bindO_pure]
    simp only
    rw [sort_is (by omega) (by omega) (fun x hx => (ho x (List.mem_filter.1 hx).1).len), bindO_pure]
    simp only
    rw [gd_pos (rank_perm s _).length_eq, sort_is (by omega) (by omega) (fun x hx => (ho x (List.mem_filter.1 hx).1).len), bindO_pure]
    simp only
    rw [gd_pos (rank_perm s _).length_eq]
    exact ⟨m', rfl, g2.iff fun n => by simp⟩
  · right
    exact ⟨h2, by rw [h1, bindS_inr]⟩
omit hN in
theorem next_nil {s : List Int} {l2 : List Api_TokenD} {e : List (ByteArray × Bool)} : m_agenda_Agenda_Next N s [] l2 e = some (0, [], false) := by
  unfold m_agenda_Agenda_Next m_agenda_Agenda_known_v2
  rw [bindO_pure, if_pos (by simp)]
omit hN in
theorem next_cons {s : List Int} {x : Api_TokenD} {l l2 : List Api_TokenD} {e : List (ByteArray × Bool)} (hx : TokOk x) : m_agenda_Agenda_Next N s (x :: l) l2 e = some (x.rule, x.ids, true) := by
  unfold m_agenda_Agenda_Next m_agenda_Agenda_known_v2
  rw [bindO_pure, if_neg (by simp), List.getElem?_cons_zero, bindO_pure, own_is hx, bindO_pure]
theorem index_go {s : List Int} {l l2 : List Api_TokenD} {e : List (ByteArray × Bool)} {t : Api_TokenD} (hl : l.length ≤ 1000) (ho : ∀ x ∈ l, TokOk x) (ht : TokOk t) : ∀ (k i : Nat), l.length - i ≤ k → i ≤ l.length → ∀ fuel, k < fuel →
    (bindS (iter (m_slices_IndexFunc_Token_L1 N l s l2 e t.rule t.ids) fuel i) fun _ => some (-1)) = some (if t ∈ l.drop i then ((i + (l.drop i).idxOf t : Nat) : Int) else -1) := by
  intro k
  induction k with
  | zero =>
    intro i hk hi fuel hf
    obtain ⟨fuel, rfl⟩ : ∃ f, fuel = f + 1 := ⟨fuel - 1, by omega⟩
    have e : i = l.length := by omega
    subst e
    rw [iter_stop (o := .inl ()) (by unfold m_slices_IndexFunc_Token_L1; rw [if_neg (by simp)]), bindS_inl, List.drop_length, if_neg (by simp)]
  | succ k ih =>
    intro i hk hi fuel hf
    obtain ⟨fuel, rfl⟩ : ∃ f, fuel = f + 1 := ⟨fuel - 1, by omega⟩
    by_cases h : i < l.length
    · have hx := List.getElem?_eq_getElem h
      have hox := ho l[i] (List.getElem_mem h)
      have hst : m_slices_IndexFunc_Token_L1 N l s l2 e t.rule t.ids i = if l[i] = t then some (.inr (.inr ((i : Nat) : Int))) else some (.inl (i + 1)) := by
        unfold m_slices_IndexFunc_Token_L1 m_agenda_Agenda_Fire_1
        rw [if_pos (decide_eq_true h), hx, bindO_pure, order_is (by omega) (Nat.le_trans ht.len (by omega)) (Nat.le_trans hox.len (by omega)), bindO_pure, bindO_pure]
        by_cases e2 : l[i] = t
        · rw [if_pos e2, if_pos]
          have := cfT_self s t
          rw [e2]
          unfold cfT at this
          simp [this]
        · rw [if_neg e2, if_neg, gd_pos (by omega)]
          intro h5
          exact e2 (cfT_zero (s := s) (x := t) (y := l[i]) (by unfold cfT; simpa using h5)).symm
      rw [List.drop_eq_getElem_cons h]
      by_cases e2 : l[i] = t
      · rw [if_pos e2] at hst
        rw [iter_stop hst, bindS_inr, e2, if_pos (by simp), List.idxOf_cons_self]
        rfl
      · rw [if_neg e2] at hst
        rw [iter_step hst, ih (i + 1) (by omega) (by omega) fuel (by omega)]
        by_cases h6 : t ∈ l.drop (i + 1)
        · rw [if_pos h6, if_pos (List.mem_cons_of_mem _ h6), List.idxOf_cons, show (l[i] == t) = false from beq_false_of_ne e2, cond_false]
          congr 2; omega
        · rw [if_neg h6, if_neg (by simp only [List.mem_cons, not_or]; exact ⟨fun e3 => e2 e3.symm, h6⟩)]
    · have e : i = l.length := by omega
      subst e
      rw [iter_stop (o := .inl ()) (by unfold m_slices_IndexFunc_Token_L1; rw [if_neg (by simp)]), bindS_inl, List.drop_length, if_neg (by simp)]
theorem fire_is {s : List Int} {l l2 : List Api_TokenD} {e : List (ByteArray × Bool)} {t : Api_TokenD} (hl : l.length ≤ 400) (hl2 : l2.length ≤ 400) (ho : ∀ x ∈ l, TokOk x) (ho2 : ∀ x ∈ l2, TokOk x) (ht : TokOk t) :
    m_agenda_Agenda_Fire N s l l2 e t.rule t.ids = some (if t ∈ l then (0, s, l.erase t, rank s (l2 ++ [t]), mputP ltB (nameF t) true e) else (6, s, l, l2, e)) := by
  have hi := index_go (s := s) (l2 := l2) (e := e) hN (by omega : l.length ≤ 1000) ho ht l.length 0 (by omega) (by omega) N (by omega)
  rw [List.drop_zero] at hi
  unfold m_agenda_Agenda_Fire m_agenda_Agenda_known_v2 m_slices_IndexFunc_Token
  rw [bindO_pure, hi, bindO_pure]
  by_cases h : t ∈ l
  · have hlt := List.idxOf_lt_length_of_mem h
    rw [if_pos h, if_pos h, if_neg (by rw [decide_eq_true_eq]; omega), gd_pos (by omega), gd_pos (by omega), gd_pos (by omega), name_is hN ht, bindO_pure, own_is ht, bindO_pure, gd_pos (by simp; omega)]
    have hs := sort_is (s := s) (N := N) (l := l2 ++ [t]) (by omega) (by simp; omega) (fun x hx => by
      rcases List.mem_append.1 hx with hx | hx
      · exact (ho2 x hx).len
      · rw [List.mem_singleton] at hx; subst hx; exact ht.len)
    have ht2 : (⟨t.rule, t.ids⟩ : Api_TokenD) = t := by cases t; rfl
    simp only [ht2]
    rw [hs, bindO_pure]
    simp only
    rw [gd_pos (rank_perm s _).length_eq, show (((0 + l.idxOf t : Nat) : Int)).toNat = l.idxOf t by omega, ← List.eraseIdx_eq_take_drop_succ, List.erase_eq_eraseIdx_of_idxOf rfl]
  · rw [if_neg h, if_neg h, if_pos (by decide)]
theorem fired_is {s : List Int} {l l2 : List Api_TokenD} {e : List (ByteArray × Bool)} (hl2 : l2.length ≤ 1000) (ho2 : ∀ x ∈ l2, TokOk x) : m_agenda_Agenda_Fired N s l l2 e = some l2 := by
  unfold m_agenda_Agenda_Fired m_agenda_Agenda_known_v2
  have := fold_go (f := m_agenda_Agenda_Fired_L1 N l2) l2 (fun b z => b ++ [z]) (fun i b => b.length ≤ i) (fun i z b hz hb => by
    have hi : i < l2.length := (List.getElem?_eq_some_iff.1 hz).1
    unfold m_agenda_Agenda_Fired_L1
    simp only
    rw [if_pos (decide_eq_true hi), hz, bindO_pure, own_is (ho2 z (List.mem_of_getElem? hz)), bindO_pure, gd_pos (by simp; omega), gd_pos (by omega)]
    exact ⟨rfl, by simp; omega⟩) (fun b => by
    unfold m_agenda_Agenda_Fired_L1
    simp only
    rw [if_neg (by simp)]) l2.length 0 [] (by omega) (by omega) (by simp) N (by omega)
  rw [bindO_pure, this.1, bindO_pure, List.drop_zero]
  have e2 : ∀ (l m : List Api_TokenD), l.foldl (fun b z => b ++ [z]) m = m ++ l := fun l => by
    induction l with
    | nil => intro m; simp
    | cons a l ih => intro m; rw [List.foldl_cons, ih]; simp
  rw [e2]; rfl
theorem sameInts_is {l m : List Int} (hl : l.length ≤ 9223372036854775807) : Says (m_ropewalkkit_SameInts N l m) (l = m) := by
  unfold m_ropewalkkit_SameInts
  refine Says.same hN hl (fun hlm i x y hi hx hy => ?_) (fun i hi => by unfold m_ropewalkkit_SameInts_L1; rw [if_neg (by simp; omega)])
  refine ⟨x == y, by simp, ?_⟩
  unfold m_ropewalkkit_SameInts_L1
  rw [if_pos (decide_eq_true hi), hx, bindO_pure, hy, bindO_pure]
  by_cases h : x = y
  · rw [if_neg (by simp [h]), gd_pos (by omega), if_pos (by simp [h])]
  · rw [if_pos (by simp [h]), if_neg (by simp [h])]
theorem sameTok_is {x y : Api_TokenD} (hl : x.ids.length ≤ 9223372036854775807) : Says (m_ropewalkkit_SameToken N x.rule x.ids y.rule y.ids) (x = y) := by
  unfold m_ropewalkkit_SameToken
  refine (((sameInts_is hN hl).id).and (c := x.rule == y.rule) (q := x.rule = y.rule) (by simp)).iff ⟨fun h => ?_, fun h => by subst h; exact ⟨rfl, rfl⟩⟩
  cases x; cases y; simp at h ⊢; exact h
theorem sameToks_is {l m : List Api_TokenD} (hl : l.length ≤ 1000) (ho : ∀ x ∈ l, x.ids.length ≤ 1000) : Says (m_ropewalkkit_SameTokens N l m) (l = m) := by
  unfold m_ropewalkkit_SameTokens
  refine Says.same hN (by omega) (fun hlm i x y hi hx hy => ?_) (fun i hi => by unfold m_ropewalkkit_SameTokens_L1; rw [if_neg (by simp; omega)])
  obtain ⟨b, h1, h2⟩ := sameTok_is (x := x) (y := y) hN (Nat.le_trans (ho x (List.mem_of_getElem? hx)) (by omega))
  refine ⟨b, h2, ?_⟩
  unfold m_ropewalkkit_SameTokens_L1
  rw [if_pos (decide_eq_true hi), hx, bindO_pure, hy, bindO_pure, h1, bindO_pure]
  cases b
  · rw [if_pos (by simp), if_neg (by simp)]
  · rw [if_neg (by simp), gd_pos (by omega), if_pos rfl]
end
end Go.Proofs.YtgangmegcejllaaDoor
