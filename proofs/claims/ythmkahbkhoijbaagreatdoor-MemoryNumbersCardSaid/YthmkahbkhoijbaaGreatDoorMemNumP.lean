import Derived.Test.YthmkahbkhoijbaaGreatDoorMemLivesQ
namespace Go.Proofs.YthmkahbkhoijbaaGreatDoor
open Go Go.RowKit
def numsM : List Int := [-9223372036854775808, -1, 0, 1, 2, 31, 32, 1099511627776, 1099511627777, 1099511627778, 9223372036854775807]
theorem numsM_at {i : Nat} (h : i < 11) : ∃ x, numsM[i]? = some x := ⟨_, List.getElem?_eq_getElem (by simpa [numsM] using h)⟩
def smallV (l : List V) : Bool := l.all fun v => Nat.ble v.s.size 100
theorem fitT_small {l : List V} (h : smallV l = true) : fitT l := fun v hv => by
  unfold smallV at h
  rw [List.all_eq_true] at h
  have := Nat.le_of_ble_eq_true (h v hv)
  omega
theorem fitT_sub {l m : List V} (h : fitT l) (hs : ∀ v ∈ m, v ∈ l) : fitT m := fun v hv => h v (hs v hv)
def smallF (l : List FactD) : Bool := l.all fun f => smallV f.args
theorem fitF_small {l : List FactD} (h : smallF l = true) : ∀ f ∈ l, fitT f.args := fun f hf => by
  unfold smallF at h
  rw [List.all_eq_true] at h
  exact fitT_small (h f hf)
def smallD (l : List Ropewalklaw11_DoD) : Bool := l.all fun x => smallV x.args
theorem fitD_small {l : List Ropewalklaw11_DoD} (h : smallD l = true) : ∀ x ∈ l, fitT x.args := fun x hx => by
  unfold smallD at h
  rw [List.all_eq_true] at h
  exact fitT_small (h x hx)
theorem lives_at (a : Int) (l : List FactD) (b : Bool) (m : List Ropewalklaw11_DoD) (hl : ∀ f ∈ l, fitT f.args) (hm : ∀ x ∈ m, fitT x.args) : m_ropewalklaw11_MemoryLives 9223372036854775808 a l b m = some true :=
  memlives_is (Nat.le_refl _) mawake_is a l b m hl hm
theorem facts_is {n : Int} (hn : n ≤ 1000) : ∃ l, m_ropewalklaw11_facts 9223372036854775808 1 n = some l ∧ ∀ f ∈ l, fitT f.args := by
  obtain ⟨o, h1, h2⟩ := iter_inv (f := m_ropewalklaw11_facts_L1 9223372036854775808 n 1) (fun s => s.1 ≤ 1000 ∧ s.2.length = s.1 ∧ ∀ f ∈ s.2, fitT f.args) (fun s => 1000 - s.1) (fun o => ∀ f ∈ o, fitT f.args) (fun s hs => by
    obtain ⟨i, L⟩ := s
    obtain ⟨hi, hL, ha⟩ := hs
    simp only at hi hL ha
    unfold m_ropewalklaw11_facts_L1
    simp only
    by_cases h : ((i : Nat) : Int) < n
    · left
      refine ⟨(i + 1, L ++ [⟨1 + ((i : Nat) : Int), Int.tmod ((i : Nat) : Int) 32, [⟨1, ((i : Nat) : Int), ⟨#[]⟩⟩]⟩]), ?_, ⟨by simp only; omega, by simp [hL], fun f hf => ?_⟩, by simp only; omega⟩
      · rw [if_pos (by simpa using h), gd_pos (by omega), show m_ropewalklaw11_num 9223372036854775808 ((i : Nat) : Int) = some () from rfl, bindO_pure, gd_pos (by simp; omega), gd_pos (by omega)]
      · rcases List.mem_append.1 hf with hf | hf
        · exact ha f hf
        · simp at hf; subst hf
          exact fitT_small rfl
    · right
      exact ⟨L, by rw [if_neg (by simpa using h)], ha⟩) 9223372036854775808 (0, []) ⟨by simp, by simp, by simp⟩ (by simp only; omega)
  unfold m_ropewalklaw11_facts
  rw [h1]
  exact ⟨o, rfl, h2⟩
theorem mnumC3_is {i k : Nat} {a b : Int} (hi : numsM[i]? = some a) (hk : numsM[k]? = some b) : m_ropewalklaw11_MemoryNumbers_C3 9223372036854775808 i b b b a b k = some false := by
  obtain ⟨l, h1, h2⟩ := facts_is (n := 2) (by omega)
  unfold numsM at hi hk
  unfold m_ropewalklaw11_MemoryNumbers_C3
  simp only [hi, hk, bindO_pure, h1]
  rw [lives_at _ _ _ _ h2 (fitD_small rfl), bindO_pure, if_neg (by simp), lives_at _ _ _ _ (fitF_small rfl) (fitD_small rfl), bindO_pure, if_neg (by simp), lives_at _ _ _ _ (fitF_small rfl) (fitD_small rfl), bindO_pure, if_neg (by simp), lives_at _ _ _ _ (fitF_small rfl) (fitD_small rfl), bindO_pure, if_neg (by simp), lives_at _ _ _ _ (fitF_small rfl) (fitD_small rfl), bindO_pure]
  rfl
theorem mnumL2_is {i : Nat} (h : i < 11) : iter (m_ropewalklaw11_MemoryNumbers_L2 9223372036854775808 i) 9223372036854775808 0 = some (.inl ()) := by
  obtain ⟨a, hi⟩ := numsM_at h
  refine iter_end 11 _ (fun k hk => ?_) ?_ (by omega)
  · obtain ⟨b, hb⟩ := numsM_at hk
    have hb' := hb
    have hi' := hi
    unfold numsM at hb' hi'
    unfold m_ropewalklaw11_MemoryNumbers_L2
    rw [if_pos (by simpa using hk)]
    simp only [hb', hi', bindO_pure]
    rw [show m_ropewalklaw11_num 9223372036854775808 1 = some () from rfl, bindO_pure, mnumC3_is hi hb, bindO_pure, if_neg (by simp), gd_pos (by omega)]
  · unfold m_ropewalklaw11_MemoryNumbers_L2
    rw [if_neg (by simp)]
def sameM : List FactD := [(⟨1, 1, [(⟨1, 1, (⟨#[]⟩ : ByteArray)⟩ : V), (⟨1, 2, (⟨#[]⟩ : ByteArray)⟩ : V)]⟩ : FactD), (⟨2, 1, [(⟨1, 1, (⟨#[]⟩ : ByteArray)⟩ : V)]⟩ : FactD), (⟨3, 2, [(⟨1, 1, (⟨#[]⟩ : ByteArray)⟩ : V)]⟩ : FactD), (⟨4, 1, [(⟨2, 0, (⟨#[97]⟩ : ByteArray)⟩ : V)]⟩ : FactD)]
def oddM : List V := [(⟨0, 0, (⟨#[]⟩ : ByteArray)⟩ : V), (⟨1, 0, (⟨#[97]⟩ : ByteArray)⟩ : V), (⟨2, 0, (⟨#[]⟩ : ByteArray)⟩ : V), (⟨2, 1, (⟨#[97]⟩ : ByteArray)⟩ : V), (⟨3, 1, (⟨#[]⟩ : ByteArray)⟩ : V)]
theorem sameM_copy : m_ropewalkkit_CopyFacts 9223372036854775808 sameM = some sameM := copyFacts_is (by omega) ⟨by simp [sameM], fun f hf => by
  unfold sameM at hf
  simp only [List.mem_cons, List.not_mem_nil, or_false] at hf
  rcases hf with rfl | rfl | rfl | rfl <;> simp⟩
theorem oddM_sub {k : Nat} : fitT ((oddM.take (k + 1)).drop k) := fitT_sub (l := oddM) (fitT_small rfl) fun _ hv => List.mem_of_mem_take (List.mem_of_mem_drop hv)
theorem fitF_app {l m : List FactD} (h : ∀ f ∈ l, fitT f.args) (h2 : ∀ f ∈ m, fitT f.args) : ∀ f ∈ l ++ m, fitT f.args := fun f hf => by
  rcases List.mem_append.1 hf with hf | hf
  · exact h f hf
  · exact h2 f hf
theorem fitF_one {f : FactD} (h : fitT f.args) : ∀ g ∈ [f], fitT g.args := fun g hg => by rw [List.mem_singleton.1 hg]; exact h
theorem fitD_two {x y : Ropewalklaw11_DoD} (h : fitT x.args) (h2 : fitT y.args) : ∀ g ∈ [x, y], fitT g.args := fun g hg => by
  simp only [List.mem_cons, List.not_mem_nil, or_false] at hg
  rcases hg with rfl | rfl
  · exact h
  · exact h2
theorem mnumC5_is {k : Nat} (h : k < 5) : m_ropewalklaw11_MemoryNumbers_C5 9223372036854775808 k = some false := by
  have hc := sameM_copy
  have ho := oddM_sub (k := k)
  unfold oddM at ho
  unfold sameM at hc
  unfold m_ropewalklaw11_MemoryNumbers_C5
  rw [hc, bindO_pure, gd_pos (by omega), gd_pos (by simp; omega), gd_pos (by simp), lives_at _ _ _ _ (fitF_app (fitF_small rfl) (fitF_one ho)) (fitD_small rfl), bindO_pure, if_neg (by simp), gd_pos (by omega), gd_pos (by simp; omega), gd_pos (by omega), gd_pos (by simp; omega), lives_at _ _ _ _ (fitF_small rfl) (fitD_two ho ho), bindO_pure]
  rfl
theorem mnumC7_is {f : FactD} (h : fitT f.args) : m_ropewalklaw11_MemoryNumbers_C7 9223372036854775808 f = some false := by
  have hc := sameM_copy
  unfold sameM at hc
  unfold m_ropewalklaw11_MemoryNumbers_C7
  rw [hc, bindO_pure, gd_pos (by simp), lives_at _ _ _ _ (fitF_app (fitF_small rfl) (fitF_one (f := ⟨6, f.ty, f.args⟩) h)) (fitD_small rfl), bindO_pure, if_neg (by simp), lives_at _ _ _ _ (fitF_small rfl) (fitD_two h h), bindO_pure]
  rfl
theorem mnumC8_is : m_ropewalklaw11_MemoryNumbers_C8 9223372036854775808 = some true := by
  obtain ⟨l1, h1, h2⟩ := facts_is (n := 255) (by omega)
  obtain ⟨l2, h3, h4⟩ := facts_is (n := 256) (by omega)
  obtain ⟨l3, h5, h6⟩ := facts_is (n := 257) (by omega)
  unfold m_ropewalklaw11_MemoryNumbers_C8
  rw [h1, bindO_pure, lives_at _ _ _ _ h2 (fitD_small rfl), bindO_pure, if_pos rfl, h3, bindO_pure, lives_at _ _ _ _ h4 (fitD_small rfl), bindO_pure, if_pos rfl, h5, bindO_pure, lives_at _ _ _ _ h6 (fitD_small rfl), bindO_pure, if_pos rfl, gd_pos (by simp), lives_at _ _ _ _ (fitF_small rfl) (fitD_small rfl), bindO_pure, if_pos rfl, mawake_is]
  rfl
theorem mnumL1_is : iter (m_ropewalklaw11_MemoryNumbers_L1 9223372036854775808) 9223372036854775808 0 = some (.inl ()) :=
  iter_look 11 (fun i hi => by
    unfold m_ropewalklaw11_MemoryNumbers_L1
    rw [if_pos (by simpa using hi), mnumL2_is hi, bindS_inl, gd_pos (by omega)]) (by unfold m_ropewalklaw11_MemoryNumbers_L1; rw [if_neg (by simp)]) (by omega)
theorem mnumL3_is : iter (m_ropewalklaw11_MemoryNumbers_L3 9223372036854775808) 9223372036854775808 0 = some (.inl ()) :=
  iter_look 5 (fun i hi => by
    unfold m_ropewalklaw11_MemoryNumbers_L3
    rw [if_pos (by simpa using hi), mnumC5_is hi, bindO_pure, if_neg (by simp), gd_pos (by omega)]) (by unfold m_ropewalklaw11_MemoryNumbers_L3; rw [if_neg (by simp)]) (by omega)
theorem mnumL4_is : iter (m_ropewalklaw11_MemoryNumbers_L4 9223372036854775808) 9223372036854775808 0 = some (.inl ()) :=
  iter_look 4 (fun i hi => by
    have hs : ∀ f ∈ sameM, fitT f.args := fitF_small rfl
    have hx : sameM[i]? = some (sameM[i]'(by simpa [sameM] using hi)) := List.getElem?_eq_getElem _
    have hf := hs _ (List.mem_of_getElem? hx)
    generalize sameM[i]'(by simpa [sameM] using hi) = f at hx hf
    unfold sameM at hx
    unfold m_ropewalklaw11_MemoryNumbers_L4
    rw [if_pos (by simpa using hi), hx, bindO_pure, mnumC7_is hf, bindO_pure, if_neg (by simp), gd_pos (by omega)]) (by unfold m_ropewalklaw11_MemoryNumbers_L4; rw [if_neg (by simp)]) (by omega)
theorem mnum_some (z : Int) : m_ropewalklaw11_num 9223372036854775808 z = some () := rfl
theorem memnum_arg : m_ropewalklaw11_MemoryNumbers 9223372036854775808 = some true := by
  unfold m_ropewalklaw11_MemoryNumbers
  rw [mnumL1_is, bindS_inl]
  repeat (first | rw [bindO_pure] | rw [mnum_some])
  rw [mnumL3_is, bindS_inl, mnumL4_is, bindS_inl]
  repeat (first | rw [bindO_pure] | rw [mnum_some])
  rw [mnumC8_is, bindO_pure]
end Go.Proofs.YthmkahbkhoijbaaGreatDoor
