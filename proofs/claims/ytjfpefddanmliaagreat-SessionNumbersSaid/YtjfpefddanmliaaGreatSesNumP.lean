import Derived.Test.YtjfpefddanmliaaGreatSesLivesP
namespace Go.Proofs.YtjfpefddanmliaaGreat
open Go.RowKit
def numsI:List Int:=[-9223372036854775808,-1,0,1,2,3,33,34,1099511627776,1099511627777,1099511627778,9223372036854775807]
theorem numsI_at {i:Nat} (h:i < 12) : ∃ x,numsI[i]? = some x:=⟨_,List.getElem?_eq_getElem (by simpa [numsI] using h)⟩
def bareS (l:List SessD):Bool:=l.all fun x=>x.r.facts.isEmpty && x.r.said.isEmpty
theorem came_bare {l:List SessD} (h:bareS l = true) : ∀ x ∈ l,x.r.came:=by
  intro x hx
  unfold bareS at h
  rw [List.all_eq_true] at h
  have:=h x hx
  simp only [Bool.and_eq_true,List.isEmpty_iff] at this
  exact ⟨by rw [this.1]; simp,by rw [this.2]; simp,fun f hf=>by rw [this.1] at hf; simp at hf⟩
def bareD (l:List Ropewalklaw27_DoD):Bool:=l.all fun x=>x.reply.facts.isEmpty && x.reply.said.isEmpty
theorem came_bareD {l:List Ropewalklaw27_DoD} (h:bareD l = true) : ∀ x ∈ l,x.reply.came:=by
  intro x hx
  unfold bareD at h
  rw [List.all_eq_true] at h
  have:=h x hx
  simp only [Bool.and_eq_true,List.isEmpty_iff] at this
  exact ⟨by rw [this.1]; simp,by rw [this.2]; simp,fun f hf=>by rw [this.1] at hf; simp at hf⟩
theorem bareD_app {l m:List Ropewalklaw27_DoD} (h:bareD l = true) (h' : bareD m = true):bareD (l ++ m) = true:=by
  unfold bareD at h h' ⊢
  rw [List.all_append,h,h']; rfl
def bareO (o:Option (List SessD)):Bool:=match o with
  | some l=>bareS l
  | none=>false
theorem bareO_some {o:Option (List SessD)} (h:bareO o = true) : ∃ l,o = some l ∧ bareS l = true:=by
  cases o with
  | none=>cases h
  | some l=>exact ⟨l,rfl,h⟩
theorem rows_2:bareO (Q2K 9223372036854775808 1 2) = true:=by kernel_rfl
theorem rows_32:bareO (Q2K 9223372036854775808 1 32) = true:=by kernel_rfl
theorem rows_33:bareO (Q2K 9223372036854775808 1 33) = true:=by kernel_rfl
theorem Q7p (a:Int) (l:List SessD) (b:Bool) (m:List Ropewalklaw27_DoD) (hl:bareS l = true) (hm:bareD m = true):QY 9223372036854775808 a l b m = some true :=
  seslives_is (Nat.le_refl _) awake_is a l b m (came_bare hl) (came_bareD hm)
theorem numC3_is {i k:Nat} {a b:Int} (hi:numsI[i]? = some a) (hk:numsI[k]? = some b):Q34 9223372036854775808 i b b b b b k = some false:=by
  obtain ⟨l,h1,h2⟩:=bareO_some rows_2
  unfold numsI at hi hk
  unfold Q34
  simp only [hi,hk,Q9,h1]
  rw [Q7p _ _ _ _ h2 rfl,Q9,if_neg (by simp),Q7p _ _ _ _ rfl rfl,Q9,if_neg (by simp),Q7p _ _ _ _ rfl rfl,Q9,if_neg (by simp),Q7p _ _ _ _ rfl rfl,Q9]
  rfl
theorem numL2_is {i:Nat} (h:i < 12):Q2s (Q1F 9223372036854775808 i) 9223372036854775808 0 = some (.inl ()):=by
  obtain ⟨a,hi⟩:=numsI_at h
  refine iter_end 12 _ (fun k hk=>?_) ?_ (by omega)
  · obtain ⟨b,hb⟩:=numsI_at hk
    have hb':=hb
    unfold numsI at hb'
    unfold Q1F
    rw [if_pos (by simpa using hk)]
    simp only [hb',Q9]
    rw [numC3_is hi hb,Q9,if_neg (by simp),QC (by omega)]
  · unfold Q1F
    rw [if_neg (by simp)]
theorem sesnum_arg:Q3z 9223372036854775808 = some true:=by
  unfold Q3z
  rw [Q6S 12 (fun i hi=>by
    unfold Q29
    rw [if_pos (by simpa using hi),numL2_is hi]
    simp only [Q7X]
    rw [QC (by omega)]) (by unfold Q29; rw [if_neg (by simp)]) (by omega)]
  simp only [Q7X]
  obtain ⟨o,h1,h2,h3⟩:=Q47 (f:=Q28 9223372036854775808) (fun s=>s.1 ≤ 34 ∧ s.2.length = 2 * s.1 ∧ bareD s.2 = true) (fun s=>34 - s.1) (fun o=>o.length = 68 ∧ bareD o = true) (fun s hs=>by
    obtain ⟨i,m⟩:=s
    obtain ⟨hi,hm,hb⟩:=hs
    simp only at hi hm hb
    unfold Q28
    simp only
    by_cases h:i < 34
    · left
      refine ⟨_,by rw [if_pos (by simpa using h),QC (by simp; omega),QC (by omega)],⟨by simp only; omega,by simp; omega,bareD_app hb rfl⟩,by simp only; omega⟩
    · right
      exact ⟨m,by rw [if_neg (by simpa using h)],by omega,hb⟩) 9223372036854775808 (0,[]) ⟨by simp,by simp,rfl⟩ (by simp only; omega)
  rw [h1,Q9]
  unfold Q40
  obtain ⟨l,g1,g2⟩:=bareO_some rows_32
  obtain ⟨l',g3,g4⟩:=bareO_some rows_33
  rw [QC (by simp; omega),Q7p _ _ _ _ rfl (bareD_app h3 rfl),Q9,if_pos rfl,g1,Q9,Q7p _ _ _ _ g2 rfl,Q9,if_pos rfl,g3,Q9,Q7p _ _ _ _ g4 rfl,Q9,if_pos rfl,awake_is]
  rfl
end Go.Proofs.YtjfpefddanmliaaGreat
