import Derived.Test.YtohkfpobgjkpdaaDoorExprLP
import Derived.Test.YtohkfpobgjkpdaaDoorExprS
namespace Go.Proofs.YtohkfpobgjkpdaaDoor
open Go Go.RowKit
section values
variable {N : Nat} {l : List V}
def mkV (z : Int) : V := ⟨0, IntKind.wrap .i64 ((IntKind.wrap .i64 (1000003 * (IntKind.wrap .i64 (1 + 7)))) + z), (⟨#[]⟩ : ByteArray)⟩
def tailV : List V := (List.range 12).map fun i => mkV ((i : Nat) : Int)
theorem tailV_len : tailV.length = 12 := by simp [tailV]
theorem tailV_at {i : Nat} (h : i < 12) : tailV[i]? = some (mkV ((i : Nat) : Int)) := by simp [tailV, h]
theorem lentValues_is (hN : 100 ≤ N) (hl : l.length ≤ 1000000000) : m_ropewalkkit_LentValues N l = some (l ++ tailV) := by
  unfold m_ropewalkkit_LentValues
  rw [gd_pos (by omega), gd_pos (by omega), gd_pos (by simp; omega), iter_push 12 (fun i => mkV ((i : Nat) : Int)) l (fun i hi => by
    unfold m_ropewalkkit_LentValues_L1
    simp only
    rw [if_pos (by simpa using hi), show m_ropewalkkit_markValue N 1 ((i : Nat) : Int) = some () from rfl, bindO_pure, gd_pos (by simp; omega), gd_pos (by omega)]
    rfl) (by unfold m_ropewalkkit_LentValues_L1; simp only; rw [if_neg (by simp)]) (by omega)]
  rw [bindO_pure, gd_pos (by simp)]; rfl
theorem keptValues_is (hN : 2000000000 ≤ N) (hl : l.length ≤ 1000000000) : m_ropewalkkit_KeptValues_W N (l ++ tailV) l.length l = some true := by
  unfold m_ropewalkkit_KeptValues_W
  rw [if_neg (by simp), gd_pos (by omega), gd_pos (by simp [tailV_len]), iter_look (l.length + 12) (fun i hi => by
    unfold m_ropewalkkit_KeptValues_W_L1 m_ropewalkkit_KeptValues_W_C2
    rw [take_all tailV_len, if_pos (by simp [tailV_len]; omega)]
    by_cases h : i < l.length
    · rw [if_pos (by simpa using h), app_l h, bindO_pure, List.getElem?_eq_getElem h, bindO_pure, if_neg (by simp), if_neg (by simp; omega), bindO_pure, if_neg (by simp), gd_pos (by omega)]
    · rw [if_neg (by simpa using h), if_pos (by simp; omega), app_r (by omega), tailV_at (by omega), bindO_pure, gd_pos (by omega), show m_ropewalkkit_markValue N 1 (((i : Nat) : Int) - ((l.length : Nat) : Int)) = some () from rfl, bindO_pure, bindO_pure,
        if_neg (by rw [show (((i - l.length : Nat) : Int)) = ((i : Nat) : Int) - ((l.length : Nat) : Int) by omega]; simp [mkV]), gd_pos (by omega)])
    (by unfold m_ropewalkkit_KeptValues_W_L1; rw [take_all tailV_len, if_neg (by simp [tailV_len])]) (by omega)]
  rfl
end values
theorem expr_awake : m_ropewalklaw09_awake 9223372036854776808 = some true := by kernel_rfl
theorem light_is {N : Nat} {vars : List V} {l : List Api_ExprD} (hN : 9223372036854776200 ≤ N) (hv : vars.length ≤ 140737488351232) (hok : ∀ y ∈ l, ok_Api_ExprD y) :
    ∃ b, m_ropewalklaw09_light N vars l = some b ∧ (b = true → vars.length ≤ 30 ∧ nodesL l ≤ 300) := by
  unfold m_ropewalklaw09_light
  obtain ⟨o, e1, e2⟩ := iter_inv (f := m_ropewalklaw09_light_L1 N vars) (fun i => i ≤ vars.length) (fun i => vars.length - i) (fun o => o = .inl () ∨ o = .inr false) (fun i hi => by
    unfold m_ropewalklaw09_light_L1
    by_cases hlt : i < vars.length
    · have hx := List.getElem?_eq_getElem hlt
      rw [if_pos (by simpa using hlt), hx, bindO_pure]
      by_cases hb : 300 < vars[i].s.size
      · rw [if_pos (by simpa using hb)]; right; exact ⟨_, rfl, .inr rfl⟩
      · rw [if_neg (by simpa using hb), gd_pos (by omega)]; left; exact ⟨_, rfl, by omega, by omega⟩
    · rw [if_neg (by simpa using hlt)]; right; exact ⟨_, rfl, .inl rfl⟩) N 0 (by omega) (by omega)
  rw [e1]
  rcases e2 with rfl | rfl
  · rw [bindS_inl]
    by_cases h1 : vars.length ≤ 30
    · rw [if_pos (by simpa using h1)]
      by_cases h2 : l.length ≤ 30
      · rw [if_pos (by simpa using h2)]
        obtain ⟨v, v1, _, _, v4⟩ := exprsof_is 301 N l 300 hok (by omega) (by omega) (by omega) (by omega) (by omega)
        rw [v1, bindO_pure]
        refine ⟨_, rfl, fun h => ⟨h1, ?_⟩⟩
        have h := of_decide_eq_true h
        have := v4 h
        omega
      · rw [if_neg (by simpa using h2)]; exact ⟨_, rfl, fun h => by cases h⟩
    · rw [if_neg (by simpa using h1)]; exact ⟨_, rfl, fun h => by cases h⟩
  · rw [bindS_inr]; exact ⟨_, rfl, fun h => by cases h⟩
theorem okV_of {v : V} (h : ok_V v) : okV v := ⟨inK_i64 h.2.1, h.2.2⟩
theorem exprsays_arg (x : Api_ExprD) (ok0 : ok_Api_ExprD x) (l : List V) (h : l.length ≤ 140737488351232 ∧ ∀ y ∈ l, ok_V y) : m_ropewalklaw09_ExprSays 9223372036854776808 x.kind x.value.k x.value.n x.value.s x.var x.op x.kids l = some true := by
  unfold m_ropewalklaw09_ExprSays
  rw [expr_awake, bindO_pure, if_neg nott]
  obtain ⟨b, b1, b2⟩ := light_is (N := 9223372036854776808) (vars := l) (l := [x]) (by decide) h.1 (by simpa using ok0)
  rw [show (⟨x.kind, (⟨x.value.k, x.value.n, x.value.s⟩ : V), x.var, x.op, x.kids⟩ : Api_ExprD) = x from by cases x; rfl, b1, bindO_pure]
  cases b with
  | false => rfl
  | true =>
    obtain ⟨c1, c2⟩ := b2 rfl
    have c3 : nodes x ≤ 300 := by
      have h3 : nodesL [x] = nodes x + 0 := by rw [nodesL, nodesL]
      omega
    have hk := nodesL_len x.kids
    have hn := nodes_eq x
    rw [if_neg nott, lentExpr_is 301 9223372036854776808 x (by omega) (by decide) (by decide), bindO_pure]
    dsimp only
    rw [lentValues_is (by decide) (by omega), bindO_pure, gd_pos (by rw [List.length_append, lEs_len]; omega), gd_pos (by simp), take_lE, List.take_left' rfl]
    obtain ⟨⟨r0, r1, r2, r3⟩, q1, q2, _⟩ := both 1000 9223372036854776808 x l ok0 (by omega) (by decide) (by decide) (fun v hv => okV_of (h.2 v hv)) (by omega)
    replace q1 : m_expr_Eval 9223372036854776808 x.kind x.value.k x.value.n x.value.s x.var x.op x.kids l = some (r0, r1, r2, r3) := q1
    replace q2 : m_ropewalkref09_Eval 9223372036854776808 x.kind x.value.k x.value.n x.value.s x.var x.op x.kids l = some (r0, r1, r2, r3) := q2
    rw [q1, bindO_pure, q2, bindO_pure]
    dsimp only
    unfold m_ropewalklaw09_ExprSays_C1
    rw [if_pos (by simp), if_pos (by simp), keptExprW_is 301 9223372036854776808 x (by omega) (by decide) (by decide), bindO_pure, if_pos rfl, keptValues_is (by decide) (by omega), bindO_pure]
    rfl
end Go.Proofs.YtohkfpobgjkpdaaDoor
