import Derived.Test.YtalbennlmcpnmaaGreatExprN
namespace Go.Proofs.YtalbennlmcpnmaaGreat
open Go Go.RowKit
def mkE (z : Int) : Api_ExprDS := ⟨0, ⟨0, 0, (⟨#[]⟩ : ByteArray)⟩, IntKind.wrap .i64 ((IntKind.wrap .i64 (1000003 * (IntKind.wrap .i64 (1 + 7)))) + z), 0, [], []⟩
def tailE : List Api_ExprDS := (List.range 12).map fun i => mkE ((i : Nat) : Int)
theorem tailE_len : tailE.length = 12 := by simp [tailE]
theorem tailE_at {i : Nat} (h : i < 12) : tailE[i]? = some (mkE ((i : Nat) : Int)) := by simp [tailE, h]
mutual
def lE : Api_ExprD → Api_ExprDS
  | ⟨a, b, c, d, l⟩ => ⟨a, b, c, d, lEs l, tailE⟩
def lEs : List Api_ExprD → List Api_ExprDS
  | [] => []
  | x :: l => lE x :: lEs l
end
theorem lE_eq (x : Api_ExprD) : lE x = ⟨x.kind, x.value, x.var, x.op, lEs x.kids, tailE⟩ := by cases x; simp [lE]
theorem lEs_map : ∀ l : List Api_ExprD, lEs l = l.map lE
  | [] => by simp [lEs]
  | x :: l => by simp only [lEs, List.map_cons]; rw [lEs_map l]
theorem lEs_len (l : List Api_ExprD) : (lEs l).length = l.length := by rw [lEs_map]; simp
theorem lEs_at {l : List Api_ExprD} {t : List Api_ExprDS} {i : Nat} (h : i < l.length) : (lEs l ++ t)[i]? = some (lE l[i]) := by
  rw [List.getElem?_append_left (by rw [lEs_len]; exact h), lEs_map]; simp [h]
theorem lEs_tail {l : List Api_ExprD} {i : Nat} (h : l.length ≤ i) (h2 : i < l.length + 12) : (lEs l ++ tailE)[i]? = some (mkE (((i : Nat) : Int) - ((l.length : Nat) : Int))) := by
  rw [List.getElem?_append_right (by rw [lEs_len]; exact h), lEs_len, tailE_at (by omega)]
  congr 2; omega
mutual
theorem lE_to : ∀ x : Api_ExprD, to_Api_ExprD (lE x) = x
  | ⟨a, b, c, d, l⟩ => by rw [to_Api_ExprD_eq]; simp only [lE]; rw [lEs_to l]
theorem lEs_to : ∀ l : List Api_ExprD, (lEs l).map to_Api_ExprD = l
  | [] => by simp [lEs]
  | x :: l => by simp only [lEs, List.map_cons]; rw [lE_to x, lEs_to l]
end
theorem take_lE {l : List Api_ExprD} {t : List Api_ExprDS} : ((lEs l ++ t).map to_Api_ExprD).take l.length = l := by
  rw [List.map_append, lEs_to, List.take_left']; rfl
theorem lentExpr_is : ∀ (m N : Nat) (x : Api_ExprD), nodes x ≤ m → m ≤ 1000000 → 9223372036854775808 + m ≤ N →
    m_ropewalkkit_LentExpr N x.kind x.value.k x.value.n x.value.s x.var x.op x.kids = some (x.kind, x.value.k, x.value.n, x.value.s, x.var, x.op, lEs x.kids ++ tailE, x.kids.length) := by
  intro m
  induction m with
  | zero => intro N x h; rw [nodes_eq] at h; omega
  | succ m ih =>
    intro N x h hm hN
    obtain ⟨N, rfl⟩ : ∃ k, N = k + 1 := ⟨N - 1, by omega⟩
    have hk : nodesL x.kids ≤ m := by rw [nodes_eq] at h; omega
    have hl := nodesL_len x.kids
    show m_ropewalkkit_LentExpr_b N (m_ropewalkkit_LentExpr N) _ _ _ _ _ _ _ = _
    unfold m_ropewalkkit_LentExpr_b m_ropewalkkit_LentExprs_v2
    rw [gd_pos (by omega), gd_pos (by omega), iter_push x.kids.length (fun i => lE (x.kids.getD i ⟨0, ⟨0, 0, ⟨#[]⟩⟩, 0, 0, []⟩)) [] (fun i hi => by
      unfold m_ropewalkkit_LentExprs_v2_L1
      simp only
      have hc := nodesL_mem (List.getElem_mem hi)
      have hkl := nodesL_len x.kids[i].kids
      have hd : x.kids.getD i ⟨0, ⟨0, 0, ⟨#[]⟩⟩, 0, 0, []⟩ = x.kids[i] := by simp [hi]
      have e1 : (lEs x.kids[i].kids ++ tailE).take x.kids[i].kids.length = lEs x.kids[i].kids := by rw [List.take_left' (lEs_len _)]
      have e2 : (lEs x.kids[i].kids ++ tailE).drop x.kids[i].kids.length = tailE := by rw [List.drop_left' (lEs_len _)]
      rw [if_pos (by simpa using hi), List.getElem?_eq_getElem hi, bindO_pure, ih N x.kids[i] (by omega) (by omega) (by omega), bindO_pure]
      simp only
      rw [gd_pos (by rw [List.length_append, lEs_len]; omega), gd_pos (by simp; omega), gd_pos (by omega), e1, e2, hd, lE_eq]) (by unfold m_ropewalkkit_LentExprs_v2_L1; simp only; rw [if_neg (by simp)]) (by omega), bindO_pure]
    have hmap : (List.range x.kids.length).map (fun i => lE (x.kids.getD i ⟨0, ⟨0, 0, ⟨#[]⟩⟩, 0, 0, []⟩)) = lEs x.kids := by rw [map_range x.kids lE, lEs_map]
    rw [List.nil_append, hmap, iter_push 12 (fun i => mkE ((i : Nat) : Int)) (lEs x.kids) (fun i hi => by
      unfold m_ropewalkkit_LentExprs_v2_L2
      simp only
      rw [if_pos (by simpa using hi), show m_ropewalkkit_markExpr N 1 ((i : Nat) : Int) = some () from rfl, bindO_pure, gd_pos (by simp [lEs_len]; omega), gd_pos (by omega)]
      rfl) (by unfold m_ropewalkkit_LentExprs_v2_L2; simp only; rw [if_neg (by simp)]) (by omega), bindO_pure, gd_pos (by rw [List.length_append, lEs_len]; omega), bindO_pure]
    rfl
theorem sameExprW_is : ∀ (m N : Nat) (x : Api_ExprD) (t : List Api_ExprDS), nodes x ≤ m → m ≤ 1000000 → 9223372036854775808 + m ≤ N →
    m_ropewalkkit_SameExpr_W N x.kind x.value.k x.value.n x.value.s x.var x.op (lEs x.kids ++ t) x.kids.length x.kind x.value.k x.value.n x.value.s x.var x.op x.kids = some true := by
  intro m
  induction m with
  | zero => intro N x t h; rw [nodes_eq] at h; omega
  | succ m ih =>
    intro N x t h hm hN
    obtain ⟨N, rfl⟩ : ∃ k, N = k + 1 := ⟨N - 1, by omega⟩
    have hk : nodesL x.kids ≤ m := by rw [nodes_eq] at h; omega
    have hl := nodesL_len x.kids
    show m_ropewalkkit_SameExpr_W_b N (m_ropewalkkit_SameExpr_W N) _ _ _ _ _ _ _ _ _ _ _ _ _ _ _ = _
    unfold m_ropewalkkit_SameExpr_W_b m_ropewalkkit_SameExpr_W_C1 m_ropewalkkit_SameExprs_W_v2
    rw [if_pos (by simp), if_pos (by simp), if_pos (by simp), if_pos (by simp), if_neg (by simp), iter_look x.kids.length (fun i hi => by
      unfold m_ropewalkkit_SameExprs_W_v2_L1
      have hc := nodesL_mem (List.getElem_mem hi)
      have := ih N x.kids[i] tailE (by omega) (by omega) (by omega)
      rw [if_pos (by simpa using hi), gd_pos hi, lEs_at hi, bindO_pure, List.getElem?_eq_getElem hi, bindO_pure, lE_eq]
      simp only
      rw [lEs_len, this, bindO_pure, if_neg (by simp), gd_pos (by omega)]) (by unfold m_ropewalkkit_SameExprs_W_v2_L1; rw [if_neg (by simp)]) (by omega)]
    rfl
theorem markExpr_same {N : Nat} (hN : 0 < N) (z : Int) : m_ropewalkkit_SameExpr_W (N + 1) (mkE z).kind (mkE z).value.k (mkE z).value.n (mkE z).value.s (mkE z).var (mkE z).op ((mkE z).kids ++ (mkE z).kidsT) (mkE z).kids.length 0 0 0 (⟨#[]⟩ : ByteArray) (IntKind.wrap .i64 ((IntKind.wrap .i64 (1000003 * (IntKind.wrap .i64 (1 + 7)))) + z)) 0 ([] : List Api_ExprD) = some true := by
  show m_ropewalkkit_SameExpr_W_b N (m_ropewalkkit_SameExpr_W N) _ _ _ _ _ _ _ _ _ _ _ _ _ _ _ = _
  unfold m_ropewalkkit_SameExpr_W_b m_ropewalkkit_SameExpr_W_C1 m_ropewalkkit_SameExprs_W_v2
  rw [if_pos (by simp [mkE]), if_pos (by simp [mkE]), if_pos (by simp [mkE]), if_pos (by simp [mkE]), if_neg (by simp [mkE]), iter_look 0 (fun i hi => by omega) (by unfold m_ropewalkkit_SameExprs_W_v2_L1; rw [if_neg (by simp [mkE])]) hN]
  rfl
theorem keptExprW_is : ∀ (m N : Nat) (x : Api_ExprD), nodes x ≤ m → m ≤ 1000000 → 9223372036854775808 + m + 1 ≤ N →
    m_ropewalkkit_KeptExpr_W N x.kind x.value.k x.value.n x.value.s x.var x.op (lEs x.kids ++ tailE) x.kids.length x.kind x.value.k x.value.n x.value.s x.var x.op x.kids = some true := by
  intro m
  induction m with
  | zero => intro N x h; rw [nodes_eq] at h; omega
  | succ m ih =>
    intro N x h hm hN
    obtain ⟨N, rfl⟩ : ∃ k, N = k + 1 := ⟨N - 1, by omega⟩
    have hk : nodesL x.kids ≤ m := by rw [nodes_eq] at h; omega
    have hl := nodesL_len x.kids
    have hlen : (lEs x.kids ++ tailE).length = x.kids.length + 12 := by rw [List.length_append, lEs_len, tailE_len]
    have ht : (lEs x.kids ++ tailE).take (x.kids.length + 12) = lEs x.kids ++ tailE := List.take_of_length_le (by omega)
    show m_ropewalkkit_KeptExpr_W_b N (m_ropewalkkit_KeptExpr_W N) _ _ _ _ _ _ _ _ _ _ _ _ _ _ _ = _
    unfold m_ropewalkkit_KeptExpr_W_b m_ropewalkkit_KeptExprs_W_v2
    rw [sameExprW_is (m + 1) N x tailE h hm (by omega), bindO_pure, if_pos rfl, if_neg (by simp), gd_pos (by omega), gd_pos (by omega), iter_look (x.kids.length + 12) (fun i hi => by
      unfold m_ropewalkkit_KeptExprs_W_v2_L1 m_ropewalkkit_KeptExprs_W_v2_C2
      rw [ht, if_pos (by rw [hlen]; simpa using hi)]
      by_cases hlt : i < x.kids.length
      · have hc := nodesL_mem (List.getElem_mem hlt)
        have := ih N x.kids[i] (by omega) (by omega) (by omega)
        rw [if_pos (by simpa using hlt), lEs_at hlt, bindO_pure, List.getElem?_eq_getElem hlt, bindO_pure, lE_eq]
        simp only
        rw [lEs_len, this, bindO_pure, if_neg (by simp), if_neg (by simp; omega), bindO_pure, if_neg (by simp), gd_pos (by omega)]
      · obtain ⟨k, hkk⟩ : ∃ k, N = k + 1 := ⟨N - 1, by omega⟩
        have := markExpr_same (N := k) (by omega) (((i : Nat) : Int) - ((x.kids.length : Nat) : Int))
        rw [← hkk] at this
        rw [if_neg (by simpa using hlt), if_pos (by simp; omega), lEs_tail (by omega) hi, bindO_pure, gd_pos (by omega), show m_ropewalkkit_markExpr N 1 (((i : Nat) : Int) - ((x.kids.length : Nat) : Int)) = some () from rfl, bindO_pure, this, bindO_pure, bindO_pure, if_neg (by simp), gd_pos (by omega)])
      (by unfold m_ropewalkkit_KeptExprs_W_v2_L1; rw [ht, if_neg (by rw [hlen]; simp)]) (by omega)]
    rfl
end Go.Proofs.YtalbennlmcpnmaaGreat
