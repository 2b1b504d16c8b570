/- The plain law of ExprPuts. -/
import Derived.Test.YtdkmibdiokmfbaaDoorExprLQ
namespace Go.Proofs.YtdkmibdiokmfbaaDoor
open Go Go.RowKit
theorem heta (e : Api_ExprD) : (⟨e.kind, (⟨e.value.k, e.value.n, e.value.s⟩ : V), e.var, e.op, e.kids⟩ : Api_ExprD) = e := by cases e; rfl
mutual
def pusE (k : Int) (v : V) : Api_ExprD → Api_ExprD
  | ⟨kd, c, x, o, l⟩ => if kd = 2 ∧ x = k then ⟨1, v, 0, 0, []⟩ else ⟨kd, c, x, o, pusL k v l⟩
def pusL (k : Int) (v : V) : List Api_ExprD → List Api_ExprD
  | [] => []
  | e :: l => pusE k v e :: pusL k v l
end
theorem pusL_map (k : Int) (v : V) : ∀ l : List Api_ExprD, pusL k v l = l.map (pusE k v)
  | [] => by simp [pusL]
  | e :: l => by simp [pusL, pusL_map k v l]
theorem pusL_take {k : Int} {v : V} {l : List Api_ExprD} {i : Nat} {x : Api_ExprD} (h : l[i]? = some x) : pusL k v (l.take (i + 1)) = pusL k v (l.take i) ++ [pusE k v x] := by
  rw [List.take_add_one, h, pusL_map, pusL_map]; simp
theorem put_is : ∀ (m N : Nat) (e : Api_ExprD) (k : Int) (v : V), ok_Api_ExprD e → nodes e ≤ m → m ≤ 1000 → 9223372036854775808 + m ≤ N →
    m_ropewalklaw09_put N e.kind e.value.k e.value.n e.value.s e.var e.op e.kids k v.k v.n v.s = some ((pusE k v e).kind, (pusE k v e).value.k, (pusE k v e).value.n, (pusE k v e).value.s, (pusE k v e).var, (pusE k v e).op, (pusE k v e).kids) := by
  intro m
  induction m with
  | zero => intro N e k v _ hn; rw [nodes_eq] at hn; omega
  | succ m ih =>
    intro N e k v hok hn hm hN
    obtain ⟨N, rfl⟩ : ∃ q, N = q + 1 := ⟨N - 1, by omega⟩
    obtain ⟨h4, g4⟩ := ok_kids hok
    obtain ⟨kd, c, x, o, l⟩ := e
    rw [nodes_eq] at hn
    simp only at hn h4 g4 ⊢
    show m_ropewalklaw09_put_b N (m_ropewalklaw09_put N) kd c.k c.n c.s x o l k v.k v.n v.s = _
    unfold m_ropewalklaw09_put_b
    have hj : (if (kd == 2) = true then some (x == k) else some false) = some (decide (kd = 2 ∧ x = k)) := by
      by_cases h : kd = 2
      · rw [if_pos (by simpa using h)]
        by_cases h2 : x = k <;> simp [h, h2]
      · rw [if_neg (by simpa using h)]; simp [h]
    rw [hj, bindO_pure]
    by_cases h : kd = 2 ∧ x = k
    · rw [if_pos (by simpa using h)]
      unfold pusE
      rw [if_pos h]
    · rw [if_neg (by simpa using h)]
      have hl : l.length ≤ 1000000 := by have := nodesL_len l; omega
      obtain ⟨w, w1, w2⟩ := iter_inv (f := m_ropewalklaw09_put_L1 N l (m_ropewalklaw09_put N) k v.k v.n v.s) (fun s => s.1 ≤ l.length ∧ s.2 = pusL k v (l.take s.1)) (fun s => l.length - s.1) (fun o => o = pusL k v l) (fun s hs => by
        obtain ⟨i, acc⟩ := s
        obtain ⟨a1, a2⟩ := hs
        simp only at a1 a2
        unfold m_ropewalklaw09_put_L1
        simp only
        by_cases hlt : i < l.length
        · have hx := List.getElem?_eq_getElem hlt
          have hmem := List.getElem_mem hlt
          rw [if_pos (by simpa using hlt), hx, bindO_pure, ih N l[i] k v (g4 _ hmem) (by have := nodesL_mem hmem; omega) (by omega) (by omega), bindO_pure]
          simp only
          have hal : acc.length = i := by rw [a2, pusL_map, List.length_map, List.length_take]; omega
          rw [gd_pos (by simp only [List.length_cons, List.length_nil]; omega), gd_pos (by omega)]
          left
          exact ⟨_, rfl, ⟨by simp only; omega, by simp only; rw [pusL_take hx, a2, heta]⟩, by simp only; omega⟩
        · rw [if_neg (by simpa using hlt)]
          right
          exact ⟨_, rfl, by rw [a2, List.take_of_length_le (by omega)]⟩) N (0, []) ⟨by simp, by simp [pusL]⟩ (by simp only; omega)
      rw [w1, bindO_pure, w2]
      unfold pusE
      rw [if_neg h]
theorem allR_congr {f g : Api_ExprD → Option Say} {h : Api_ExprD → Api_ExprD} : ∀ (l : List Api_ExprD) (acc : List V), (∀ x ∈ l, f (h x) = g x) → allR f (l.map h) acc = allR g l acc
  | [], _, _ => rfl
  | x :: l, acc, hx => by
    rw [List.map_cons]
    unfold allR
    rw [hx x (by simp)]
    congr 1
    funext ⟨a, b, c, e⟩
    simp only
    rw [allR_congr l _ (fun y hy => hx y (by simp [hy]))]
theorem eval_put : ∀ (m N : Nat) (e : Api_ExprD) (vars : List V) (k : Int) (v : V), nodes e ≤ m → m ≤ 1000 → 9223372036854775808 + m ≤ N → 0 ≤ k → vars[k.toNat]? = some v → at_ (m_expr_Eval N) vars (pusE k v e) = at_ (m_expr_Eval N) vars e := by
  intro m
  induction m with
  | zero => intro N e vars k v hn; rw [nodes_eq] at hn; omega
  | succ m ih =>
    intro N e vars k v hn hm hN hk hv
    obtain ⟨N, rfl⟩ : ∃ q, N = q + 1 := ⟨N - 1, by omega⟩
    have hN1 : 9223372036854775808 ≤ N := by omega
    obtain ⟨kd, c, x, o, l⟩ := e
    rw [nodes_eq] at hn
    simp only at hn
    unfold pusE
    by_cases h : kd = 2 ∧ x = k
    · rw [if_pos h]
      obtain ⟨rfl, rfl⟩ := h
      show m_expr_Eval_b N (m_expr_Eval N) 1 v.k v.n v.s 0 0 [] vars = m_expr_Eval_b N (m_expr_Eval N) 2 c.k c.n c.s x o l vars
      unfold m_expr_Eval_b
      simp only [show ((1 : Int) == 1) = true from rfl, show ((2 : Int) == 1) = false from rfl, show ((2 : Int) == 2) = true from rfl, Bool.false_eq_true, if_true, if_false]
      unfold m_expr_Eval_1 m_expr_Eval_2
      have hlt := (List.getElem?_eq_some_iff.1 hv).1
      rw [if_neg (by simpa using hk), bindO_pure, if_neg (by simp; omega), gd_pos hk, hv, bindO_pure]
    · rw [if_neg h]
      show m_expr_Eval_b N (m_expr_Eval N) kd c.k c.n c.s x o (pusL k v l) vars = m_expr_Eval_b N (m_expr_Eval N) kd c.k c.n c.s x o l vars
      unfold m_expr_Eval_b m_expr_Eval_1 m_expr_Eval_2 m_expr_Eval_3_v2 m_expr_All_v2
      have hkl : l.length ≤ 1000000 := by have := nodesL_len l; omega
      rw [lrow hN1 hkl, lrow hN1 (by rw [pusL_map, List.length_map]; exact hkl), pusL_map, allR_congr l [] (fun y hy => ih N y vars k v (by have := nodesL_mem hy; omega) (by omega) (by omega) hk hv)]
theorem allR_more {f g : Api_ExprD → Option Say} : ∀ (l : List Api_ExprD) (acc a : List V), (∀ x ∈ l, ∀ p q r, f x = some (p, q, r, 0) → g x = some (p, q, r, 0)) → allR f l acc = some (.inl a) → allR g l acc = some (.inl a)
  | [], _, _, _, h => h
  | x :: l, acc, a, hx, h => by
    unfold allR at h ⊢
    obtain ⟨⟨p, q, r, e⟩, h1, h⟩ := bindO_some h
    simp only at h
    by_cases he : e = 0
    · subst he
      simp only [bne_self_eq_false, Bool.false_eq_true, if_false] at h
      rw [hx x (by simp) p q r h1, bindO_pure]
      simp only [bne_self_eq_false, Bool.false_eq_true, if_false]
      exact allR_more l _ a (fun y hy => hx y (by simp [hy])) h
    · rw [if_pos (by simpa using he)] at h; cases h
theorem allR_err {f : Api_ExprD → Option Say} : ∀ (l : List Api_ExprD) (acc : List V) (e : Nat), allR f l acc = some (.inr e) → e ≠ 0
  | [], _, _, h => by cases h
  | x :: l, acc, e, h => by
    unfold allR at h
    obtain ⟨⟨p, q, r, e'⟩, h1, h⟩ := bindO_some h
    simp only at h
    by_cases he : e' = 0
    · rw [if_neg (by simpa using he)] at h; exact allR_err l _ e h
    · rw [if_pos (by simpa using he)] at h; cases h; exact he
theorem eval_more : ∀ (m N : Nat) (e : Api_ExprD) (vars : List V) (w : V), nodes e ≤ m → m ≤ 1000 → 9223372036854775808 + m ≤ N → ∀ p q r, at_ (m_expr_Eval N) vars e = some (p, q, r, 0) → at_ (m_expr_Eval N) (vars ++ [w]) e = some (p, q, r, 0) := by
  intro m
  induction m with
  | zero => intro N e vars w hn; rw [nodes_eq] at hn; omega
  | succ m ih =>
    intro N e vars w hn hm hN p q r he
    obtain ⟨N, rfl⟩ : ∃ q, N = q + 1 := ⟨N - 1, by omega⟩
    have hN1 : 9223372036854775808 ≤ N := by omega
    obtain ⟨k, c, x, o, l⟩ := e
    rw [nodes_eq] at hn
    simp only at hn
    have he : m_expr_Eval_b N (m_expr_Eval N) k c.k c.n c.s x o l vars = some (p, q, r, 0) := he
    show m_expr_Eval_b N (m_expr_Eval N) k c.k c.n c.s x o l (vars ++ [w]) = some (p, q, r, 0)
    unfold m_expr_Eval_b at he ⊢
    by_cases k1 : k = 1
    · subst k1
      simp only [show ((1 : Int) == 1) = true from rfl, if_true] at he ⊢
      exact he
    · have b1 : (k == 1) = false := by simpa using k1
      simp only [b1, Bool.false_eq_true, if_false] at he ⊢
      by_cases k2 : k = 2
      · subst k2
        simp only [show ((2 : Int) == 2) = true from rfl, if_true] at he ⊢
        unfold m_expr_Eval_2 at he ⊢
        by_cases h0 : x < 0
        · rw [if_pos (by simpa using h0), bindO_pure, if_pos rfl, bindO_pure] at he
          cases he
        · rw [if_neg (by simpa using h0), bindO_pure] at he
          by_cases h1 : x ≥ (vars.length : Int)
          · rw [if_pos (by simpa using h1), bindO_pure] at he
            cases he
          · rw [if_neg (by simpa using h1)] at he
            rw [if_neg (by simpa using h0), bindO_pure, if_neg (by simp; omega), List.getElem?_append_left (by omega)]
            exact he
      · have b2 : (k == 2) = false := by simpa using k2
        simp only [b2, Bool.false_eq_true, if_false] at he ⊢
        by_cases k3 : k = 3
        · subst k3
          simp only [show ((3 : Int) == 3) = true from rfl, if_true] at he ⊢
          unfold m_expr_Eval_3_v2 m_expr_All_v2 at he ⊢
          have hkl : l.length ≤ 1000000 := by have := nodesL_len l; omega
          rw [lrow hN1 hkl] at he ⊢
          cases ha : allR (at_ (m_expr_Eval N) vars) l [] with
          | none => rw [ha] at he; cases he
          | some s =>
            rw [ha] at he
            cases s with
            | inr e =>
              have hne := allR_err l [] e ha
              simp only [upR, bindS_inr, bindO_pure] at he
              rw [if_pos (by simpa using hne), bindO_pure] at he
              cases he
              exact absurd rfl hne
            | inl a =>
              rw [allR_more l [] a (fun y hy p q r h => ih N y vars w (by have := nodesL_mem hy; omega) (by omega) (by omega) p q r h) ha]
              exact he
        · have b3 : (k == 3) = false := by simpa using k3
          simp only [b3, Bool.false_eq_true, if_false] at he ⊢
          exact he
theorem exprputs_arg (e : Api_ExprD) (he : ok_Api_ExprD e) (vars : List V) (hv : vars.length ≤ 140737488351232 ∧ ∀ y ∈ vars, ok_V y) (k : Int) (_ : inK .i64 k) (more : V) (_ : ok_V more) :
    m_ropewalklaw09_ExprPuts 9223372036854776808 e.kind e.value.k e.value.n e.value.s e.var e.op e.kids vars k more.k more.n more.s = some true := by
  unfold m_ropewalklaw09_ExprPuts
  rw [expr_awake, bindO_pure, if_neg nott]
  obtain ⟨b, b1, b2⟩ := light_is (N := 9223372036854776808) (vars := vars) (l := [e]) (by decide) hv.1 (by simpa using he)
  have hl : m_ropewalklaw09_light 9223372036854776808 vars [(⟨e.kind, (⟨e.value.k, e.value.n, e.value.s⟩ : V), e.var, e.op, e.kids⟩ : Api_ExprD)] = some b := by rw [heta]; exact b1
  rw [hl, bindO_pure]
  cases b with
  | false => rfl
  | true =>
    obtain ⟨c1, c2⟩ := b2 rfl
    have hn : nodes e ≤ 300 := by simp only [nodesL] at c2; omega
    rw [if_neg nott, bindO_pure]
    by_cases hm : 300 < more.s.size
    · rw [if_pos (by simpa using hm)]
    · rw [if_neg (by simpa using hm)]
      obtain ⟨⟨p, q, r, f⟩, r1, _, r3⟩ := both 300 9223372036854776808 e vars he hn (by omega) (by omega) (fun v h => okV_of (hv.2 v h)) (by omega)
      have r1' : m_expr_Eval 9223372036854776808 e.kind e.value.k e.value.n e.value.s e.var e.op e.kids vars = some (p, q, r, f) := r1
      rw [r1', bindO_pure]
      simp only
      have hright : (if (f == 0) = true then bindO (m_value_Right 9223372036854776808 p q r) fun v39 => some (!v39) else some false) = some false := by
        by_cases hf : f = 0
        · rw [if_pos (by simpa using hf)]
          obtain ⟨t, t1, t2⟩ := right_is 9223372036854776808 ⟨p, q, r⟩
          have t1' : m_value_Right 9223372036854776808 p q r = some t := t1
          rw [t1', bindO_pure, t2.2 (r3.2.2 hf)]; rfl
        · rw [if_neg (by simpa using hf)]
      rw [hright, bindO_pure, if_neg notf]
      have hC3 : m_ropewalklaw09_ExprPuts_C3 9223372036854776808 vars k e.kind e.value.k e.value.n e.value.s e.var e.op e.kids p q r f = some (.inl ()) := by
        unfold m_ropewalklaw09_ExprPuts_C3
        by_cases h0 : 0 < vars.length
        · rw [if_pos (by simpa using h0)]
          obtain ⟨y, y1, y2, y3⟩ := pick_in (N := 9223372036854776808) (x := k) (n := (vars.length : Int)) (by omega) (by omega)
          rw [y1, bindO_pure, gd_pos y2]
          have hlt : y.toNat < vars.length := by omega
          have hx := List.getElem?_eq_getElem hlt
          rw [hx, bindO_pure, put_is 300 9223372036854776808 e y vars[y.toNat] he hn (by omega) (by omega), bindO_pure]
          simp only
          have hp := eval_put 300 9223372036854776808 e vars y vars[y.toNat] hn (by omega) (by omega) y2 hx
          rw [r1] at hp
          have hp' : m_expr_Eval 9223372036854776808 (pusE y vars[y.toNat] e).kind (pusE y vars[y.toNat] e).value.k (pusE y vars[y.toNat] e).value.n (pusE y vars[y.toNat] e).value.s (pusE y vars[y.toNat] e).var (pusE y vars[y.toNat] e).op (pusE y vars[y.toNat] e).kids vars = some (p, q, r, f) := hp
          rw [hp', bindO_pure]
          simp [bindO_pure]
        · rw [if_neg (by simpa using h0)]
      rw [hC3, bindS_inl]
      by_cases hf : f = 0
      · subst hf
        rw [if_neg (by simp), gd_pos (by simp; omega), gd_pos (by simp only [List.length_cons, List.length_nil]; omega)]
        have hmr := eval_more 300 9223372036854776808 e vars more hn (by omega) (by omega) p q r r1
        have hmr' : m_expr_Eval 9223372036854776808 e.kind e.value.k e.value.n e.value.s e.var e.op e.kids (vars ++ [(⟨more.k, more.n, more.s⟩ : V)]) = some (p, q, r, 0) := hmr
        rw [hmr', bindO_pure]
        simp
      · rw [if_pos (by simpa using hf)]
end Go.Proofs.YtdkmibdiokmfbaaDoor
