import Derived.Test.YtohkfpobgjkpdaaDoorRows
import Derived.Test.YtohkfpobgjkpdaaDoorCards
import Derived.Test.YtohkfpobgjkpdaaDoorTie
import Derived.Test.YtohkfpobgjkpdaaDoorXW1
import Derived.Test.YtohkfpobgjkpdaaDoorXW2
import Derived.Test.YtohkfpobgjkpdaaDoorXW3
import Derived.Test.YtohkfpobgjkpdaaDoorXW4
import Derived.Test.YtohkfpobgjkpdaaDoorExprSaysP
import Derived.Test.YtohkfpobgjkpdaaDoorLawG
import Derived.Test.YtohkfpobgjkpdaaDoorOpenA
import Derived.ProofKit
import Derived.LaidMore
import Derived.OpenShut
import Derived.Stop.Joined
import Derived.SevenTiedAt
namespace Go.Proofs.YtohkfpobgjkpdaaDoor
open Go.ChangeShapes Go.WideShapes Go.ChangeAt Go.RowKit Go.Deep
set_option maxRecDepth 100000 in
theorem open_u8_23 {H : Type} {enc : TypeId × Value → H} {w : World} {base : Nat} {spare : Nat → Bool} {held : Bool} {fuel : Nat} {cs : List Value} {y : DataW H × List MemPlace} (h : DataW.trod enc Tryd.prog w base spare held fuel 23 cs = some y) (hw : Snug Tryd.prog 23 y.1) : ∃ x : Int, R_u8.p (fun k => k < w.heap.size) w cs x ∧ inK .u8 x := by
  obtain ⟨x, e, _, ok⟩ := DataW.trod_int Tryd.underlying23 h
  exact ⟨x, ⟨(), e, ask_nil⟩, wf_inK ok⟩
set_option maxRecDepth 100000 in
theorem open_i64_2 {H : Type} {enc : TypeId × Value → H} {w : World} {base : Nat} {spare : Nat → Bool} {held : Bool} {fuel : Nat} {cs : List Value} {y : DataW H × List MemPlace} (h : DataW.trod enc Tryd.prog w base spare held fuel 2 cs = some y) (hw : Snug Tryd.prog 2 y.1) : ∃ x : Int, R_i64.p (fun k => k < w.heap.size) w cs x ∧ inK .i64 x := by
  obtain ⟨x, e, _, ok⟩ := DataW.trod_int Tryd.underlying2 h
  exact ⟨x, ⟨(), e, ask_nil⟩, wf_inK ok⟩
set_option maxRecDepth 100000 in
theorem open_str_9 {H : Type} {enc : TypeId × Value → H} {w : World} {base : Nat} {spare : Nat → Bool} {held : Bool} {fuel : Nat} {cs : List Value} {y : DataW H × List MemPlace} (h : DataW.trod enc Tryd.prog w base spare held fuel 9 cs = some y) (hw : Snug Tryd.prog 9 y.1) : ∃ x : ByteArray, R_str.p (fun k => k < w.heap.size) w cs x ∧ x.size ≤ 140737488351232 := by
  obtain ⟨x, e, e2, ok⟩ := DataW.trod_string Tryd.underlying9 h
  subst e2
  exact ⟨x, ⟨(), e, ask_nil⟩, fits_str hw⟩
set_option maxRecDepth 100000 in
theorem open_V_25 {H : Type} {enc : TypeId × Value → H} {w : World} {base : Nat} {spare : Nat → Bool} {held : Bool} {fuel : Nat} {cs : List Value} {y : DataW H × List MemPlace} (h : DataW.trod enc Tryd.prog w base spare held fuel 25 cs = some y) (hw : Snug Tryd.prog 25 y.1) : ∃ x : V, R_V.p (fun k => k < w.heap.size) w cs x ∧ ok_V x := by
  obtain ⟨n, hl, hf⟩ := trod_fields Tryd.underlying25 h hw
  have c : Tryd.prog.cellsOf 25 = 3 := by kernel_rfl
  rw [c] at hl
  match cs, hl with
  | [c0, c1, c2], _ =>
  obtain ⟨z0, h0, g0⟩ : ∃ z, DataW.trod enc Tryd.prog w base spare held n 23 ((List.drop 0 [c0, c1, c2]).take (Tryd.prog.cellsOf 23)) = some z ∧ Snug Tryd.prog 23 z.1 := hf 0 _ rfl
  have d0 : Tryd.prog.cellsOf 23 = 1 := by kernel_rfl
  simp only [d0, List.drop_zero, List.take_succ_cons, List.take_zero, List.drop_succ_cons] at h0
  obtain ⟨z1, h1, g1⟩ : ∃ z, DataW.trod enc Tryd.prog w base spare held n 2 ((List.drop 1 [c0, c1, c2]).take (Tryd.prog.cellsOf 2)) = some z ∧ Snug Tryd.prog 2 z.1 := hf 1 _ rfl
  have d1 : Tryd.prog.cellsOf 2 = 1 := by kernel_rfl
  simp only [d1, List.drop_zero, List.take_succ_cons, List.take_zero, List.drop_succ_cons] at h1
  obtain ⟨z2, h2, g2⟩ : ∃ z, DataW.trod enc Tryd.prog w base spare held n 9 ((List.drop 2 [c0, c1, c2]).take (Tryd.prog.cellsOf 9)) = some z ∧ Snug Tryd.prog 9 z.1 := hf 2 _ rfl
  have d2 : Tryd.prog.cellsOf 9 = 1 := by kernel_rfl
  simp only [d2, List.drop_zero, List.take_succ_cons, List.take_zero, List.drop_succ_cons] at h2
  obtain ⟨x0, ⟨r0, e0, f0⟩, ok0⟩ := open_u8_23 h0 g0
  simp only [C_u8, List.cons.injEq, and_true] at e0
  obtain rfl := e0
  obtain ⟨x1, ⟨r1, e1, f1⟩, ok1⟩ := open_i64_2 h1 g1
  simp only [C_i64, List.cons.injEq, and_true] at e1
  obtain rfl := e1
  obtain ⟨x2, ⟨r2, e2, f2⟩, ok2⟩ := open_str_9 h2 g2
  simp only [C_str, List.cons.injEq, and_true] at e2
  obtain rfl := e2
  exact ⟨⟨x0, x1, x2⟩, ⟨(), rfl, ask_nil⟩, ok0, ok1, ok2⟩
set_option maxRecDepth 100000 in
theorem open_u8_22 {H : Type} {enc : TypeId × Value → H} {w : World} {base : Nat} {spare : Nat → Bool} {held : Bool} {fuel : Nat} {cs : List Value} {y : DataW H × List MemPlace} (h : DataW.trod enc Tryd.prog w base spare held fuel 22 cs = some y) (hw : Snug Tryd.prog 22 y.1) : ∃ x : Int, R_u8.p (fun k => k < w.heap.size) w cs x ∧ inK .u8 x := by
  obtain ⟨x, e, _, ok⟩ := DataW.trod_int Tryd.underlying22 h
  exact ⟨x, ⟨(), e, ask_nil⟩, wf_inK ok⟩
set_option maxRecDepth 100000 in
theorem open_i64_3 {H : Type} {enc : TypeId × Value → H} {w : World} {base : Nat} {spare : Nat → Bool} {held : Bool} {fuel : Nat} {cs : List Value} {y : DataW H × List MemPlace} (h : DataW.trod enc Tryd.prog w base spare held fuel 3 cs = some y) (hw : Snug Tryd.prog 3 y.1) : ∃ x : Int, R_i64.p (fun k => k < w.heap.size) w cs x ∧ inK .i64 x := by
  obtain ⟨x, e, _, ok⟩ := DataW.trod_int Tryd.underlying3 h
  exact ⟨x, ⟨(), e, ask_nil⟩, wf_inK ok⟩
set_option maxRecDepth 100000 in
theorem open_u8_26 {H : Type} {enc : TypeId × Value → H} {w : World} {base : Nat} {spare : Nat → Bool} {held : Bool} {fuel : Nat} {cs : List Value} {y : DataW H × List MemPlace} (h : DataW.trod enc Tryd.prog w base spare held fuel 26 cs = some y) (hw : Snug Tryd.prog 26 y.1) : ∃ x : Int, R_u8.p (fun k => k < w.heap.size) w cs x ∧ inK .u8 x := by
  obtain ⟨x, e, _, ok⟩ := DataW.trod_int Tryd.underlying26 h
  exact ⟨x, ⟨(), e, ask_nil⟩, wf_inK ok⟩
set_option maxRecDepth 100000 in
theorem open_Api_ExprD_29 {H : Type} {enc : TypeId × Value → H} {w : World} {base : Nat} {spare : Nat → Bool} {held : Bool} : ∀ (fuel : Nat) (cs : List Value) (y : DataW H × List MemPlace) (h : DataW.trod enc Tryd.prog w base spare held fuel 29 cs = some y) (hw : Snug Tryd.prog 29 y.1), ∃ x : Api_ExprD, R_Api_ExprD.p (fun k => k < w.heap.size) w cs x ∧ ok_Api_ExprD x := by
  intro fuel
  induction fuel using Nat.strongRecOn with
  | _ fuel ih =>
  intro cs y h hw
  obtain ⟨n, hn, hl, hf⟩ := trod_fieldsN Tryd.underlying29 h hw
  have c : Tryd.prog.cellsOf 29 = 7 := by kernel_rfl
  rw [c] at hl
  match cs, hl with
  | [c0, c1, c2, c3, c4, c5, c6], _ =>
  obtain ⟨z0, h0, g0⟩ : ∃ z, DataW.trod enc Tryd.prog w base spare held n 22 ((List.drop 0 [c0, c1, c2, c3, c4, c5, c6]).take (Tryd.prog.cellsOf 22)) = some z ∧ Snug Tryd.prog 22 z.1 := hf 0 _ rfl
  have d0 : Tryd.prog.cellsOf 22 = 1 := by kernel_rfl
  simp only [d0, List.drop_zero, List.take_succ_cons, List.take_zero, List.drop_succ_cons] at h0
  obtain ⟨z1, h1, g1⟩ : ∃ z, DataW.trod enc Tryd.prog w base spare held n 25 ((List.drop 1 [c0, c1, c2, c3, c4, c5, c6]).take (Tryd.prog.cellsOf 25)) = some z ∧ Snug Tryd.prog 25 z.1 := hf 1 _ rfl
  have d1 : Tryd.prog.cellsOf 25 = 3 := by kernel_rfl
  simp only [d1, List.drop_zero, List.take_succ_cons, List.take_zero, List.drop_succ_cons] at h1
  obtain ⟨z2, h2, g2⟩ : ∃ z, DataW.trod enc Tryd.prog w base spare held n 3 ((List.drop 4 [c0, c1, c2, c3, c4, c5, c6]).take (Tryd.prog.cellsOf 3)) = some z ∧ Snug Tryd.prog 3 z.1 := hf 2 _ rfl
  have d2 : Tryd.prog.cellsOf 3 = 1 := by kernel_rfl
  simp only [d2, List.drop_zero, List.take_succ_cons, List.take_zero, List.drop_succ_cons] at h2
  obtain ⟨z3, h3, g3⟩ : ∃ z, DataW.trod enc Tryd.prog w base spare held n 26 ((List.drop 5 [c0, c1, c2, c3, c4, c5, c6]).take (Tryd.prog.cellsOf 26)) = some z ∧ Snug Tryd.prog 26 z.1 := hf 3 _ rfl
  have d3 : Tryd.prog.cellsOf 26 = 1 := by kernel_rfl
  simp only [d3, List.drop_zero, List.take_succ_cons, List.take_zero, List.drop_succ_cons] at h3
  obtain ⟨z4, h4, g4⟩ : ∃ z, DataW.trod enc Tryd.prog w base spare held n 27 ((List.drop 6 [c0, c1, c2, c3, c4, c5, c6]).take (Tryd.prog.cellsOf 27)) = some z ∧ Snug Tryd.prog 27 z.1 := hf 4 _ rfl
  have d4 : Tryd.prog.cellsOf 27 = 1 := by kernel_rfl
  simp only [d4, List.drop_zero, List.take_succ_cons, List.take_zero, List.drop_succ_cons] at h4
  obtain ⟨x0, ⟨r0, e0, f0⟩, ok0⟩ := open_u8_22 h0 g0
  simp only [C_u8, List.cons.injEq, and_true] at e0
  obtain rfl := e0
  obtain ⟨x1, ⟨r1, e1, f1⟩, ok1⟩ := open_V_25 h1 g1
  simp only [C_V, List.cons.injEq, and_true] at e1
  obtain ⟨rfl, rfl, rfl⟩ := e1
  obtain ⟨x2, ⟨r2, e2, f2⟩, ok2⟩ := open_i64_3 h2 g2
  simp only [C_i64, List.cons.injEq, and_true] at e2
  obtain rfl := e2
  obtain ⟨x3, ⟨r3, e3, f3⟩, ok3⟩ := open_u8_26 h3 g3
  simp only [C_u8, List.cons.injEq, and_true] at e3
  obtain rfl := e3
  obtain ⟨p4, k4, x4, e4, f4, ok4⟩ := open_listR Tryd.underlying27 (sz := 7) (R := R_Api_ExprD) (q := fun y => ok_Api_ExprD y) (by kernel_rfl) (by decide) (fun m hm cs y h hw => ih m (by omega) cs y h hw) h4 g4
  replace ok4 := And.intro (le_of_bytes (m := 1759218604390) ok4.1 (by kernel_rfl : Tryd.prog.bytesOf 29 = 80) (by decide) (by decide) (by decide)) ok4.2
  simp only [List.cons.injEq, and_true] at e4
  subst e4
  exact ⟨⟨x0, x1, x2, x3, x4⟩, rec_shut (p4, k4) rfl ((ask_cons f4 ask_nil)), .mk _ ok0 ok1 ok2 ok3 ok4.1 ok4.2⟩
theorem law_own : ownKnob Tryd.prog.godebug = none := by kernel_rfl
theorem law_laid : laidOutB Tryd.prog = true := by kernel_rfl
def pinCells : Array Value := match Go.Pinned.utf8First with
  | .agg l => (l.map fun d => match d with | .lit (.int k n) => Value.int k n | _ => .bool false).toArray
  | _ => #[]
noncomputable def pinW (os : Os) : World := { World.doorLaid Tryd.prog 4000 os with heap := match Tryd.prog.globalNamed "unicode/utf8.first" with
  | some g => match (((begin Tryd.prog (fun _ _ => 0) default).world.heap[g]?).bind Obj.row?) with
    | some (_, t) => (World.doorLaid Tryd.prog 4000 os).heap.setIfInBounds g (.cells pinCells t (0, 0))
    | none => #[]
  | none => #[] }
theorem door_met (os : Os) (args : Array Value) : laidMetH Tryd.prog Rows.exprSaysRow.laid ((pinW os).forCall (fun _ _ => 0) ⟨#[], args, []⟩).memory :=
  laidMetH_of_parts3 (fuel := 8) (laidMet_of_run' 8 (by kernel_rfl) (by kernel_rfl)) (by kernel_rfl) (by kernel_rfl)
set_option maxRecDepth 100000 in
theorem exprSays_lifted (os : Os) (started : os.Started) (H : Type) (enc : TypeId × Value → H) :
    ReturnsInHanded {} Tryd.checked os 3 .any (fun w args => (Rows.exprSaysSpec.pre enc Tryd.prog Tryd.f3 [] false w args ∧ laidMetH Tryd.prog Rows.exprSaysRow.laid w) ∧ sizedMet enc Tryd.prog Tryd.f3 (OpenSpec.ofChange Rows.exprSaysSpec) false w args)
      (Rows.exprSaysSpec.post enc Tryd.prog Tryd.f3 false true false false) := by
  refine returnsInHanded_of_change_and (C := Tryd.checked) (X := fun w _ => laidMetH Tryd.prog Rows.exprSaysRow.laid w) (fun _ _ _ hh h => h.of_heap hh) law_own started (by kernel_rfl) Tryd.func3
    (ChangeSpec.witness_shaped (enc := enc) (C := Tryd.checked) (os := os) (X := fun w _ => laidMetH Tryd.prog Rows.exprSaysRow.laid w) false (pinW os) #[.agg #[.int .u8 0, .int .u8 0, .int .i64 0, .string ⟨#[]⟩, .int .i64 0, .int .u8 0, .slice none 0 0], .slice none 0 0] 8 rfl (World.shaped_of_RefB (by kernel_rfl) (by kernel_rfl)) (by kernel_rfl) (by kernel_rfl) (by kernel_rfl) (door_met os _)) ?_
  intro W base args ds gs before hval0 hW hcnd hsz0 _ _
  have hval : ∀ (j : Nat) t v, Tryd.f3.params[j]? = some t → args[j]? = some v → Value.okWide Tryd.prog W .any base t v := hval0
  have hW' := hW
  obtain ⟨p, q, hA0, hV, rfl, hfz, hnd⟩ := hW
  have hA : DataW.TrodAll enc Tryd.prog W 0 (fun _ => true) true Tryd.f3.params.toList args.toList ds p := hA0
  have hsz : (DataW.weightsEach Tryd.prog (Tryd.f3.params.toList ++ _) (ds ++ gs)).all (· ≤ reachBytes) = true := hsz0
  rw [Tryd.params3] at hA hval hsz
  clear hA0 hval0 hsz0
  obtain ⟨args⟩ := args
  obtain ⟨v0, r0, d0, s0, p0, q0, e0, rfl, rfl, ⟨n0, h0⟩, hA⟩ := trodAll_cons hA
  obtain ⟨v1, r1, d1, s1, p1, q1, e1, rfl, rfl, ⟨n1, h1⟩, hA⟩ := trodAll_cons hA
  obtain ⟨e2, rfl, rfl⟩ := trodAll_nil hA
  subst e2; subst e1
  simp only at e0
  subst e0
  obtain ⟨rfl, rfl⟩ := trodVars_none hV
  obtain ⟨⟨c0⟩, rfl⟩ := okWide_agg Tryd.underlying29 (hval 0 _ v0 rfl rfl)
  obtain ⟨x0, hp0, ok0⟩ := (open_Api_ExprD_29 _ _ _) h0 (fits_arg hsz 0 rfl rfl)
  obtain ⟨r0, e, _, f0⟩ := R_Api_ExprD_opens _ _ _ _ hp0
  replace e : c0 = C_Api_ExprD x0 r0 := e
  subst e
  rw [okWide_sl Tryd.underlying30 (hval 1 _ v1 rfl rfl)] at h1
  obtain ⟨pa1, ca1, x1, e, hs1, ok1⟩ := open_listA Tryd.underlying30 (sz := 3) (R := R_V) (q := fun y => ok_V y) (by kernel_rfl) (by decide) (fun _ _ _ h hw => open_V_25 h hw) h1 (fits_arg hsz 1 rfl rfl)
  replace ok1 := And.intro (Nat.le_trans (le_of_bytes (m := 4398046510976) ok1.1 (by kernel_rfl : Tryd.prog.bytesOf 25 = 32) (by decide) (by decide) (by decide)) (by decide : 4398046510976 ≤ 140737488351232)) ok1.2
  simp only [List.cons.injEq, and_true] at e
  subst e
  have hcall := spec_calls (w_ropewalklaw09_ExprSays_s 9223372036854776808 x0.kind x0.value.k x0.value.n x0.value.s x0.var x0.op r0.1 r0.2 x0.kids pa1 ca1 x1 _ (exprsays_arg x0 ok0 x1 ok1)) (w := W) (ask_cons (f0 _ (mem_at (k := 0) rfl)) (ask_cons hs1 ask_nil))
  refine hcall.mono fun e W' ⟨he, hm⟩ => ?_
  subst he
  have hb : Below W.heap.size W W' := hm.to_below (Nat.le_refl _) (fun _ h => h.elim)
  refine ⟨_, rfl, law_post law_laid ?_ rfl Tryd.underlying4 rfl hW' rfl rfl rfl hb⟩
  rw [Tryd.params3]
  intro t ht
  simp only [List.mem_cons, List.not_mem_nil, or_false] at ht
  rcases ht with rfl | rfl <;> exact ⟨by kernel_rfl, of_decide_eq_true (by kernel_rfl)⟩
theorem exprSays_row : Rows.ExprSaysSaid :=
  OpenClaim.holds_of_wide 3 Tryd.f3 rfl rfl rfl rfl rfl rfl rfl ⟨rfl, rfl, rfl, rfl, rfl⟩ rfl rfl rfl rfl rfl (by kernel_rfl) Tryd.func3 (by kernel_rfl)
    (of_decide_eq_true (by kernel_rfl)) (by unfold Func.isWrapper; first | (rw [if_pos (by decide +kernel)]; kernel_rfl) | (rw [if_neg (by decide +kernel)]; exact ⟨rfl, rfl⟩))
    (fun os started H enc _ => exprSays_lifted os started H enc)
theorem expr_says : Rows.ExprSaysCardSaid :=
  Claim7.holds_tied_plain_at .later [] [.data, .pinned] true (true, "70d45d478c9cfa3b619bb17d7eb65ebd6ae6370d6de0eede6dea96d2b66a6dab") false
    exprSays_row (fun _ h => by cases h) (by kernel_rfl) (fun _ h => by cases h) exprSays_row_tie rfl ⟨rfl, rfl⟩ (by kernel_rfl) rfl
    (fun f fn hf hfn => by
      obtain rfl : f = 3 := Option.some.inj ((show Tryd.prog.funcNamed "ropewalk/ropewalklaw09.ExprSays" = some 3 by kernel_rfl).symm.trans hf) |>.symm
      obtain rfl : fn = Tryd.f3 := (Option.some.inj (Tryd.func3.symm.trans hfn)).symm
      exact ⟨by kernel_rfl, fun j t ht => by
        rw [Tryd.params3] at ht
        have hm : t ∈ [29, 30] := by simpa using Array.mem_of_getElem? ht
        have hall : ([29, 30].all fun u => !Tryd.prog.wantsStandIn u) = true := by kernel_rfl
        exact (show Tryd.prog.wantsStandIn t = false by simpa using List.all_eq_true.1 hall t hm)⟩)
    (by kernel_rfl)
#print axioms expr_says
end Go.Proofs.YtohkfpobgjkpdaaDoor
