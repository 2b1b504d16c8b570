/- PROVED: ropewalklaw11.MemoryKeeps answers true whatever its input is, never panics, and leaves its input as it was. Conditions: those of the given statement, and no other. -/
import Derived.Test.YtdnolbmbmncefaaDoorRows
import Derived.Test.YtdnolbmbmncefaaDoorCards
import Derived.Test.YtdnolbmbmncefaaDoorTie
import Derived.Test.YtdnolbmbmncefaaDoorXW1
import Derived.Test.YtdnolbmbmncefaaDoorXW2
import Derived.Test.YtdnolbmbmncefaaDoorXW3
import Derived.Test.YtdnolbmbmncefaaDoorXW4
import Derived.Test.YtdnolbmbmncefaaDoorMemKeepP
import Derived.Test.YtdnolbmbmncefaaDoorLawG
import Derived.Test.YtdnolbmbmncefaaDoorOpenA
import Derived.ProofKit
import Derived.LaidMore
import Derived.OpenShut
import Derived.Stop.Joined
import Derived.SevenTiedAt
namespace Go.Proofs.YtdnolbmbmncefaaDoor
open Go.ChangeShapes Go.WideShapes Go.ChangeAt Go.RowKit Go.Deep
theorem open_u8_53 {H : Type} {enc : TypeId × Value → H} {w : World} {base : Nat} {spare : Nat → Bool} {held : Bool} {fuel : Nat} {cs : List Value} {y : DataW H × List MemPlace} (h : DataW.trod enc Tryd.prog w base spare held fuel 53 cs = some y) (hw : Snug Tryd.prog 53 y.1) : ∃ x : Int, R_u8.p (fun k => k < w.heap.size) w cs x ∧ inK .u8 x := by
  obtain ⟨x, e, _, ok⟩ := DataW.trod_int Tryd.underlying53 h
  exact ⟨x, ⟨(), e, ask_nil⟩, wf_inK ok⟩
theorem open_i64_2 {H : Type} {enc : TypeId × Value → H} {w : World} {base : Nat} {spare : Nat → Bool} {held : Bool} {fuel : Nat} {cs : List Value} {y : DataW H × List MemPlace} (h : DataW.trod enc Tryd.prog w base spare held fuel 2 cs = some y) (hw : Snug Tryd.prog 2 y.1) : ∃ x : Int, R_i64.p (fun k => k < w.heap.size) w cs x ∧ inK .i64 x := by
  obtain ⟨x, e, _, ok⟩ := DataW.trod_int Tryd.underlying2 h
  exact ⟨x, ⟨(), e, ask_nil⟩, wf_inK ok⟩
theorem open_str_9 {H : Type} {enc : TypeId × Value → H} {w : World} {base : Nat} {spare : Nat → Bool} {held : Bool} {fuel : Nat} {cs : List Value} {y : DataW H × List MemPlace} (h : DataW.trod enc Tryd.prog w base spare held fuel 9 cs = some y) (hw : Snug Tryd.prog 9 y.1) : ∃ x : ByteArray, R_str.p (fun k => k < w.heap.size) w cs x ∧ x.size ≤ 140737488351232 := by
  obtain ⟨x, e, e2, ok⟩ := DataW.trod_string Tryd.underlying9 h
  subst e2
  exact ⟨x, ⟨(), e, ask_nil⟩, fits_str hw⟩
theorem open_V_55 {H : Type} {enc : TypeId × Value → H} {w : World} {base : Nat} {spare : Nat → Bool} {held : Bool} {fuel : Nat} {cs : List Value} {y : DataW H × List MemPlace} (h : DataW.trod enc Tryd.prog w base spare held fuel 55 cs = some y) (hw : Snug Tryd.prog 55 y.1) : ∃ x : V, R_V.p (fun k => k < w.heap.size) w cs x ∧ ok_V x := by

  obtain ⟨n, hl, hf⟩ := trod_fields Tryd.underlying55 h hw
  have c : Tryd.prog.cellsOf 55 = 3 := by kernel_rfl
  rw [c] at hl
  match cs, hl with
  | [c0, c1, c2], _ =>
  obtain ⟨z0, h0, g0⟩ : ∃ z, DataW.trod enc Tryd.prog w base spare held n 53 ((List.drop 0 [c0, c1, c2]).take (Tryd.prog.cellsOf 53)) = some z ∧ Snug Tryd.prog 53 z.1 := hf 0 _ rfl
  have d0 : Tryd.prog.cellsOf 53 = 1 := by kernel_rfl
  simp only [d0, List.drop_zero, List.take_succ_cons, List.take_zero, List.drop_succ_cons] at h0
  obtain ⟨z1, h1, g1⟩ : ∃ z, DataW.trod enc Tryd.prog w base spare held n 2 ((List.drop 1 [c0, c1, c2]).take (Tryd.prog.cellsOf 2)) = some z ∧ Snug Tryd.prog 2 z.1 := hf 1 _ rfl
  have d1 : Tryd.prog.cellsOf 2 = 1 := by kernel_rfl
  simp only [d1, List.drop_zero, List.take_succ_cons, List.take_zero, List.drop_succ_cons] at h1
  obtain ⟨z2, h2, g2⟩ : ∃ z, DataW.trod enc Tryd.prog w base spare held n 9 ((List.drop 2 [c0, c1, c2]).take (Tryd.prog.cellsOf 9)) = some z ∧ Snug Tryd.prog 9 z.1 := hf 2 _ rfl
  have d2 : Tryd.prog.cellsOf 9 = 1 := by kernel_rfl
  simp only [d2, List.drop_zero, List.take_succ_cons, List.take_zero, List.drop_succ_cons] at h2
  obtain ⟨x0, ⟨r0, e0, f0⟩, ok0⟩ := open_u8_53 h0 g0
  simp only [C_u8, List.cons.injEq, and_true] at e0
  obtain rfl := e0
  obtain ⟨x1, ⟨r1, e1, f1⟩, ok1⟩ := open_i64_2 h1 g1
  simp only [C_i64, List.cons.injEq, and_true] at e1
  obtain rfl := e1
  obtain ⟨x2, ⟨r2, e2, f2⟩, ok2⟩ := open_str_9 h2 g2
  simp only [C_str, List.cons.injEq, and_true] at e2
  obtain rfl := e2
  exact ⟨⟨x0, x1, x2⟩, ⟨(), rfl, ask_nil⟩, ok0, ok1, ok2⟩
theorem open_i64_3 {H : Type} {enc : TypeId × Value → H} {w : World} {base : Nat} {spare : Nat → Bool} {held : Bool} {fuel : Nat} {cs : List Value} {y : DataW H × List MemPlace} (h : DataW.trod enc Tryd.prog w base spare held fuel 3 cs = some y) (hw : Snug Tryd.prog 3 y.1) : ∃ x : Int, R_i64.p (fun k => k < w.heap.size) w cs x ∧ inK .i64 x := by
  obtain ⟨x, e, _, ok⟩ := DataW.trod_int Tryd.underlying3 h
  exact ⟨x, ⟨(), e, ask_nil⟩, wf_inK ok⟩
theorem open_Ropewalklaw11_DoD_28 {H : Type} {enc : TypeId × Value → H} {w : World} {base : Nat} {spare : Nat → Bool} {held : Bool} {fuel : Nat} {cs : List Value} {y : DataW H × List MemPlace} (h : DataW.trod enc Tryd.prog w base spare held fuel 28 cs = some y) (hw : Snug Tryd.prog 28 y.1) : ∃ x : Ropewalklaw11_DoD, R_Ropewalklaw11_DoD.p (fun k => k < w.heap.size) w cs x ∧ ok_Ropewalklaw11_DoD x := by

  obtain ⟨n, hl, hf⟩ := trod_fields Tryd.underlying28 h hw
  have c : Tryd.prog.cellsOf 28 = 4 := by kernel_rfl
  rw [c] at hl
  match cs, hl with
  | [c0, c1, c2, c3], _ =>
  obtain ⟨z0, h0, g0⟩ : ∃ z, DataW.trod enc Tryd.prog w base spare held n 3 ((List.drop 0 [c0, c1, c2, c3]).take (Tryd.prog.cellsOf 3)) = some z ∧ Snug Tryd.prog 3 z.1 := hf 0 _ rfl
  have d0 : Tryd.prog.cellsOf 3 = 1 := by kernel_rfl
  simp only [d0, List.drop_zero, List.take_succ_cons, List.take_zero, List.drop_succ_cons] at h0
  obtain ⟨z1, h1, g1⟩ : ∃ z, DataW.trod enc Tryd.prog w base spare held n 3 ((List.drop 1 [c0, c1, c2, c3]).take (Tryd.prog.cellsOf 3)) = some z ∧ Snug Tryd.prog 3 z.1 := hf 1 _ rfl
  have d1 : Tryd.prog.cellsOf 3 = 1 := by kernel_rfl
  simp only [d1, List.drop_zero, List.take_succ_cons, List.take_zero, List.drop_succ_cons] at h1
  obtain ⟨z2, h2, g2⟩ : ∃ z, DataW.trod enc Tryd.prog w base spare held n 3 ((List.drop 2 [c0, c1, c2, c3]).take (Tryd.prog.cellsOf 3)) = some z ∧ Snug Tryd.prog 3 z.1 := hf 2 _ rfl
  have d2 : Tryd.prog.cellsOf 3 = 1 := by kernel_rfl
  simp only [d2, List.drop_zero, List.take_succ_cons, List.take_zero, List.drop_succ_cons] at h2
  obtain ⟨z3, h3, g3⟩ : ∃ z, DataW.trod enc Tryd.prog w base spare held n 26 ((List.drop 3 [c0, c1, c2, c3]).take (Tryd.prog.cellsOf 26)) = some z ∧ Snug Tryd.prog 26 z.1 := hf 3 _ rfl
  have d3 : Tryd.prog.cellsOf 26 = 1 := by kernel_rfl
  simp only [d3, List.drop_zero, List.take_succ_cons, List.take_zero, List.drop_succ_cons] at h3
  obtain ⟨x0, ⟨r0, e0, f0⟩, ok0⟩ := open_i64_3 h0 g0
  simp only [C_i64, List.cons.injEq, and_true] at e0
  obtain rfl := e0
  obtain ⟨x1, ⟨r1, e1, f1⟩, ok1⟩ := open_i64_3 h1 g1
  simp only [C_i64, List.cons.injEq, and_true] at e1
  obtain rfl := e1
  obtain ⟨x2, ⟨r2, e2, f2⟩, ok2⟩ := open_i64_3 h2 g2
  simp only [C_i64, List.cons.injEq, and_true] at e2
  obtain rfl := e2
  obtain ⟨p3, k3, x3, e3, f3, ok3⟩ := open_listA Tryd.underlying26 (sz := 3) (R := R_V) (q := fun y => ok_V y) (by kernel_rfl) (by decide) (fun _ _ _ h hw => open_V_55 h hw) h3 g3
  replace ok3 := And.intro (le_of_bytes (m := 4398046510976) ok3.1 (by kernel_rfl : Tryd.prog.bytesOf 55 = 32) (by decide) (by decide) (by decide)) ok3.2
  simp only [List.cons.injEq, and_true] at e3
  subst e3
  exact ⟨⟨x0, x1, x2, x3⟩, ⟨(p3, k3), rfl, (ask_cons f3 ask_nil)⟩, ok0, ok1, ok2, ok3⟩
theorem law_own : ownKnob Tryd.prog.godebug = none := by kernel_rfl
theorem law_laid : laidOutB Tryd.prog = true := by kernel_rfl
def pinCells : Array Value := match Go.Pinned.utf8First with
  | .agg l => (l.map fun d => match d with | .lit (.int k n) => Value.int k n | _ => .bool false).toArray
  | _ => #[]
/-- The heap that the door leaves, the pinned table in its place. -/
noncomputable def pinW (os : Os) : World := { World.doorLaid Tryd.prog 4000 os with heap := match Tryd.prog.globalNamed "unicode/utf8.first" with
  | some g => match (((begin Tryd.prog (fun _ _ => 0) default).world.heap[g]?).bind Obj.row?) with
    | some (_, t) => (World.doorLaid Tryd.prog 4000 os).heap.setIfInBounds g (.cells pinCells t (0, 0))
    | none => #[]
  | none => #[] }
theorem door_met (os : Os) (args : Array Value) : laidMetH Tryd.prog Rows.memoryKeepsRow.laid ((pinW os).forCall (fun _ _ => 0) ⟨#[], args, []⟩).memory :=
  laidMetH_of_parts3 (fuel := 8) (laidMet_of_run' 8 (by kernel_rfl) (by kernel_rfl)) (by kernel_rfl) (by kernel_rfl)
set_option maxRecDepth 100000 in
theorem memoryKeeps_lifted (os : Os) (started : os.Started) (H : Type) (enc : TypeId × Value → H) :
    ReturnsInHanded {} Tryd.checked os 4 .any (fun w args => (Rows.memoryKeepsSpec.pre enc Tryd.prog Tryd.f4 [] false w args ∧ laidMetH Tryd.prog Rows.memoryKeepsRow.laid w) ∧ sizedMet enc Tryd.prog Tryd.f4 (OpenSpec.ofChange Rows.memoryKeepsSpec) false w args)
      (Rows.memoryKeepsSpec.post enc Tryd.prog Tryd.f4 false true false false) := by
  refine returnsInHanded_of_change_and (C := Tryd.checked) (X := fun w _ => laidMetH Tryd.prog Rows.memoryKeepsRow.laid w) (fun _ _ _ hh h => h.of_heap hh) law_own started (by kernel_rfl) Tryd.func4
    (ChangeSpec.witness_shaped (enc := enc) (C := Tryd.checked) (os := os) (X := fun w _ => laidMetH Tryd.prog Rows.memoryKeepsRow.laid w) false (pinW os) #[.slice none 0 0] 8 rfl (World.shaped_of_RefB (by kernel_rfl) (by kernel_rfl)) (by kernel_rfl) (by kernel_rfl) (by kernel_rfl) (door_met os _)) ?_
  intro W base args ds gs before hval0 hW hcnd hsz0 _ _
  have hval : ∀ (j : Nat) t v, Tryd.f4.params[j]? = some t → args[j]? = some v → Value.okWide Tryd.prog W .any base t v := hval0
  have hW' := hW
  obtain ⟨p, q, hA0, hV, rfl, hfz, hnd⟩ := hW
  have hA : DataW.TrodAll enc Tryd.prog W 0 (fun _ => true) true Tryd.f4.params.toList args.toList ds p := hA0
  have hsz : (DataW.weightsEach Tryd.prog (Tryd.f4.params.toList ++ _) (ds ++ gs)).all (· ≤ reachBytes) = true := hsz0
  rw [Tryd.params4] at hA hval hsz
  clear hA0 hval0 hsz0
  obtain ⟨args⟩ := args
  obtain ⟨v0, r0, d0, s0, p0, q0, e0, rfl, rfl, ⟨n0, h0⟩, hA⟩ := trodAll_cons hA
  obtain ⟨e1, rfl, rfl⟩ := trodAll_nil hA
  subst e1
  simp only at e0
  subst e0
  obtain ⟨rfl, rfl⟩ := trodVars_none hV
  rw [okWide_sl Tryd.underlying22 (hval 0 _ v0 rfl rfl)] at h0
  obtain ⟨pa0, ca0, x0, e, hs0, ok0⟩ := open_listA Tryd.underlying22 (sz := 4) (R := R_Ropewalklaw11_DoD) (q := fun y => ok_Ropewalklaw11_DoD y) (by kernel_rfl) (by decide) (fun _ _ _ h hw => open_Ropewalklaw11_DoD_28 h hw) h0 (fits_arg hsz 0 rfl rfl)
  replace ok0 := And.intro (Nat.le_trans (le_of_bytes (m := 2932031007317) ok0.1 (by kernel_rfl : Tryd.prog.bytesOf 28 = 48) (by decide) (by decide) (by decide)) (by decide : 2932031007317 ≤ 140737488351232)) ok0.2
  simp only [List.cons.injEq, and_true] at e
  subst e
  have hcall := spec_calls (w_ropewalklaw11_MemoryKeeps_s 9223372036854775808 pa0 ca0 x0 _ (memkeep_arg x0 ok0)) (w := W) (ask_cons hs0 ask_nil)
  refine hcall.mono fun e W' ⟨he, hm⟩ => ?_
  subst he
  have hb : Below W.heap.size W W' := hm.to_below (Nat.le_refl _) (fun _ h => h.elim)
  refine ⟨_, rfl, law_post law_laid ?_ rfl Tryd.underlying4 rfl hW' rfl rfl rfl hb⟩
  rw [Tryd.params4]
  intro t ht
  simp only [List.mem_cons, List.not_mem_nil, or_false] at ht
  subst ht; exact ⟨by kernel_rfl, of_decide_eq_true (by kernel_rfl)⟩
theorem memoryKeeps_row : Rows.MemoryKeepsSaid :=
  OpenClaim.holds_of_wide 4 Tryd.f4 rfl rfl rfl rfl rfl rfl rfl ⟨rfl, rfl, rfl, rfl, rfl⟩ rfl rfl rfl rfl rfl (by kernel_rfl) Tryd.func4 (by kernel_rfl)
    (of_decide_eq_true (by kernel_rfl)) (by unfold Func.isWrapper; first | (rw [if_pos (by decide +kernel)]; kernel_rfl) | (rw [if_neg (by decide +kernel)]; exact ⟨rfl, rfl⟩))
    (fun os started H enc _ => memoryKeeps_lifted os started H enc)
theorem memory_keeps : Rows.MemoryKeepsCardSaid :=
  Claim7.holds_tied_plain_at .later [] [.data, .pinned] true (true, "7b8cca6de2ee16aead80e841fc8e536dbeaf184e13ea1be73a57318b43024b62") false
    memoryKeeps_row (fun _ h => by cases h) (by kernel_rfl) (fun _ h => by cases h) memoryKeeps_row_tie rfl ⟨rfl, rfl⟩ (by kernel_rfl) rfl
    (fun f fn hf hfn => by
      obtain rfl : f = 4 := Option.some.inj ((show Tryd.prog.funcNamed "ropewalk/ropewalklaw11.MemoryKeeps" = some 4 by kernel_rfl).symm.trans hf) |>.symm
      obtain rfl : fn = Tryd.f4 := (Option.some.inj (Tryd.func4.symm.trans hfn)).symm
      exact ⟨by kernel_rfl, fun j t ht => by
        rw [Tryd.params4] at ht
        have hm : t ∈ [22] := by simpa using Array.mem_of_getElem? ht
        have hall : ([22].all fun u => !Tryd.prog.wantsStandIn u) = true := by kernel_rfl
        exact (show Tryd.prog.wantsStandIn t = false by simpa using List.all_eq_true.1 hall t hm)⟩)
    (by kernel_rfl)
#print axioms memory_keeps
end Go.Proofs.YtdnolbmbmncefaaDoor
