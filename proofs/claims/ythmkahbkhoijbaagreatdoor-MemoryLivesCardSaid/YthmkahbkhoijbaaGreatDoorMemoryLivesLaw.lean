import Derived.Test.YthmkahbkhoijbaaGreatDoorRows
import Derived.Test.YthmkahbkhoijbaaGreatDoorCards
import Derived.Test.YthmkahbkhoijbaaGreatDoorTie
import Derived.Test.YthmkahbkhoijbaaGreatDoorXW1
import Derived.Test.YthmkahbkhoijbaaGreatDoorXW2
import Derived.Test.YthmkahbkhoijbaaGreatDoorXW3
import Derived.Test.YthmkahbkhoijbaaGreatDoorXW4
import Derived.Test.YthmkahbkhoijbaaGreatDoorXW5
import Derived.Test.YthmkahbkhoijbaaGreatDoorMemLivesA
import Derived.Test.YthmkahbkhoijbaaGreatDoorLawG
import Derived.Test.YthmkahbkhoijbaaGreatDoorOpenA
import Derived.ProofKit
import Derived.LaidMore
import Derived.OpenShut
import Derived.Stop.Joined
import Derived.SevenTiedAt
namespace Go.Proofs.YthmkahbkhoijbaaGreatDoor
open Go.ChangeShapes Go.WideShapes Go.ChangeAt Go.RowKit Go.Deep
set_option maxRecDepth 100000 in
theorem open_i64_3 {H : Type} {enc : TypeId × Value → H} {w : World} {base : Nat} {spare : Nat → Bool} {held : Bool} {fuel : Nat} {cs : List Value} {y : DataW H × List MemPlace} (h : DataW.trod enc Tryz.prog w base spare held fuel 3 cs = some y) (hw : Snug Tryz.prog 3 y.1) : ∃ x : Int, R_i64.p (fun k => k < w.heap.size) w cs x ∧ inK .i64 x := by
  obtain ⟨x, e, _, ok⟩ := DataW.trod_int Tryz.underlying3 h
  exact ⟨x, ⟨(), e, ask_nil⟩, wf_inK ok⟩
set_option maxRecDepth 100000 in
theorem open_u8_49 {H : Type} {enc : TypeId × Value → H} {w : World} {base : Nat} {spare : Nat → Bool} {held : Bool} {fuel : Nat} {cs : List Value} {y : DataW H × List MemPlace} (h : DataW.trod enc Tryz.prog w base spare held fuel 49 cs = some y) (hw : Snug Tryz.prog 49 y.1) : ∃ x : Int, R_u8.p (fun k => k < w.heap.size) w cs x ∧ inK .u8 x := by
  obtain ⟨x, e, _, ok⟩ := DataW.trod_int Tryz.underlying49 h
  exact ⟨x, ⟨(), e, ask_nil⟩, wf_inK ok⟩
set_option maxRecDepth 100000 in
theorem open_i64_2 {H : Type} {enc : TypeId × Value → H} {w : World} {base : Nat} {spare : Nat → Bool} {held : Bool} {fuel : Nat} {cs : List Value} {y : DataW H × List MemPlace} (h : DataW.trod enc Tryz.prog w base spare held fuel 2 cs = some y) (hw : Snug Tryz.prog 2 y.1) : ∃ x : Int, R_i64.p (fun k => k < w.heap.size) w cs x ∧ inK .i64 x := by
  obtain ⟨x, e, _, ok⟩ := DataW.trod_int Tryz.underlying2 h
  exact ⟨x, ⟨(), e, ask_nil⟩, wf_inK ok⟩
set_option maxRecDepth 100000 in
theorem open_str_9 {H : Type} {enc : TypeId × Value → H} {w : World} {base : Nat} {spare : Nat → Bool} {held : Bool} {fuel : Nat} {cs : List Value} {y : DataW H × List MemPlace} (h : DataW.trod enc Tryz.prog w base spare held fuel 9 cs = some y) (hw : Snug Tryz.prog 9 y.1) : ∃ x : ByteArray, R_str.p (fun k => k < w.heap.size) w cs x ∧ x.size ≤ 140737488351232 := by
  obtain ⟨x, e, e2, ok⟩ := DataW.trod_string Tryz.underlying9 h
  subst e2
  exact ⟨x, ⟨(), e, ask_nil⟩, fits_str hw⟩
set_option maxRecDepth 100000 in
theorem open_V_51 {H : Type} {enc : TypeId × Value → H} {w : World} {base : Nat} {spare : Nat → Bool} {held : Bool} {fuel : Nat} {cs : List Value} {y : DataW H × List MemPlace} (h : DataW.trod enc Tryz.prog w base spare held fuel 51 cs = some y) (hw : Snug Tryz.prog 51 y.1) : ∃ x : V, R_V.p (fun k => k < w.heap.size) w cs x ∧ ok_V x := by
  obtain ⟨n, hl, hf⟩ := trod_fields Tryz.underlying51 h hw
  have c : Tryz.prog.cellsOf 51 = 3 := by kernel_rfl
  rw [c] at hl
  match cs, hl with
  | [c0, c1, c2], _ =>
  obtain ⟨z0, h0, g0⟩ : ∃ z, DataW.trod enc Tryz.prog w base spare held n 49 ((List.drop 0 [c0, c1, c2]).take (Tryz.prog.cellsOf 49)) = some z ∧ Snug Tryz.prog 49 z.1 := hf 0 _ rfl
  have d0 : Tryz.prog.cellsOf 49 = 1 := by kernel_rfl
  simp only [d0, List.drop_zero, List.take_succ_cons, List.take_zero, List.drop_succ_cons] at h0
  obtain ⟨z1, h1, g1⟩ : ∃ z, DataW.trod enc Tryz.prog w base spare held n 2 ((List.drop 1 [c0, c1, c2]).take (Tryz.prog.cellsOf 2)) = some z ∧ Snug Tryz.prog 2 z.1 := hf 1 _ rfl
  have d1 : Tryz.prog.cellsOf 2 = 1 := by kernel_rfl
  simp only [d1, List.drop_zero, List.take_succ_cons, List.take_zero, List.drop_succ_cons] at h1
  obtain ⟨z2, h2, g2⟩ : ∃ z, DataW.trod enc Tryz.prog w base spare held n 9 ((List.drop 2 [c0, c1, c2]).take (Tryz.prog.cellsOf 9)) = some z ∧ Snug Tryz.prog 9 z.1 := hf 2 _ rfl
  have d2 : Tryz.prog.cellsOf 9 = 1 := by kernel_rfl
  simp only [d2, List.drop_zero, List.take_succ_cons, List.take_zero, List.drop_succ_cons] at h2
  obtain ⟨x0, ⟨r0, e0, f0⟩, ok0⟩ := open_u8_49 h0 g0
  simp only [C_u8, List.cons.injEq, and_true] at e0
  obtain rfl := e0
  obtain ⟨x1, ⟨r1, e1, f1⟩, ok1⟩ := open_i64_2 h1 g1
  simp only [C_i64, List.cons.injEq, and_true] at e1
  obtain rfl := e1
  obtain ⟨x2, ⟨r2, e2, f2⟩, ok2⟩ := open_str_9 h2 g2
  simp only [C_str, List.cons.injEq, and_true] at e2
  obtain rfl := e2
  exact ⟨⟨x0, x1, x2⟩, ⟨(), rfl, ask_nil⟩, ok0, ok1, ok2⟩
set_option maxRecDepth 100000 in
theorem open_FactD_27 {H : Type} {enc : TypeId × Value → H} {w : World} {base : Nat} {spare : Nat → Bool} {held : Bool} {fuel : Nat} {cs : List Value} {y : DataW H × List MemPlace} (h : DataW.trod enc Tryz.prog w base spare held fuel 27 cs = some y) (hw : Snug Tryz.prog 27 y.1) : ∃ x : FactD, R_FactD.p (fun k => k < w.heap.size) w cs x ∧ ok_FactD x := by
  obtain ⟨n, hl, hf⟩ := trod_fields Tryz.underlying27 h hw
  have c : Tryz.prog.cellsOf 27 = 3 := by kernel_rfl
  rw [c] at hl
  match cs, hl with
  | [c0, c1, c2], _ =>
  obtain ⟨z0, h0, g0⟩ : ∃ z, DataW.trod enc Tryz.prog w base spare held n 3 ((List.drop 0 [c0, c1, c2]).take (Tryz.prog.cellsOf 3)) = some z ∧ Snug Tryz.prog 3 z.1 := hf 0 _ rfl
  have d0 : Tryz.prog.cellsOf 3 = 1 := by kernel_rfl
  simp only [d0, List.drop_zero, List.take_succ_cons, List.take_zero, List.drop_succ_cons] at h0
  obtain ⟨z1, h1, g1⟩ : ∃ z, DataW.trod enc Tryz.prog w base spare held n 3 ((List.drop 1 [c0, c1, c2]).take (Tryz.prog.cellsOf 3)) = some z ∧ Snug Tryz.prog 3 z.1 := hf 1 _ rfl
  have d1 : Tryz.prog.cellsOf 3 = 1 := by kernel_rfl
  simp only [d1, List.drop_zero, List.take_succ_cons, List.take_zero, List.drop_succ_cons] at h1
  obtain ⟨z2, h2, g2⟩ : ∃ z, DataW.trod enc Tryz.prog w base spare held n 25 ((List.drop 2 [c0, c1, c2]).take (Tryz.prog.cellsOf 25)) = some z ∧ Snug Tryz.prog 25 z.1 := hf 2 _ rfl
  have d2 : Tryz.prog.cellsOf 25 = 1 := by kernel_rfl
  simp only [d2, List.drop_zero, List.take_succ_cons, List.take_zero, List.drop_succ_cons] at h2
  obtain ⟨x0, ⟨r0, e0, f0⟩, ok0⟩ := open_i64_3 h0 g0
  simp only [C_i64, List.cons.injEq, and_true] at e0
  obtain rfl := e0
  obtain ⟨x1, ⟨r1, e1, f1⟩, ok1⟩ := open_i64_3 h1 g1
  simp only [C_i64, List.cons.injEq, and_true] at e1
  obtain rfl := e1
  obtain ⟨p2, k2, x2, e2, f2, ok2⟩ := open_listA Tryz.underlying25 (sz := 3) (R := R_V) (q := fun y => ok_V y) (by kernel_rfl) (by decide) (fun _ _ _ h hw => open_V_51 h hw) h2 g2
  replace ok2 := And.intro (le_of_bytes (m := 4398046510976) ok2.1 (by kernel_rfl : Tryz.prog.bytesOf 51 = 32) (by decide) (by decide) (by decide)) ok2.2
  simp only [List.cons.injEq, and_true] at e2
  subst e2
  exact ⟨⟨x0, x1, x2⟩, ⟨(p2, k2), rfl, (ask_cons f2 ask_nil)⟩, ok0, ok1, ok2⟩
set_option maxRecDepth 100000 in
theorem open_bool_4 {H : Type} {enc : TypeId × Value → H} {w : World} {base : Nat} {spare : Nat → Bool} {held : Bool} {fuel : Nat} {cs : List Value} {y : DataW H × List MemPlace} (h : DataW.trod enc Tryz.prog w base spare held fuel 4 cs = some y) (hw : Snug Tryz.prog 4 y.1) : ∃ x : Bool, R_bool.p (fun k => k < w.heap.size) w cs x ∧ True := by
  obtain ⟨x, e, _⟩ := DataW.trod_bool Tryz.underlying4 h
  exact ⟨x, ⟨(), e, ask_nil⟩, trivial⟩
set_option maxRecDepth 100000 in
theorem open_Ropewalklaw11_DoD_41 {H : Type} {enc : TypeId × Value → H} {w : World} {base : Nat} {spare : Nat → Bool} {held : Bool} {fuel : Nat} {cs : List Value} {y : DataW H × List MemPlace} (h : DataW.trod enc Tryz.prog w base spare held fuel 41 cs = some y) (hw : Snug Tryz.prog 41 y.1) : ∃ x : Ropewalklaw11_DoD, R_Ropewalklaw11_DoD.p (fun k => k < w.heap.size) w cs x ∧ ok_Ropewalklaw11_DoD x := by
  obtain ⟨n, hl, hf⟩ := trod_fields Tryz.underlying41 h hw
  have c : Tryz.prog.cellsOf 41 = 4 := by kernel_rfl
  rw [c] at hl
  match cs, hl with
  | [c0, c1, c2, c3], _ =>
  obtain ⟨z0, h0, g0⟩ : ∃ z, DataW.trod enc Tryz.prog w base spare held n 3 ((List.drop 0 [c0, c1, c2, c3]).take (Tryz.prog.cellsOf 3)) = some z ∧ Snug Tryz.prog 3 z.1 := hf 0 _ rfl
  have d0 : Tryz.prog.cellsOf 3 = 1 := by kernel_rfl
  simp only [d0, List.drop_zero, List.take_succ_cons, List.take_zero, List.drop_succ_cons] at h0
  obtain ⟨z1, h1, g1⟩ : ∃ z, DataW.trod enc Tryz.prog w base spare held n 3 ((List.drop 1 [c0, c1, c2, c3]).take (Tryz.prog.cellsOf 3)) = some z ∧ Snug Tryz.prog 3 z.1 := hf 1 _ rfl
  have d1 : Tryz.prog.cellsOf 3 = 1 := by kernel_rfl
  simp only [d1, List.drop_zero, List.take_succ_cons, List.take_zero, List.drop_succ_cons] at h1
  obtain ⟨z2, h2, g2⟩ : ∃ z, DataW.trod enc Tryz.prog w base spare held n 3 ((List.drop 2 [c0, c1, c2, c3]).take (Tryz.prog.cellsOf 3)) = some z ∧ Snug Tryz.prog 3 z.1 := hf 2 _ rfl
  have d2 : Tryz.prog.cellsOf 3 = 1 := by kernel_rfl
  simp only [d2, List.drop_zero, List.take_succ_cons, List.take_zero, List.drop_succ_cons] at h2
  obtain ⟨z3, h3, g3⟩ : ∃ z, DataW.trod enc Tryz.prog w base spare held n 25 ((List.drop 3 [c0, c1, c2, c3]).take (Tryz.prog.cellsOf 25)) = some z ∧ Snug Tryz.prog 25 z.1 := hf 3 _ rfl
  have d3 : Tryz.prog.cellsOf 25 = 1 := by kernel_rfl
  simp only [d3, List.drop_zero, List.take_succ_cons, List.take_zero, List.drop_succ_cons] at h3
  obtain ⟨x0, ⟨r0, e0, f0⟩, ok0⟩ := open_i64_3 h0 g0
  simp only [C_i64, List.cons.injEq, and_true] at e0
  obtain rfl := e0
  obtain ⟨x1, ⟨r1, e1, f1⟩, ok1⟩ := open_i64_3 h1 g1
  simp only [C_i64, List.cons.injEq, and_true] at e1
  obtain rfl := e1
  obtain ⟨x2, ⟨r2, e2, f2⟩, ok2⟩ := open_i64_3 h2 g2
  simp only [C_i64, List.cons.injEq, and_true] at e2
  obtain rfl := e2
  obtain ⟨p3, k3, x3, e3, f3, ok3⟩ := open_listA Tryz.underlying25 (sz := 3) (R := R_V) (q := fun y => ok_V y) (by kernel_rfl) (by decide) (fun _ _ _ h hw => open_V_51 h hw) h3 g3
  replace ok3 := And.intro (le_of_bytes (m := 4398046510976) ok3.1 (by kernel_rfl : Tryz.prog.bytesOf 51 = 32) (by decide) (by decide) (by decide)) ok3.2
  simp only [List.cons.injEq, and_true] at e3
  subst e3
  exact ⟨⟨x0, x1, x2, x3⟩, ⟨(p3, k3), rfl, (ask_cons f3 ask_nil)⟩, ok0, ok1, ok2, ok3⟩
theorem law_own : ownKnob Tryz.prog.godebug = none := by kernel_rfl
theorem law_laid : laidOutB Tryz.prog = true := by kernel_rfl
def pinCells : Array Value := match Go.Pinned.utf8First with
  | .agg l => (l.map fun d => match d with | .lit (.int k n) => Value.int k n | _ => .bool false).toArray
  | _ => #[]
noncomputable def pinW (os : Os) : World := { World.doorLaid Tryz.prog 4000 os with heap := match Tryz.prog.globalNamed "unicode/utf8.first" with
  | some g => match (((begin Tryz.prog (fun _ _ => 0) default).world.heap[g]?).bind Obj.row?) with
    | some (_, t) => (World.doorLaid Tryz.prog 4000 os).heap.setIfInBounds g (.cells pinCells t (0, 0))
    | none => #[]
  | none => #[] }
theorem door_met (os : Os) (args : Array Value) : laidMetH Tryz.prog Rows.memoryLivesRow.laid ((pinW os).forCall (fun _ _ => 0) ⟨#[], args, []⟩).memory :=
  laidMetH_of_parts3 (fuel := 8) (laidMet_of_run' 8 (by kernel_rfl) (by kernel_rfl)) (by kernel_rfl) (by kernel_rfl)
set_option maxRecDepth 100000 in
theorem memoryLives_lifted (os : Os) (started : os.Started) (H : Type) (enc : TypeId × Value → H) :
    ReturnsInHanded {} Tryz.checked os 3 .any (fun w args => (Rows.memoryLivesSpec.pre enc Tryz.prog Tryz.f3 [] false w args ∧ laidMetH Tryz.prog Rows.memoryLivesRow.laid w) ∧ sizedMet enc Tryz.prog Tryz.f3 (OpenSpec.ofChange Rows.memoryLivesSpec) false w args)
      (Rows.memoryLivesSpec.post enc Tryz.prog Tryz.f3 false true false false) := by
  refine returnsInHanded_of_change_and (C := Tryz.checked) (X := fun w _ => laidMetH Tryz.prog Rows.memoryLivesRow.laid w) (fun _ _ _ hh h => h.of_heap hh) law_own started (by kernel_rfl) Tryz.func3
    (ChangeSpec.witness_shaped (enc := enc) (C := Tryz.checked) (os := os) (X := fun w _ => laidMetH Tryz.prog Rows.memoryLivesRow.laid w) false (pinW os) #[.int .i64 0, .slice none 0 0, .bool false, .slice none 0 0] 8 rfl (World.shaped_of_RefB (by kernel_rfl) (by kernel_rfl)) (by kernel_rfl) (by kernel_rfl) (by kernel_rfl) (door_met os _)) ?_
  intro W base args ds gs before hval0 hW hcnd hsz0 _ _
  have hval : ∀ (j : Nat) t v, Tryz.f3.params[j]? = some t → args[j]? = some v → Value.okWide Tryz.prog W .any base t v := hval0
  have hW' := hW
  obtain ⟨p, q, hA0, hV, rfl, hfz, hnd⟩ := hW
  have hA : DataW.TrodAll enc Tryz.prog W 0 (fun _ => true) true Tryz.f3.params.toList args.toList ds p := hA0
  have hsz : (DataW.weightsEach Tryz.prog (Tryz.f3.params.toList ++ _) (ds ++ gs)).all (· ≤ reachBytes) = true := hsz0
  rw [Tryz.params3] at hA hval hsz
  clear hA0 hval0 hsz0
  obtain ⟨args⟩ := args
  obtain ⟨v0, r0, d0, s0, p0, q0, e0, rfl, rfl, ⟨n0, h0⟩, hA⟩ := trodAll_cons hA
  obtain ⟨v1, r1, d1, s1, p1, q1, e1, rfl, rfl, ⟨n1, h1⟩, hA⟩ := trodAll_cons hA
  obtain ⟨v2, r2, d2, s2, p2, q2, e2, rfl, rfl, ⟨n2, h2⟩, hA⟩ := trodAll_cons hA
  obtain ⟨v3, r3, d3, s3, p3, q3, e3, rfl, rfl, ⟨n3, h3⟩, hA⟩ := trodAll_cons hA
  obtain ⟨e4, rfl, rfl⟩ := trodAll_nil hA
  subst e4; subst e3; subst e2; subst e1
  simp only at e0
  subst e0
  obtain ⟨rfl, rfl⟩ := trodVars_none hV
  rw [okWide_one Tryz.underlying3 (hval 0 _ v0 rfl rfl)] at h0
  obtain ⟨x0, ⟨r0, e, f0⟩, ok0⟩ := open_i64_3 h0 (fits_arg hsz 0 rfl rfl)
  simp only [C_i64, List.cons.injEq, and_true] at e
  subst e
  rw [okWide_sl Tryz.underlying22 (hval 1 _ v1 rfl rfl)] at h1
  obtain ⟨pa1, ca1, x1, e, hs1, ok1⟩ := open_listA Tryz.underlying22 (sz := 3) (R := R_FactD) (q := fun y => ok_FactD y) (by kernel_rfl) (by decide) (fun _ _ _ h hw => open_FactD_27 h hw) h1 (fits_arg hsz 1 rfl rfl)
  replace ok1 := And.intro (Nat.le_trans (le_of_bytes (m := 3518437208780) ok1.1 (by kernel_rfl : Tryz.prog.bytesOf 27 = 40) (by decide) (by decide) (by decide)) (by decide : 3518437208780 ≤ 140737488351232)) ok1.2
  simp only [List.cons.injEq, and_true] at e
  subst e
  rw [okWide_bool Tryz.underlying4 (hval 2 _ v2 rfl rfl)] at h2
  obtain ⟨x2, ⟨r2, e, f2⟩, ok2⟩ := open_bool_4 h2 (fits_arg hsz 2 rfl rfl)
  simp only [C_bool, List.cons.injEq, and_true] at e
  subst e
  rw [okWide_sl Tryz.underlying23 (hval 3 _ v3 rfl rfl)] at h3
  obtain ⟨pa3, ca3, x3, e, hs3, ok3⟩ := open_listA Tryz.underlying23 (sz := 4) (R := R_Ropewalklaw11_DoD) (q := fun y => ok_Ropewalklaw11_DoD y) (by kernel_rfl) (by decide) (fun _ _ _ h hw => open_Ropewalklaw11_DoD_41 h hw) h3 (fits_arg hsz 3 rfl rfl)
  replace ok3 := And.intro (Nat.le_trans (le_of_bytes (m := 2932031007317) ok3.1 (by kernel_rfl : Tryz.prog.bytesOf 41 = 48) (by decide) (by decide) (by decide)) (by decide : 2932031007317 ≤ 140737488351232)) ok3.2
  simp only [List.cons.injEq, and_true] at e
  subst e
  have hcall := spec_calls (w_ropewalklaw11_MemoryLives_s 9223372036854775808 x0 pa1 ca1 x1 x2 pa3 ca3 x3 _ (memlives_arg x0 ok0 x1 ok1 x2 ok2 x3 ok3)) (w := W) (ask_cons hs1 (ask_cons hs3 ask_nil))
  refine hcall.mono fun e W' ⟨he, hm⟩ => ?_
  subst he
  have hb : Below W.heap.size W W' := hm.to_below (Nat.le_refl _) (fun _ h => h.elim)
  refine ⟨_, rfl, law_post law_laid ?_ rfl Tryz.underlying4 rfl hW' rfl rfl rfl hb⟩
  rw [Tryz.params3]
  intro t ht
  simp only [List.mem_cons, List.not_mem_nil, or_false] at ht
  rcases ht with rfl | rfl | rfl | rfl <;> exact ⟨by kernel_rfl, of_decide_eq_true (by kernel_rfl)⟩
theorem memoryLives_row : Rows.MemoryLivesSaid :=
  OpenClaim.holds_of_wide 3 Tryz.f3 rfl rfl rfl rfl rfl rfl rfl ⟨rfl, rfl, rfl, rfl, rfl⟩ rfl rfl rfl rfl rfl (by kernel_rfl) Tryz.func3 (by kernel_rfl)
    (of_decide_eq_true (by kernel_rfl)) (by unfold Func.isWrapper; first | (rw [if_pos (by decide +kernel)]; kernel_rfl) | (rw [if_neg (by decide +kernel)]; exact ⟨rfl, rfl⟩))
    (fun os started H enc _ => memoryLives_lifted os started H enc)
theorem memory_lives : Rows.MemoryLivesCardSaid :=
  Claim7.holds_tied_plain_at .later [] [.data, .pinned] true (true, "80a507464c51df976735a9b44ac335e0534b2a856f35aecd9ad8c8579fc9490a") false
    memoryLives_row (fun _ h => by cases h) (by kernel_rfl) (fun _ h => by cases h) memoryLives_row_tie rfl ⟨rfl, rfl⟩ (by kernel_rfl) rfl
    (fun f fn hf hfn => by
      obtain rfl : f = 3 := Option.some.inj ((show Tryz.prog.funcNamed "ropewalk/ropewalklaw11.MemoryLives" = some 3 by kernel_rfl).symm.trans hf) |>.symm
      obtain rfl : fn = Tryz.f3 := (Option.some.inj (Tryz.func3.symm.trans hfn)).symm
      exact ⟨by kernel_rfl, fun j t ht => by
        rw [Tryz.params3] at ht
        have hm : t ∈ [3, 22, 4, 23] := by simpa using Array.mem_of_getElem? ht
        have hall : ([3, 22, 4, 23].all fun u => !Tryz.prog.wantsStandIn u) = true := by kernel_rfl
        exact (show Tryz.prog.wantsStandIn t = false by simpa using List.all_eq_true.1 hall t hm)⟩)
    (by kernel_rfl)
#print axioms memory_lives
end Go.Proofs.YthmkahbkhoijbaaGreatDoor
