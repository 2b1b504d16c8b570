import Derived.Test.YtighbinghbnjhaaGreatRows
import Derived.Test.YtighbinghbnjhaaGreatXW1
import Derived.Test.YtighbinghbnjhaaGreatXW2
import Derived.Test.YtighbinghbnjhaaGreatXW3
import Derived.Test.YtighbinghbnjhaaGreatXW4
import Derived.Test.YtighbinghbnjhaaGreatXW5
import Derived.Test.YtighbinghbnjhaaGreatXW6
import Derived.Test.YtighbinghbnjhaaGreatSesLivesP
import Derived.Test.YtighbinghbnjhaaGreatLawG
import Derived.Test.YtighbinghbnjhaaGreatOpenA
import Derived.ProofKit
namespace Go.Proofs.YtighbinghbnjhaaGreat
open Go.ChangeShapes Go.WideShapes Go.ChangeAt Go.RowKit Go.Deep
set_option maxRecDepth 100000 in
theorem open_i64_3 {H : Type} {enc : TypeId × Value → H} {w : World} {base : Nat} {spare : Nat → Bool} {held : Bool} {fuel : Nat} {cs : List Value} {y : DataW H × List MemPlace} (h : DataW.trod enc Tryz.prog w base spare held fuel 3 cs = some y) (hw : Snug Tryz.prog 3 y.1) : ∃ x : Int, R_i64.p (fun k => k < w.heap.size) w cs x ∧ inK .i64 x := by
  obtain ⟨x, e, _, ok⟩ := DataW.trod_int Tryz.underlying3 h
  exact ⟨x, ⟨(), e, ask_nil⟩, wf_inK ok⟩
set_option maxRecDepth 100000 in
theorem open_u8_147 {H : Type} {enc : TypeId × Value → H} {w : World} {base : Nat} {spare : Nat → Bool} {held : Bool} {fuel : Nat} {cs : List Value} {y : DataW H × List MemPlace} (h : DataW.trod enc Tryz.prog w base spare held fuel 147 cs = some y) (hw : Snug Tryz.prog 147 y.1) : ∃ x : Int, R_u8.p (fun k => k < w.heap.size) w cs x ∧ inK .u8 x := by
  obtain ⟨x, e, _, ok⟩ := DataW.trod_int Tryz.underlying147 h
  exact ⟨x, ⟨(), e, ask_nil⟩, wf_inK ok⟩
set_option maxRecDepth 100000 in
theorem open_i64_2 {H : Type} {enc : TypeId × Value → H} {w : World} {base : Nat} {spare : Nat → Bool} {held : Bool} {fuel : Nat} {cs : List Value} {y : DataW H × List MemPlace} (h : DataW.trod enc Tryz.prog w base spare held fuel 2 cs = some y) (hw : Snug Tryz.prog 2 y.1) : ∃ x : Int, R_i64.p (fun k => k < w.heap.size) w cs x ∧ inK .i64 x := by
  obtain ⟨x, e, _, ok⟩ := DataW.trod_int Tryz.underlying2 h
  exact ⟨x, ⟨(), e, ask_nil⟩, wf_inK ok⟩
set_option maxRecDepth 100000 in
theorem open_str_9 {H : Type} {enc : TypeId × Value → H} {w : World} {base : Nat} {spare : Nat → Bool} {held : Bool} {fuel : Nat} {cs : List Value} {y : DataW H × List MemPlace} (h : DataW.trod enc Tryz.prog w base spare held fuel 9 cs = some y) (hw : Snug Tryz.prog 9 y.1) : ∃ x : ByteArray, R_str.p (fun k => k < w.heap.size) w cs x ∧ x.size ≤ 140737488351232 := by
  obtain ⟨x, e, e2, ok⟩ := DataW.trod_string Tryz.underlying9 h
  subst e2
  exact ⟨x, ⟨(), e, ask_nil⟩, fits_str hw⟩
set_option maxRecDepth 100000 in
theorem open_V_149 {H : Type} {enc : TypeId × Value → H} {w : World} {base : Nat} {spare : Nat → Bool} {held : Bool} {fuel : Nat} {cs : List Value} {y : DataW H × List MemPlace} (h : DataW.trod enc Tryz.prog w base spare held fuel 149 cs = some y) (hw : Snug Tryz.prog 149 y.1) : ∃ x : V, R_V.p (fun k => k < w.heap.size) w cs x ∧ ok_V x := by
  obtain ⟨n, hl, hf⟩ := trod_fields Tryz.underlying149 h hw
  have c : Tryz.prog.cellsOf 149 = 3 := by kernel_rfl
  rw [c] at hl
  match cs, hl with
  | [c0, c1, c2], _ =>
  obtain ⟨z0, h0, g0⟩ : ∃ z, DataW.trod enc Tryz.prog w base spare held n 147 ((List.drop 0 [c0, c1, c2]).take (Tryz.prog.cellsOf 147)) = some z ∧ Snug Tryz.prog 147 z.1 := hf 0 _ rfl
  have d0 : Tryz.prog.cellsOf 147 = 1 := by kernel_rfl
  simp only [d0, List.drop_zero, List.take_succ_cons, List.take_zero, List.drop_succ_cons] at h0
  obtain ⟨z1, h1, g1⟩ : ∃ z, DataW.trod enc Tryz.prog w base spare held n 2 ((List.drop 1 [c0, c1, c2]).take (Tryz.prog.cellsOf 2)) = some z ∧ Snug Tryz.prog 2 z.1 := hf 1 _ rfl
  have d1 : Tryz.prog.cellsOf 2 = 1 := by kernel_rfl
  simp only [d1, List.drop_zero, List.take_succ_cons, List.take_zero, List.drop_succ_cons] at h1
  obtain ⟨z2, h2, g2⟩ : ∃ z, DataW.trod enc Tryz.prog w base spare held n 9 ((List.drop 2 [c0, c1, c2]).take (Tryz.prog.cellsOf 9)) = some z ∧ Snug Tryz.prog 9 z.1 := hf 2 _ rfl
  have d2 : Tryz.prog.cellsOf 9 = 1 := by kernel_rfl
  simp only [d2, List.drop_zero, List.take_succ_cons, List.take_zero, List.drop_succ_cons] at h2
  obtain ⟨x0, ⟨r0, e0, f0⟩, ok0⟩ := open_u8_147 h0 g0
  simp only [C_u8, List.cons.injEq, and_true] at e0
  obtain rfl := e0
  obtain ⟨x1, ⟨r1, e1, f1⟩, ok1⟩ := open_i64_2 h1 g1
  simp only [C_i64, List.cons.injEq, and_true] at e1
  obtain rfl := e1
  obtain ⟨x2, ⟨r2, e2, f2⟩, ok2⟩ := open_str_9 h2 g2
  simp only [C_str, List.cons.injEq, and_true] at e2
  obtain rfl := e2
  exact ⟨⟨x0, x1, x2⟩, ⟨(), rfl, ask_nil⟩, ok0, ok1, ok2⟩
set_option maxRecDepth 100000 in
theorem open_FactD_55 {H : Type} {enc : TypeId × Value → H} {w : World} {base : Nat} {spare : Nat → Bool} {held : Bool} {fuel : Nat} {cs : List Value} {y : DataW H × List MemPlace} (h : DataW.trod enc Tryz.prog w base spare held fuel 55 cs = some y) (hw : Snug Tryz.prog 55 y.1) : ∃ x : FactD, R_FactD.p (fun k => k < w.heap.size) w cs x ∧ ok_FactD x := by
  obtain ⟨n, hl, hf⟩ := trod_fields Tryz.underlying55 h hw
  have c : Tryz.prog.cellsOf 55 = 3 := by kernel_rfl
  rw [c] at hl
  match cs, hl with
  | [c0, c1, c2], _ =>
  obtain ⟨z0, h0, g0⟩ : ∃ z, DataW.trod enc Tryz.prog w base spare held n 3 ((List.drop 0 [c0, c1, c2]).take (Tryz.prog.cellsOf 3)) = some z ∧ Snug Tryz.prog 3 z.1 := hf 0 _ rfl
  have d0 : Tryz.prog.cellsOf 3 = 1 := by kernel_rfl
  simp only [d0, List.drop_zero, List.take_succ_cons, List.take_zero, List.drop_succ_cons] at h0
  obtain ⟨z1, h1, g1⟩ : ∃ z, DataW.trod enc Tryz.prog w base spare held n 3 ((List.drop 1 [c0, c1, c2]).take (Tryz.prog.cellsOf 3)) = some z ∧ Snug Tryz.prog 3 z.1 := hf 1 _ rfl
  have d1 : Tryz.prog.cellsOf 3 = 1 := by kernel_rfl
  simp only [d1, List.drop_zero, List.take_succ_cons, List.take_zero, List.drop_succ_cons] at h1
  obtain ⟨z2, h2, g2⟩ : ∃ z, DataW.trod enc Tryz.prog w base spare held n 27 ((List.drop 2 [c0, c1, c2]).take (Tryz.prog.cellsOf 27)) = some z ∧ Snug Tryz.prog 27 z.1 := hf 2 _ rfl
  have d2 : Tryz.prog.cellsOf 27 = 1 := by kernel_rfl
  simp only [d2, List.drop_zero, List.take_succ_cons, List.take_zero, List.drop_succ_cons] at h2
  obtain ⟨x0, ⟨r0, e0, f0⟩, ok0⟩ := open_i64_3 h0 g0
  simp only [C_i64, List.cons.injEq, and_true] at e0
  obtain rfl := e0
  obtain ⟨x1, ⟨r1, e1, f1⟩, ok1⟩ := open_i64_3 h1 g1
  simp only [C_i64, List.cons.injEq, and_true] at e1
  obtain rfl := e1
  obtain ⟨p2, k2, x2, e2, f2, ok2⟩ := open_listA Tryz.underlying27 (sz := 3) (R := R_V) (q := fun y => ok_V y) (by kernel_rfl) (by decide) (fun _ _ _ h hw => open_V_149 h hw) h2 g2
  replace ok2 := And.intro (le_of_bytes (m := 4398046510976) ok2.1 (by kernel_rfl : Tryz.prog.bytesOf 149 = 32) (by decide) (by decide) (by decide)) ok2.2
  simp only [List.cons.injEq, and_true] at e2
  subst e2
  exact ⟨⟨x0, x1, x2⟩, ⟨(p2, k2), rfl, (ask_cons f2 ask_nil)⟩, ok0, ok1, ok2⟩
set_option maxRecDepth 100000 in
theorem open_i64_25 {H : Type} {enc : TypeId × Value → H} {w : World} {base : Nat} {spare : Nat → Bool} {held : Bool} {fuel : Nat} {cs : List Value} {y : DataW H × List MemPlace} (h : DataW.trod enc Tryz.prog w base spare held fuel 25 cs = some y) (hw : Snug Tryz.prog 25 y.1) : ∃ x : Int, R_i64.p (fun k => k < w.heap.size) w cs x ∧ inK .i64 x := by
  obtain ⟨x, e, _, ok⟩ := DataW.trod_int Tryz.underlying25 h
  exact ⟨x, ⟨(), e, ask_nil⟩, wf_inK ok⟩
set_option maxRecDepth 100000 in
theorem open_ReplyD_29 {H : Type} {enc : TypeId × Value → H} {w : World} {base : Nat} {spare : Nat → Bool} {held : Bool} {fuel : Nat} {cs : List Value} {y : DataW H × List MemPlace} (h : DataW.trod enc Tryz.prog w base spare held fuel 29 cs = some y) (hw : Snug Tryz.prog 29 y.1) : ∃ x : ReplyD, R_ReplyD.p (fun k => k < w.heap.size) w cs x ∧ ok_ReplyD x := by
  obtain ⟨n, hl, hf⟩ := trod_fields Tryz.underlying29 h hw
  have c : Tryz.prog.cellsOf 29 = 4 := by kernel_rfl
  rw [c] at hl
  match cs, hl with
  | [c0, c1, c2, c3], _ =>
  obtain ⟨z0, h0, g0⟩ : ∃ z, DataW.trod enc Tryz.prog w base spare held n 25 ((List.drop 0 [c0, c1, c2, c3]).take (Tryz.prog.cellsOf 25)) = some z ∧ Snug Tryz.prog 25 z.1 := hf 0 _ rfl
  have d0 : Tryz.prog.cellsOf 25 = 1 := by kernel_rfl
  simp only [d0, List.drop_zero, List.take_succ_cons, List.take_zero, List.drop_succ_cons] at h0
  obtain ⟨z1, h1, g1⟩ : ∃ z, DataW.trod enc Tryz.prog w base spare held n 3 ((List.drop 1 [c0, c1, c2, c3]).take (Tryz.prog.cellsOf 3)) = some z ∧ Snug Tryz.prog 3 z.1 := hf 1 _ rfl
  have d1 : Tryz.prog.cellsOf 3 = 1 := by kernel_rfl
  simp only [d1, List.drop_zero, List.take_succ_cons, List.take_zero, List.drop_succ_cons] at h1
  obtain ⟨z2, h2, g2⟩ : ∃ z, DataW.trod enc Tryz.prog w base spare held n 26 ((List.drop 2 [c0, c1, c2, c3]).take (Tryz.prog.cellsOf 26)) = some z ∧ Snug Tryz.prog 26 z.1 := hf 2 _ rfl
  have d2 : Tryz.prog.cellsOf 26 = 1 := by kernel_rfl
  simp only [d2, List.drop_zero, List.take_succ_cons, List.take_zero, List.drop_succ_cons] at h2
  obtain ⟨z3, h3, g3⟩ : ∃ z, DataW.trod enc Tryz.prog w base spare held n 27 ((List.drop 3 [c0, c1, c2, c3]).take (Tryz.prog.cellsOf 27)) = some z ∧ Snug Tryz.prog 27 z.1 := hf 3 _ rfl
  have d3 : Tryz.prog.cellsOf 27 = 1 := by kernel_rfl
  simp only [d3, List.drop_zero, List.take_succ_cons, List.take_zero, List.drop_succ_cons] at h3
  obtain ⟨x0, ⟨r0, e0, f0⟩, ok0⟩ := open_i64_25 h0 g0
  simp only [C_i64, List.cons.injEq, and_true] at e0
  obtain rfl := e0
  obtain ⟨x1, ⟨r1, e1, f1⟩, ok1⟩ := open_i64_3 h1 g1
  simp only [C_i64, List.cons.injEq, and_true] at e1
  obtain rfl := e1
  obtain ⟨p2, k2, x2, e2, f2, ok2⟩ := open_listA Tryz.underlying26 (sz := 3) (R := R_FactD) (q := fun y => ok_FactD y) (by kernel_rfl) (by decide) (fun _ _ _ h hw => open_FactD_55 h hw) h2 g2
  replace ok2 := And.intro (le_of_bytes (m := 3518437208780) ok2.1 (by kernel_rfl : Tryz.prog.bytesOf 55 = 40) (by decide) (by decide) (by decide)) ok2.2
  simp only [List.cons.injEq, and_true] at e2
  subst e2
  obtain ⟨p3, k3, x3, e3, f3, ok3⟩ := open_listA Tryz.underlying27 (sz := 3) (R := R_V) (q := fun y => ok_V y) (by kernel_rfl) (by decide) (fun _ _ _ h hw => open_V_149 h hw) h3 g3
  replace ok3 := And.intro (le_of_bytes (m := 4398046510976) ok3.1 (by kernel_rfl : Tryz.prog.bytesOf 149 = 32) (by decide) (by decide) (by decide)) ok3.2
  simp only [List.cons.injEq, and_true] at e3
  subst e3
  exact ⟨⟨x0, x1, x2, x3⟩, ⟨((p2, k2), (p3, k3)), rfl, (ask_cons f2 (ask_cons f3 ask_nil))⟩, ok0, ok1, ok2, ok3⟩
set_option maxRecDepth 100000 in
theorem open_SessD_31 {H : Type} {enc : TypeId × Value → H} {w : World} {base : Nat} {spare : Nat → Bool} {held : Bool} {fuel : Nat} {cs : List Value} {y : DataW H × List MemPlace} (h : DataW.trod enc Tryz.prog w base spare held fuel 31 cs = some y) (hw : Snug Tryz.prog 31 y.1) : ∃ x : SessD, R_SessD.p (fun k => k < w.heap.size) w cs x ∧ ok_SessD x := by
  obtain ⟨n, hl, hf⟩ := trod_fields Tryz.underlying31 h hw
  have c : Tryz.prog.cellsOf 31 = 6 := by kernel_rfl
  rw [c] at hl
  match cs, hl with
  | [c0, c1, c2, c3, c4, c5], _ =>
  obtain ⟨z0, h0, g0⟩ : ∃ z, DataW.trod enc Tryz.prog w base spare held n 3 ((List.drop 0 [c0, c1, c2, c3, c4, c5]).take (Tryz.prog.cellsOf 3)) = some z ∧ Snug Tryz.prog 3 z.1 := hf 0 _ rfl
  have d0 : Tryz.prog.cellsOf 3 = 1 := by kernel_rfl
  simp only [d0, List.drop_zero, List.take_succ_cons, List.take_zero, List.drop_succ_cons] at h0
  obtain ⟨z1, h1, g1⟩ : ∃ z, DataW.trod enc Tryz.prog w base spare held n 3 ((List.drop 1 [c0, c1, c2, c3, c4, c5]).take (Tryz.prog.cellsOf 3)) = some z ∧ Snug Tryz.prog 3 z.1 := hf 1 _ rfl
  have d1 : Tryz.prog.cellsOf 3 = 1 := by kernel_rfl
  simp only [d1, List.drop_zero, List.take_succ_cons, List.take_zero, List.drop_succ_cons] at h1
  obtain ⟨z2, h2, g2⟩ : ∃ z, DataW.trod enc Tryz.prog w base spare held n 29 ((List.drop 2 [c0, c1, c2, c3, c4, c5]).take (Tryz.prog.cellsOf 29)) = some z ∧ Snug Tryz.prog 29 z.1 := hf 2 _ rfl
  have d2 : Tryz.prog.cellsOf 29 = 4 := by kernel_rfl
  simp only [d2, List.drop_zero, List.take_succ_cons, List.take_zero, List.drop_succ_cons] at h2
  obtain ⟨x0, ⟨r0, e0, f0⟩, ok0⟩ := open_i64_3 h0 g0
  simp only [C_i64, List.cons.injEq, and_true] at e0
  obtain rfl := e0
  obtain ⟨x1, ⟨r1, e1, f1⟩, ok1⟩ := open_i64_3 h1 g1
  simp only [C_i64, List.cons.injEq, and_true] at e1
  obtain rfl := e1
  obtain ⟨x2, ⟨r2, e2, f2⟩, ok2⟩ := open_ReplyD_29 h2 g2
  simp only [C_ReplyD, List.cons.injEq, and_true] at e2
  obtain ⟨rfl, rfl, rfl, rfl⟩ := e2
  exact ⟨⟨x0, x1, x2⟩, ⟨(r2.1, r2.2), rfl, (ask_cons (f2 _ (mem_at (k := 0) rfl)) (ask_cons (f2 _ (mem_at (k := 1) rfl)) ask_nil))⟩, ok0, ok1, ok2⟩
set_option maxRecDepth 100000 in
theorem open_bool_4 {H : Type} {enc : TypeId × Value → H} {w : World} {base : Nat} {spare : Nat → Bool} {held : Bool} {fuel : Nat} {cs : List Value} {y : DataW H × List MemPlace} (h : DataW.trod enc Tryz.prog w base spare held fuel 4 cs = some y) (hw : Snug Tryz.prog 4 y.1) : ∃ x : Bool, R_bool.p (fun k => k < w.heap.size) w cs x ∧ True := by
  obtain ⟨x, e, _⟩ := DataW.trod_bool Tryz.underlying4 h
  exact ⟨x, ⟨(), e, ask_nil⟩, trivial⟩
set_option maxRecDepth 100000 in
theorem open_Ropewalklaw27_DoD_45 {H : Type} {enc : TypeId × Value → H} {w : World} {base : Nat} {spare : Nat → Bool} {held : Bool} {fuel : Nat} {cs : List Value} {y : DataW H × List MemPlace} (h : DataW.trod enc Tryz.prog w base spare held fuel 45 cs = some y) (hw : Snug Tryz.prog 45 y.1) : ∃ x : Ropewalklaw27_DoD, R_Ropewalklaw27_DoD.p (fun k => k < w.heap.size) w cs x ∧ ok_Ropewalklaw27_DoD x := by
  obtain ⟨n, hl, hf⟩ := trod_fields Tryz.underlying45 h hw
  have c : Tryz.prog.cellsOf 45 = 7 := by kernel_rfl
  rw [c] at hl
  match cs, hl with
  | [c0, c1, c2, c3, c4, c5, c6], _ =>
  obtain ⟨z0, h0, g0⟩ : ∃ z, DataW.trod enc Tryz.prog w base spare held n 3 ((List.drop 0 [c0, c1, c2, c3, c4, c5, c6]).take (Tryz.prog.cellsOf 3)) = some z ∧ Snug Tryz.prog 3 z.1 := hf 0 _ rfl
  have d0 : Tryz.prog.cellsOf 3 = 1 := by kernel_rfl
  simp only [d0, List.drop_zero, List.take_succ_cons, List.take_zero, List.drop_succ_cons] at h0
  obtain ⟨z1, h1, g1⟩ : ∃ z, DataW.trod enc Tryz.prog w base spare held n 3 ((List.drop 1 [c0, c1, c2, c3, c4, c5, c6]).take (Tryz.prog.cellsOf 3)) = some z ∧ Snug Tryz.prog 3 z.1 := hf 1 _ rfl
  have d1 : Tryz.prog.cellsOf 3 = 1 := by kernel_rfl
  simp only [d1, List.drop_zero, List.take_succ_cons, List.take_zero, List.drop_succ_cons] at h1
  obtain ⟨z2, h2, g2⟩ : ∃ z, DataW.trod enc Tryz.prog w base spare held n 3 ((List.drop 2 [c0, c1, c2, c3, c4, c5, c6]).take (Tryz.prog.cellsOf 3)) = some z ∧ Snug Tryz.prog 3 z.1 := hf 2 _ rfl
  have d2 : Tryz.prog.cellsOf 3 = 1 := by kernel_rfl
  simp only [d2, List.drop_zero, List.take_succ_cons, List.take_zero, List.drop_succ_cons] at h2
  obtain ⟨z3, h3, g3⟩ : ∃ z, DataW.trod enc Tryz.prog w base spare held n 29 ((List.drop 3 [c0, c1, c2, c3, c4, c5, c6]).take (Tryz.prog.cellsOf 29)) = some z ∧ Snug Tryz.prog 29 z.1 := hf 3 _ rfl
  have d3 : Tryz.prog.cellsOf 29 = 4 := by kernel_rfl
  simp only [d3, List.drop_zero, List.take_succ_cons, List.take_zero, List.drop_succ_cons] at h3
  obtain ⟨x0, ⟨r0, e0, f0⟩, ok0⟩ := open_i64_3 h0 g0
  simp only [C_i64, List.cons.injEq, and_true] at e0
  obtain rfl := e0
  obtain ⟨x1, ⟨r1, e1, f1⟩, ok1⟩ := open_i64_3 h1 g1
  simp only [C_i64, List.cons.injEq, and_true] at e1
  obtain rfl := e1
  obtain ⟨x2, ⟨r2, e2, f2⟩, ok2⟩ := open_i64_3 h2 g2
  simp only [C_i64, List.cons.injEq, and_true] at e2
  obtain rfl := e2
  obtain ⟨x3, ⟨r3, e3, f3⟩, ok3⟩ := open_ReplyD_29 h3 g3
  simp only [C_ReplyD, List.cons.injEq, and_true] at e3
  obtain ⟨rfl, rfl, rfl, rfl⟩ := e3
  exact ⟨⟨x0, x1, x2, x3⟩, ⟨(r3.1, r3.2), rfl, (ask_cons (f3 _ (mem_at (k := 0) rfl)) (ask_cons (f3 _ (mem_at (k := 1) rfl)) ask_nil))⟩, ok0, ok1, ok2, ok3⟩
theorem law_own : ownKnob Tryz.prog.godebug = none := by kernel_rfl
theorem law_laid : laidOutB Tryz.prog = true := by kernel_rfl
set_option maxRecDepth 100000 in
theorem sessionLives_lifted (os : Os) (started : os.Started) (H : Type) (enc : TypeId × Value → H) :
    ReturnsInHanded {} Tryz.checked os 3 .any (Rows.sessionLivesSpec.pre6 enc Tryz.prog Tryz.f3 Rows.sessionLivesRow.domain false) (Rows.sessionLivesSpec.post enc Tryz.prog Tryz.f3 false true false false) := by
  refine returnsInHanded_of_change_sized (C := Tryz.checked) law_own started (by kernel_rfl) Tryz.func3
    (ChangeSpec.witness6 (enc := enc) (C := Tryz.checked) false ⟨#[], #[.int .i64 0, .slice none 0 0, .bool false, .slice none 0 0], []⟩ 8 (by kernel_rfl) (by kernel_rfl) (by kernel_rfl) (by kernel_rfl)) ?_
  intro W base args ds gs before hval0 hW hcnd hsz0 _
  have hval : ∀ (j : Nat) t v, Tryz.f3.params[j]? = some t → args[j]? = some v → Value.okWide Tryz.prog W .any base t v := hval0
  have hW' := hW
  obtain ⟨p, q, hA0, hV, rfl, hfz, hnd⟩ := hW
  have hA : DataW.TrodAll enc Tryz.prog W 0 (fun _ => true) true Tryz.f3.params.toList args.toList ds p := hA0
  have hsz : (DataW.weightsEach Tryz.prog (Tryz.f3.params.toList ++ _) (ds ++ gs)).all (· ≤ reachBytes) = true := hsz0
  rw [Tryz.params3] at hA hval hsz
  clear hA0 hval0 hsz0
  obtain ⟨args⟩ := args
  obtain ⟨v0, r0, d0, s0, p0, q0, e0, rfl, rfl, ⟨n0, h0⟩, hA⟩ := trodAll_cons hA
  obtain ⟨v1, r1, d1, s1, p1, q1, e1, rfl, rfl, ⟨n1, h1⟩, hA⟩ := trodAll_cons hA
  obtain ⟨v2, r2, d2, s2, p2, q2, e2, rfl, rfl, ⟨n2, h2⟩, hA⟩ := trodAll_cons hA
  obtain ⟨v3, r3, d3, s3, p3, q3, e3, rfl, rfl, ⟨n3, h3⟩, hA⟩ := trodAll_cons hA
  obtain ⟨e4, rfl, rfl⟩ := trodAll_nil hA
  subst e4; subst e3; subst e2; subst e1
  simp only at e0
  subst e0
  obtain ⟨rfl, rfl⟩ := trodVars_none hV
  rw [okWide_one Tryz.underlying3 (hval 0 _ v0 rfl rfl)] at h0
  obtain ⟨x0, ⟨r0, e, f0⟩, ok0⟩ := open_i64_3 h0 (fits_arg hsz 0 rfl rfl)
  simp only [C_i64, List.cons.injEq, and_true] at e
  subst e
  rw [okWide_sl Tryz.underlying22 (hval 1 _ v1 rfl rfl)] at h1
  obtain ⟨pa1, ca1, x1, e, hs1, ok1⟩ := open_listA Tryz.underlying22 (sz := 6) (R := R_SessD) (q := fun y => ok_SessD y) (by kernel_rfl) (by decide) (fun _ _ _ h hw => open_SessD_31 h hw) h1 (fits_arg hsz 1 rfl rfl)
  replace ok1 := And.intro (Nat.le_trans (le_of_bytes (m := 1759218604390) ok1.1 (by kernel_rfl : Tryz.prog.bytesOf 31 = 80) (by decide) (by decide) (by decide)) (by decide : 1759218604390 ≤ 140737488351232)) ok1.2
  simp only [List.cons.injEq, and_true] at e
  subst e
  rw [okWide_bool Tryz.underlying4 (hval 2 _ v2 rfl rfl)] at h2
  obtain ⟨x2, ⟨r2, e, f2⟩, ok2⟩ := open_bool_4 h2 (fits_arg hsz 2 rfl rfl)
  simp only [C_bool, List.cons.injEq, and_true] at e
  subst e
  rw [okWide_sl Tryz.underlying23 (hval 3 _ v3 rfl rfl)] at h3
  obtain ⟨pa3, ca3, x3, e, hs3, ok3⟩ := open_listA Tryz.underlying23 (sz := 7) (R := R_Ropewalklaw27_DoD) (q := fun y => ok_Ropewalklaw27_DoD y) (by kernel_rfl) (by decide) (fun _ _ _ h hw => open_Ropewalklaw27_DoD_45 h hw) h3 (fits_arg hsz 3 rfl rfl)
  replace ok3 := And.intro (Nat.le_trans (le_of_bytes (m := 1599289640354) ok3.1 (by kernel_rfl : Tryz.prog.bytesOf 45 = 88) (by decide) (by decide) (by decide)) (by decide : 1599289640354 ≤ 140737488351232)) ok3.2
  simp only [List.cons.injEq, and_true] at e
  subst e
  have hcall := spec_calls (w_ropewalklaw27_SessionLives_s 9223372036854775808 x0 pa1 ca1 x1 x2 pa3 ca3 x3 _ (seslives_arg x0 ok0 x1 ok1 x2 ok2 x3 ok3)) (w := W) (ask_cons hs1 (ask_cons hs3 ask_nil))
  refine hcall.mono fun e W' ⟨he, hm⟩ => ?_
  subst he
  have hb : Below W.heap.size W W' := hm.to_below (Nat.le_refl _) (fun _ h => h.elim)
  refine ⟨_, rfl, law_post law_laid ?_ rfl Tryz.underlying4 rfl hW' rfl rfl rfl hb⟩
  rw [Tryz.params3]
  intro t ht
  simp only [List.mem_cons, List.not_mem_nil, or_false] at ht
  rcases ht with rfl | rfl | rfl | rfl <;> exact ⟨by kernel_rfl, of_decide_eq_true (by kernel_rfl)⟩
theorem session_lives : Rows.SessionLivesSaid :=
  OpenClaim.holds_of_wide 3 Tryz.f3 rfl rfl rfl rfl rfl rfl rfl ⟨rfl, rfl, rfl, rfl, rfl⟩ rfl rfl rfl rfl rfl (by kernel_rfl) Tryz.func3 (by kernel_rfl)
    (of_decide_eq_true (by kernel_rfl)) (by unfold Func.isWrapper; rw [if_neg (by decide +kernel)]; exact ⟨rfl, rfl⟩)
    (fun os started H enc _ => sessionLives_lifted os started H enc)
#print axioms session_lives
end Go.Proofs.YtighbinghbnjhaaGreat
