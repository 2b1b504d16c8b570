import Derived.Test.YtalbennlmcpnmaaGreatRows
import Derived.Test.YtalbennlmcpnmaaGreatXW1
import Derived.Test.YtalbennlmcpnmaaGreatXW2
import Derived.Test.YtalbennlmcpnmaaGreatXW3
import Derived.Test.YtalbennlmcpnmaaGreatXW4
import Derived.Test.YtalbennlmcpnmaaGreatXW5
import Derived.Test.YtalbennlmcpnmaaGreatPatMA
import Derived.Test.YtalbennlmcpnmaaGreatLawG
import Derived.Test.YtalbennlmcpnmaaGreatOpenA
import Derived.ProofKit
namespace Go.Proofs.YtalbennlmcpnmaaGreat
open Go.ChangeShapes Go.WideShapes Go.ChangeAt Go.RowKit Go.Deep
set_option maxRecDepth 100000 in
theorem open_u8_25 {H : Type} {enc : TypeId × Value → H} {w : World} {base : Nat} {spare : Nat → Bool} {held : Bool} {fuel : Nat} {cs : List Value} {y : DataW H × List MemPlace} (h : DataW.trod enc Tryz.prog w base spare held fuel 25 cs = some y) (hw : Snug Tryz.prog 25 y.1) : ∃ x : Int, R_u8.p (fun k => k < w.heap.size) w cs x ∧ inK .u8 x := by
  obtain ⟨x, e, _, ok⟩ := DataW.trod_int Tryz.underlying25 h
  exact ⟨x, ⟨(), e, ask_nil⟩, wf_inK ok⟩
set_option maxRecDepth 100000 in
theorem open_i64_2 {H : Type} {enc : TypeId × Value → H} {w : World} {base : Nat} {spare : Nat → Bool} {held : Bool} {fuel : Nat} {cs : List Value} {y : DataW H × List MemPlace} (h : DataW.trod enc Tryz.prog w base spare held fuel 2 cs = some y) (hw : Snug Tryz.prog 2 y.1) : ∃ x : Int, R_i64.p (fun k => k < w.heap.size) w cs x ∧ inK .i64 x := by
  obtain ⟨x, e, _, ok⟩ := DataW.trod_int Tryz.underlying2 h
  exact ⟨x, ⟨(), e, ask_nil⟩, wf_inK ok⟩
set_option maxRecDepth 100000 in
theorem open_str_9 {H : Type} {enc : TypeId × Value → H} {w : World} {base : Nat} {spare : Nat → Bool} {held : Bool} {fuel : Nat} {cs : List Value} {y : DataW H × List MemPlace} (h : DataW.trod enc Tryz.prog w base spare held fuel 9 cs = some y) (hw : Snug Tryz.prog 9 y.1) : ∃ x : ByteArray, R_str.p (fun k => k < w.heap.size) w cs x ∧ x.size ≤ 140737488351232 := by
  obtain ⟨x, e, e2, ok⟩ := DataW.trod_string Tryz.underlying9 h
  subst e2
  exact ⟨x, ⟨(), e, ask_nil⟩, fits_str hw⟩
set_option maxRecDepth 100000 in
theorem open_V_27 {H : Type} {enc : TypeId × Value → H} {w : World} {base : Nat} {spare : Nat → Bool} {held : Bool} {fuel : Nat} {cs : List Value} {y : DataW H × List MemPlace} (h : DataW.trod enc Tryz.prog w base spare held fuel 27 cs = some y) (hw : Snug Tryz.prog 27 y.1) : ∃ x : V, R_V.p (fun k => k < w.heap.size) w cs x ∧ ok_V x := by
  obtain ⟨n, hl, hf⟩ := trod_fields Tryz.underlying27 h hw
  have c : Tryz.prog.cellsOf 27 = 3 := by kernel_rfl
  rw [c] at hl
  match cs, hl with
  | [c0, c1, c2], _ =>
  obtain ⟨z0, h0, g0⟩ : ∃ z, DataW.trod enc Tryz.prog w base spare held n 25 ((List.drop 0 [c0, c1, c2]).take (Tryz.prog.cellsOf 25)) = some z ∧ Snug Tryz.prog 25 z.1 := hf 0 _ rfl
  have d0 : Tryz.prog.cellsOf 25 = 1 := by kernel_rfl
  simp only [d0, List.drop_zero, List.take_succ_cons, List.take_zero, List.drop_succ_cons] at h0
  obtain ⟨z1, h1, g1⟩ : ∃ z, DataW.trod enc Tryz.prog w base spare held n 2 ((List.drop 1 [c0, c1, c2]).take (Tryz.prog.cellsOf 2)) = some z ∧ Snug Tryz.prog 2 z.1 := hf 1 _ rfl
  have d1 : Tryz.prog.cellsOf 2 = 1 := by kernel_rfl
  simp only [d1, List.drop_zero, List.take_succ_cons, List.take_zero, List.drop_succ_cons] at h1
  obtain ⟨z2, h2, g2⟩ : ∃ z, DataW.trod enc Tryz.prog w base spare held n 9 ((List.drop 2 [c0, c1, c2]).take (Tryz.prog.cellsOf 9)) = some z ∧ Snug Tryz.prog 9 z.1 := hf 2 _ rfl
  have d2 : Tryz.prog.cellsOf 9 = 1 := by kernel_rfl
  simp only [d2, List.drop_zero, List.take_succ_cons, List.take_zero, List.drop_succ_cons] at h2
  obtain ⟨x0, ⟨r0, e0, f0⟩, ok0⟩ := open_u8_25 h0 g0
  simp only [C_u8, List.cons.injEq, and_true] at e0
  obtain rfl := e0
  obtain ⟨x1, ⟨r1, e1, f1⟩, ok1⟩ := open_i64_2 h1 g1
  simp only [C_i64, List.cons.injEq, and_true] at e1
  obtain rfl := e1
  obtain ⟨x2, ⟨r2, e2, f2⟩, ok2⟩ := open_str_9 h2 g2
  simp only [C_str, List.cons.injEq, and_true] at e2
  obtain rfl := e2
  exact ⟨⟨x0, x1, x2⟩, ⟨(), rfl, ask_nil⟩, ok0, ok1, ok2⟩
set_option maxRecDepth 100000 in
theorem open_u8_62 {H : Type} {enc : TypeId × Value → H} {w : World} {base : Nat} {spare : Nat → Bool} {held : Bool} {fuel : Nat} {cs : List Value} {y : DataW H × List MemPlace} (h : DataW.trod enc Tryz.prog w base spare held fuel 62 cs = some y) (hw : Snug Tryz.prog 62 y.1) : ∃ x : Int, R_u8.p (fun k => k < w.heap.size) w cs x ∧ inK .u8 x := by
  obtain ⟨x, e, _, ok⟩ := DataW.trod_int Tryz.underlying62 h
  exact ⟨x, ⟨(), e, ask_nil⟩, wf_inK ok⟩
set_option maxRecDepth 100000 in
theorem open_i64_3 {H : Type} {enc : TypeId × Value → H} {w : World} {base : Nat} {spare : Nat → Bool} {held : Bool} {fuel : Nat} {cs : List Value} {y : DataW H × List MemPlace} (h : DataW.trod enc Tryz.prog w base spare held fuel 3 cs = some y) (hw : Snug Tryz.prog 3 y.1) : ∃ x : Int, R_i64.p (fun k => k < w.heap.size) w cs x ∧ inK .i64 x := by
  obtain ⟨x, e, _, ok⟩ := DataW.trod_int Tryz.underlying3 h
  exact ⟨x, ⟨(), e, ask_nil⟩, wf_inK ok⟩
set_option maxRecDepth 100000 in
theorem open_ArgD_64 {H : Type} {enc : TypeId × Value → H} {w : World} {base : Nat} {spare : Nat → Bool} {held : Bool} {fuel : Nat} {cs : List Value} {y : DataW H × List MemPlace} (h : DataW.trod enc Tryz.prog w base spare held fuel 64 cs = some y) (hw : Snug Tryz.prog 64 y.1) : ∃ x : ArgD, R_ArgD.p (fun k => k < w.heap.size) w cs x ∧ ok_ArgD x := by
  obtain ⟨n, hl, hf⟩ := trod_fields Tryz.underlying64 h hw
  have c : Tryz.prog.cellsOf 64 = 5 := by kernel_rfl
  rw [c] at hl
  match cs, hl with
  | [c0, c1, c2, c3, c4], _ =>
  obtain ⟨z0, h0, g0⟩ : ∃ z, DataW.trod enc Tryz.prog w base spare held n 62 ((List.drop 0 [c0, c1, c2, c3, c4]).take (Tryz.prog.cellsOf 62)) = some z ∧ Snug Tryz.prog 62 z.1 := hf 0 _ rfl
  have d0 : Tryz.prog.cellsOf 62 = 1 := by kernel_rfl
  simp only [d0, List.drop_zero, List.take_succ_cons, List.take_zero, List.drop_succ_cons] at h0
  obtain ⟨z1, h1, g1⟩ : ∃ z, DataW.trod enc Tryz.prog w base spare held n 3 ((List.drop 1 [c0, c1, c2, c3, c4]).take (Tryz.prog.cellsOf 3)) = some z ∧ Snug Tryz.prog 3 z.1 := hf 1 _ rfl
  have d1 : Tryz.prog.cellsOf 3 = 1 := by kernel_rfl
  simp only [d1, List.drop_zero, List.take_succ_cons, List.take_zero, List.drop_succ_cons] at h1
  obtain ⟨z2, h2, g2⟩ : ∃ z, DataW.trod enc Tryz.prog w base spare held n 27 ((List.drop 2 [c0, c1, c2, c3, c4]).take (Tryz.prog.cellsOf 27)) = some z ∧ Snug Tryz.prog 27 z.1 := hf 2 _ rfl
  have d2 : Tryz.prog.cellsOf 27 = 3 := by kernel_rfl
  simp only [d2, List.drop_zero, List.take_succ_cons, List.take_zero, List.drop_succ_cons] at h2
  obtain ⟨x0, ⟨r0, e0, f0⟩, ok0⟩ := open_u8_62 h0 g0
  simp only [C_u8, List.cons.injEq, and_true] at e0
  obtain rfl := e0
  obtain ⟨x1, ⟨r1, e1, f1⟩, ok1⟩ := open_i64_3 h1 g1
  simp only [C_i64, List.cons.injEq, and_true] at e1
  obtain rfl := e1
  obtain ⟨x2, ⟨r2, e2, f2⟩, ok2⟩ := open_V_27 h2 g2
  simp only [C_V, List.cons.injEq, and_true] at e2
  obtain ⟨rfl, rfl, rfl⟩ := e2
  exact ⟨⟨x0, x1, x2⟩, ⟨(), rfl, ask_nil⟩, ok0, ok1, ok2⟩
set_option maxRecDepth 100000 in
theorem open_u8_24 {H : Type} {enc : TypeId × Value → H} {w : World} {base : Nat} {spare : Nat → Bool} {held : Bool} {fuel : Nat} {cs : List Value} {y : DataW H × List MemPlace} (h : DataW.trod enc Tryz.prog w base spare held fuel 24 cs = some y) (hw : Snug Tryz.prog 24 y.1) : ∃ x : Int, R_u8.p (fun k => k < w.heap.size) w cs x ∧ inK .u8 x := by
  obtain ⟨x, e, _, ok⟩ := DataW.trod_int Tryz.underlying24 h
  exact ⟨x, ⟨(), e, ask_nil⟩, wf_inK ok⟩
set_option maxRecDepth 100000 in
theorem open_u8_28 {H : Type} {enc : TypeId × Value → H} {w : World} {base : Nat} {spare : Nat → Bool} {held : Bool} {fuel : Nat} {cs : List Value} {y : DataW H × List MemPlace} (h : DataW.trod enc Tryz.prog w base spare held fuel 28 cs = some y) (hw : Snug Tryz.prog 28 y.1) : ∃ x : Int, R_u8.p (fun k => k < w.heap.size) w cs x ∧ inK .u8 x := by
  obtain ⟨x, e, _, ok⟩ := DataW.trod_int Tryz.underlying28 h
  exact ⟨x, ⟨(), e, ask_nil⟩, wf_inK ok⟩
set_option maxRecDepth 100000 in
theorem open_Api_ExprD_31 {H : Type} {enc : TypeId × Value → H} {w : World} {base : Nat} {spare : Nat → Bool} {held : Bool} : ∀ (fuel : Nat) (cs : List Value) (y : DataW H × List MemPlace) (h : DataW.trod enc Tryz.prog w base spare held fuel 31 cs = some y) (hw : Snug Tryz.prog 31 y.1), ∃ x : Api_ExprD, R_Api_ExprD.p (fun k => k < w.heap.size) w cs x ∧ ok_Api_ExprD x := by
  intro fuel
  induction fuel using Nat.strongRecOn with
  | _ fuel ih =>
  intro cs y h hw
  obtain ⟨n, hn, hl, hf⟩ := trod_fieldsN Tryz.underlying31 h hw
  have c : Tryz.prog.cellsOf 31 = 7 := by kernel_rfl
  rw [c] at hl
  match cs, hl with
  | [c0, c1, c2, c3, c4, c5, c6], _ =>
  obtain ⟨z0, h0, g0⟩ : ∃ z, DataW.trod enc Tryz.prog w base spare held n 24 ((List.drop 0 [c0, c1, c2, c3, c4, c5, c6]).take (Tryz.prog.cellsOf 24)) = some z ∧ Snug Tryz.prog 24 z.1 := hf 0 _ rfl
  have d0 : Tryz.prog.cellsOf 24 = 1 := by kernel_rfl
  simp only [d0, List.drop_zero, List.take_succ_cons, List.take_zero, List.drop_succ_cons] at h0
  obtain ⟨z1, h1, g1⟩ : ∃ z, DataW.trod enc Tryz.prog w base spare held n 27 ((List.drop 1 [c0, c1, c2, c3, c4, c5, c6]).take (Tryz.prog.cellsOf 27)) = some z ∧ Snug Tryz.prog 27 z.1 := hf 1 _ rfl
  have d1 : Tryz.prog.cellsOf 27 = 3 := by kernel_rfl
  simp only [d1, List.drop_zero, List.take_succ_cons, List.take_zero, List.drop_succ_cons] at h1
  obtain ⟨z2, h2, g2⟩ : ∃ z, DataW.trod enc Tryz.prog w base spare held n 3 ((List.drop 4 [c0, c1, c2, c3, c4, c5, c6]).take (Tryz.prog.cellsOf 3)) = some z ∧ Snug Tryz.prog 3 z.1 := hf 2 _ rfl
  have d2 : Tryz.prog.cellsOf 3 = 1 := by kernel_rfl
  simp only [d2, List.drop_zero, List.take_succ_cons, List.take_zero, List.drop_succ_cons] at h2
  obtain ⟨z3, h3, g3⟩ : ∃ z, DataW.trod enc Tryz.prog w base spare held n 28 ((List.drop 5 [c0, c1, c2, c3, c4, c5, c6]).take (Tryz.prog.cellsOf 28)) = some z ∧ Snug Tryz.prog 28 z.1 := hf 3 _ rfl
  have d3 : Tryz.prog.cellsOf 28 = 1 := by kernel_rfl
  simp only [d3, List.drop_zero, List.take_succ_cons, List.take_zero, List.drop_succ_cons] at h3
  obtain ⟨z4, h4, g4⟩ : ∃ z, DataW.trod enc Tryz.prog w base spare held n 29 ((List.drop 6 [c0, c1, c2, c3, c4, c5, c6]).take (Tryz.prog.cellsOf 29)) = some z ∧ Snug Tryz.prog 29 z.1 := hf 4 _ rfl
  have d4 : Tryz.prog.cellsOf 29 = 1 := by kernel_rfl
  simp only [d4, List.drop_zero, List.take_succ_cons, List.take_zero, List.drop_succ_cons] at h4
  obtain ⟨x0, ⟨r0, e0, f0⟩, ok0⟩ := open_u8_24 h0 g0
  simp only [C_u8, List.cons.injEq, and_true] at e0
  obtain rfl := e0
  obtain ⟨x1, ⟨r1, e1, f1⟩, ok1⟩ := open_V_27 h1 g1
  simp only [C_V, List.cons.injEq, and_true] at e1
  obtain ⟨rfl, rfl, rfl⟩ := e1
  obtain ⟨x2, ⟨r2, e2, f2⟩, ok2⟩ := open_i64_3 h2 g2
  simp only [C_i64, List.cons.injEq, and_true] at e2
  obtain rfl := e2
  obtain ⟨x3, ⟨r3, e3, f3⟩, ok3⟩ := open_u8_28 h3 g3
  simp only [C_u8, List.cons.injEq, and_true] at e3
  obtain rfl := e3
  obtain ⟨p4, k4, x4, e4, f4, ok4⟩ := open_listR Tryz.underlying29 (sz := 7) (R := R_Api_ExprD) (q := fun y => ok_Api_ExprD y) (by kernel_rfl) (by decide) (fun m hm cs y h hw => ih m (by omega) cs y h hw) h4 g4
  replace ok4 := And.intro (le_of_bytes (m := 1759218604390) ok4.1 (by kernel_rfl : Tryz.prog.bytesOf 31 = 80) (by decide) (by decide) (by decide)) ok4.2
  simp only [List.cons.injEq, and_true] at e4
  subst e4
  exact ⟨⟨x0, x1, x2, x3, x4⟩, rec_shut (p4, k4) rfl ((ask_cons f4 ask_nil)), .mk _ ok0 ok1 ok2 ok3 ok4.1 ok4.2⟩
set_option maxRecDepth 100000 in
theorem open_u8_22 {H : Type} {enc : TypeId × Value → H} {w : World} {base : Nat} {spare : Nat → Bool} {held : Bool} {fuel : Nat} {cs : List Value} {y : DataW H × List MemPlace} (h : DataW.trod enc Tryz.prog w base spare held fuel 22 cs = some y) (hw : Snug Tryz.prog 22 y.1) : ∃ x : Int, R_u8.p (fun k => k < w.heap.size) w cs x ∧ inK .u8 x := by
  obtain ⟨x, e, _, ok⟩ := DataW.trod_int Tryz.underlying22 h
  exact ⟨x, ⟨(), e, ask_nil⟩, wf_inK ok⟩
set_option maxRecDepth 100000 in
theorem open_Api_CondD_33 {H : Type} {enc : TypeId × Value → H} {w : World} {base : Nat} {spare : Nat → Bool} {held : Bool} {fuel : Nat} {cs : List Value} {y : DataW H × List MemPlace} (h : DataW.trod enc Tryz.prog w base spare held fuel 33 cs = some y) (hw : Snug Tryz.prog 33 y.1) : ∃ x : Api_CondD, R_Api_CondD.p (fun k => k < w.heap.size) w cs x ∧ ok_Api_CondD x := by
  obtain ⟨n, hl, hf⟩ := trod_fields Tryz.underlying33 h hw
  have c : Tryz.prog.cellsOf 33 = 10 := by kernel_rfl
  rw [c] at hl
  match cs, hl with
  | [c0, c1, c2, c3, c4, c5, c6, c7, c8, c9], _ =>
  obtain ⟨z0, h0, g0⟩ : ∃ z, DataW.trod enc Tryz.prog w base spare held n 22 ((List.drop 0 [c0, c1, c2, c3, c4, c5, c6, c7, c8, c9]).take (Tryz.prog.cellsOf 22)) = some z ∧ Snug Tryz.prog 22 z.1 := hf 0 _ rfl
  have d0 : Tryz.prog.cellsOf 22 = 1 := by kernel_rfl
  simp only [d0, List.drop_zero, List.take_succ_cons, List.take_zero, List.drop_succ_cons] at h0
  obtain ⟨z1, h1, g1⟩ : ∃ z, DataW.trod enc Tryz.prog w base spare held n 3 ((List.drop 1 [c0, c1, c2, c3, c4, c5, c6, c7, c8, c9]).take (Tryz.prog.cellsOf 3)) = some z ∧ Snug Tryz.prog 3 z.1 := hf 1 _ rfl
  have d1 : Tryz.prog.cellsOf 3 = 1 := by kernel_rfl
  simp only [d1, List.drop_zero, List.take_succ_cons, List.take_zero, List.drop_succ_cons] at h1
  obtain ⟨z2, h2, g2⟩ : ∃ z, DataW.trod enc Tryz.prog w base spare held n 23 ((List.drop 2 [c0, c1, c2, c3, c4, c5, c6, c7, c8, c9]).take (Tryz.prog.cellsOf 23)) = some z ∧ Snug Tryz.prog 23 z.1 := hf 2 _ rfl
  have d2 : Tryz.prog.cellsOf 23 = 1 := by kernel_rfl
  simp only [d2, List.drop_zero, List.take_succ_cons, List.take_zero, List.drop_succ_cons] at h2
  obtain ⟨z3, h3, g3⟩ : ∃ z, DataW.trod enc Tryz.prog w base spare held n 31 ((List.drop 3 [c0, c1, c2, c3, c4, c5, c6, c7, c8, c9]).take (Tryz.prog.cellsOf 31)) = some z ∧ Snug Tryz.prog 31 z.1 := hf 3 _ rfl
  have d3 : Tryz.prog.cellsOf 31 = 7 := by kernel_rfl
  simp only [d3, List.drop_zero, List.take_succ_cons, List.take_zero, List.drop_succ_cons] at h3
  obtain ⟨x0, ⟨r0, e0, f0⟩, ok0⟩ := open_u8_22 h0 g0
  simp only [C_u8, List.cons.injEq, and_true] at e0
  obtain rfl := e0
  obtain ⟨x1, ⟨r1, e1, f1⟩, ok1⟩ := open_i64_3 h1 g1
  simp only [C_i64, List.cons.injEq, and_true] at e1
  obtain rfl := e1
  obtain ⟨p2, k2, x2, e2, f2, ok2⟩ := open_listA Tryz.underlying23 (sz := 5) (R := R_ArgD) (q := fun y => ok_ArgD y) (by kernel_rfl) (by decide) (fun _ _ _ h hw => open_ArgD_64 h hw) h2 g2
  replace ok2 := And.intro (le_of_bytes (m := 2932031007317) ok2.1 (by kernel_rfl : Tryz.prog.bytesOf 64 = 48) (by decide) (by decide) (by decide)) ok2.2
  simp only [List.cons.injEq, and_true] at e2
  subst e2
  obtain ⟨x3, hp3, ok3⟩ := (open_Api_ExprD_31 _ _ _) h3 g3
  obtain ⟨r3, e3, _, f3⟩ := R_Api_ExprD_opens _ _ _ _ hp3
  simp only [C_Api_ExprD, List.cons.injEq, and_true] at e3
  obtain ⟨rfl, rfl, rfl, rfl, rfl, rfl, rfl⟩ := e3
  exact ⟨⟨x0, x1, x2, x3⟩, ⟨((p2, k2), r3), rfl, (ask_cons f2 (ask_cons (f3 _ (mem_at (k := 0) rfl)) ask_nil))⟩, ok0, ok1, ok2, ok3⟩
set_option maxRecDepth 100000 in
theorem open_FactD_36 {H : Type} {enc : TypeId × Value → H} {w : World} {base : Nat} {spare : Nat → Bool} {held : Bool} {fuel : Nat} {cs : List Value} {y : DataW H × List MemPlace} (h : DataW.trod enc Tryz.prog w base spare held fuel 36 cs = some y) (hw : Snug Tryz.prog 36 y.1) : ∃ x : FactD, R_FactD.p (fun k => k < w.heap.size) w cs x ∧ ok_FactD x := by
  obtain ⟨n, hl, hf⟩ := trod_fields Tryz.underlying36 h hw
  have c : Tryz.prog.cellsOf 36 = 3 := by kernel_rfl
  rw [c] at hl
  match cs, hl with
  | [c0, c1, c2], _ =>
  obtain ⟨z0, h0, g0⟩ : ∃ z, DataW.trod enc Tryz.prog w base spare held n 3 ((List.drop 0 [c0, c1, c2]).take (Tryz.prog.cellsOf 3)) = some z ∧ Snug Tryz.prog 3 z.1 := hf 0 _ rfl
  have d0 : Tryz.prog.cellsOf 3 = 1 := by kernel_rfl
  simp only [d0, List.drop_zero, List.take_succ_cons, List.take_zero, List.drop_succ_cons] at h0
  obtain ⟨z1, h1, g1⟩ : ∃ z, DataW.trod enc Tryz.prog w base spare held n 3 ((List.drop 1 [c0, c1, c2]).take (Tryz.prog.cellsOf 3)) = some z ∧ Snug Tryz.prog 3 z.1 := hf 1 _ rfl
  have d1 : Tryz.prog.cellsOf 3 = 1 := by kernel_rfl
  simp only [d1, List.drop_zero, List.take_succ_cons, List.take_zero, List.drop_succ_cons] at h1
  obtain ⟨z2, h2, g2⟩ : ∃ z, DataW.trod enc Tryz.prog w base spare held n 34 ((List.drop 2 [c0, c1, c2]).take (Tryz.prog.cellsOf 34)) = some z ∧ Snug Tryz.prog 34 z.1 := hf 2 _ rfl
  have d2 : Tryz.prog.cellsOf 34 = 1 := by kernel_rfl
  simp only [d2, List.drop_zero, List.take_succ_cons, List.take_zero, List.drop_succ_cons] at h2
  obtain ⟨x0, ⟨r0, e0, f0⟩, ok0⟩ := open_i64_3 h0 g0
  simp only [C_i64, List.cons.injEq, and_true] at e0
  obtain rfl := e0
  obtain ⟨x1, ⟨r1, e1, f1⟩, ok1⟩ := open_i64_3 h1 g1
  simp only [C_i64, List.cons.injEq, and_true] at e1
  obtain rfl := e1
  obtain ⟨p2, k2, x2, e2, f2, ok2⟩ := open_listA Tryz.underlying34 (sz := 3) (R := R_V) (q := fun y => ok_V y) (by kernel_rfl) (by decide) (fun _ _ _ h hw => open_V_27 h hw) h2 g2
  replace ok2 := And.intro (le_of_bytes (m := 4398046510976) ok2.1 (by kernel_rfl : Tryz.prog.bytesOf 27 = 32) (by decide) (by decide) (by decide)) ok2.2
  simp only [List.cons.injEq, and_true] at e2
  subst e2
  exact ⟨⟨x0, x1, x2⟩, ⟨(p2, k2), rfl, (ask_cons f2 ask_nil)⟩, ok0, ok1, ok2⟩
set_option maxRecDepth 100000 in
theorem open_bool_4 {H : Type} {enc : TypeId × Value → H} {w : World} {base : Nat} {spare : Nat → Bool} {held : Bool} {fuel : Nat} {cs : List Value} {y : DataW H × List MemPlace} (h : DataW.trod enc Tryz.prog w base spare held fuel 4 cs = some y) (hw : Snug Tryz.prog 4 y.1) : ∃ x : Bool, R_bool.p (fun k => k < w.heap.size) w cs x ∧ True := by
  obtain ⟨x, e, _⟩ := DataW.trod_bool Tryz.underlying4 h
  exact ⟨x, ⟨(), e, ask_nil⟩, trivial⟩
theorem law_own : ownKnob Tryz.prog.godebug = none := by kernel_rfl
theorem law_laid : laidOutB Tryz.prog = true := by kernel_rfl
set_option maxRecDepth 100000 in
theorem patternMatches_lifted (os : Os) (started : os.Started) (H : Type) (enc : TypeId × Value → H) :
    ReturnsInHanded {} Tryz.checked os 3 .any (Rows.patternMatchesSpec.pre6 enc Tryz.prog Tryz.f3 Rows.patternMatchesRow.domain false) (Rows.patternMatchesSpec.post enc Tryz.prog Tryz.f3 false true false false) := by
  refine returnsInHanded_of_change_sized (C := Tryz.checked) law_own started (by kernel_rfl) Tryz.func3
    (ChangeSpec.witness6 (enc := enc) (C := Tryz.checked) false ⟨#[], #[.agg #[.int .u8 0, .int .i64 0, .slice none 0 0, .int .u8 0, .int .u8 0, .int .i64 0, .string ⟨#[]⟩, .int .i64 0, .int .u8 0, .slice none 0 0], .agg #[.int .i64 0, .int .i64 0, .slice none 0 0], .slice none 0 0, .slice none 0 0], []⟩ 8 (by kernel_rfl) (by kernel_rfl) (by kernel_rfl) (by kernel_rfl)) ?_
  intro W base args ds gs before hval0 hW hcnd hsz0 _
  have hval : ∀ (j : Nat) t v, Tryz.f3.params[j]? = some t → args[j]? = some v → Value.okWide Tryz.prog W .any base t v := hval0
  have hW' := hW
  obtain ⟨p, q, hA0, hV, rfl, hfz, hnd⟩ := hW
  have hA : DataW.TrodAll enc Tryz.prog W 0 (fun _ => true) true Tryz.f3.params.toList args.toList ds p := hA0
  have hsz : (DataW.weightsEach Tryz.prog (Tryz.f3.params.toList ++ _) (ds ++ gs)).all (· ≤ reachBytes) = true := hsz0
  rw [Tryz.params3] at hA hval hsz
  clear hA0 hval0 hsz0
  obtain ⟨args⟩ := args
  obtain ⟨v0, r0, d0, s0, p0, q0, e0, rfl, rfl, ⟨n0, h0⟩, hA⟩ := trodAll_cons hA
  obtain ⟨v1, r1, d1, s1, p1, q1, e1, rfl, rfl, ⟨n1, h1⟩, hA⟩ := trodAll_cons hA
  obtain ⟨v2, r2, d2, s2, p2, q2, e2, rfl, rfl, ⟨n2, h2⟩, hA⟩ := trodAll_cons hA
  obtain ⟨v3, r3, d3, s3, p3, q3, e3, rfl, rfl, ⟨n3, h3⟩, hA⟩ := trodAll_cons hA
  obtain ⟨e4, rfl, rfl⟩ := trodAll_nil hA
  subst e4; subst e3; subst e2; subst e1
  simp only at e0
  subst e0
  obtain ⟨rfl, rfl⟩ := trodVars_none hV
  obtain ⟨⟨c0⟩, rfl⟩ := okWide_agg Tryz.underlying33 (hval 0 _ v0 rfl rfl)
  obtain ⟨x0, ⟨r0, e, f0⟩, ok0⟩ := open_Api_CondD_33 h0 (fits_arg hsz 0 rfl rfl)
  replace e : c0 = C_Api_CondD x0 r0 := e
  subst e
  obtain ⟨⟨c1⟩, rfl⟩ := okWide_agg Tryz.underlying36 (hval 1 _ v1 rfl rfl)
  obtain ⟨x1, ⟨r1, e, f1⟩, ok1⟩ := open_FactD_36 h1 (fits_arg hsz 1 rfl rfl)
  replace e : c1 = C_FactD x1 r1 := e
  subst e
  rw [okWide_sl Tryz.underlying37 (hval 2 _ v2 rfl rfl)] at h2
  obtain ⟨pa2, ca2, x2, e, hs2, ok2⟩ := open_listA Tryz.underlying37 (sz := 1) (R := R_bool) (q := fun y => True) (by kernel_rfl) (by decide) (fun _ _ _ h hw => open_bool_4 h hw) h2 (fits_arg hsz 2 rfl rfl)
  replace ok2 := And.intro (Nat.le_trans (le_of_bytes (m := 140737488351232) ok2.1 (by kernel_rfl : Tryz.prog.bytesOf 4 = 1) (by decide) (by decide) (by decide)) (by decide : 140737488351232 ≤ 140737488351232)) ok2.2
  simp only [List.cons.injEq, and_true] at e
  subst e
  rw [okWide_sl Tryz.underlying34 (hval 3 _ v3 rfl rfl)] at h3
  obtain ⟨pa3, ca3, x3, e, hs3, ok3⟩ := open_listA Tryz.underlying34 (sz := 3) (R := R_V) (q := fun y => ok_V y) (by kernel_rfl) (by decide) (fun _ _ _ h hw => open_V_27 h hw) h3 (fits_arg hsz 3 rfl rfl)
  replace ok3 := And.intro (Nat.le_trans (le_of_bytes (m := 4398046510976) ok3.1 (by kernel_rfl : Tryz.prog.bytesOf 27 = 32) (by decide) (by decide) (by decide)) (by decide : 4398046510976 ≤ 140737488351232)) ok3.2
  simp only [List.cons.injEq, and_true] at e
  subst e
  have hcall := spec_calls (w_ropewalklaw10_PatternMatches_s 9223372036854778808 x0.kind x0.type r0.1.1 r0.1.2 x0.args x0.test.kind x0.test.value.k x0.test.value.n x0.test.value.s x0.test.var x0.test.op r0.2.1 r0.2.2 x0.test.kids x1.id x1.ty r1.1 r1.2 x1.args pa2 ca2 x2 pa3 ca3 x3 _ (patmatch_arg x0 ok0 x1 ok1 x2 ok2 x3 ok3)) (w := W) (ask_cons (f0 _ (mem_at (k := 0) rfl)) (ask_cons (f0 _ (mem_at (k := 1) rfl)) (ask_cons (f1 _ (mem_at (k := 0) rfl)) (ask_cons hs2 (ask_cons hs3 ask_nil)))))
  refine hcall.mono fun e W' ⟨he, hm⟩ => ?_
  subst he
  have hb : Below W.heap.size W W' := hm.to_below (Nat.le_refl _) (fun _ h => h.elim)
  refine ⟨_, rfl, law_post law_laid ?_ rfl Tryz.underlying4 rfl hW' rfl rfl rfl hb⟩
  rw [Tryz.params3]
  intro t ht
  simp only [List.mem_cons, List.not_mem_nil, or_false] at ht
  rcases ht with rfl | rfl | rfl | rfl <;> exact ⟨by kernel_rfl, of_decide_eq_true (by kernel_rfl)⟩
theorem pattern_matches : Rows.PatternMatchesSaid :=
  OpenClaim.holds_of_wide 3 Tryz.f3 rfl rfl rfl rfl rfl rfl rfl ⟨rfl, rfl, rfl, rfl, rfl⟩ rfl rfl rfl rfl rfl (by kernel_rfl) Tryz.func3 (by kernel_rfl)
    (of_decide_eq_true (by kernel_rfl)) (by unfold Func.isWrapper; rw [if_neg (by decide +kernel)]; exact ⟨rfl, rfl⟩)
    (fun os started H enc _ => patternMatches_lifted os started H enc)
#print axioms pattern_matches
end Go.Proofs.YtalbennlmcpnmaaGreat
