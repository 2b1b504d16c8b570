import Derived.Test.YtkliokdpcdhjcaaDoorRows
import Derived.Test.YtkliokdpcdhjcaaDoorCards
import Derived.Test.YtkliokdpcdhjcaaDoorTie
import Derived.Test.YtkliokdpcdhjcaaDoorXW1
import Derived.Test.YtkliokdpcdhjcaaDoorXW2
import Derived.Test.YtkliokdpcdhjcaaDoorAgBetP
import Derived.Test.YtkliokdpcdhjcaaDoorLawG
import Derived.Test.YtkliokdpcdhjcaaDoorOpenA
import Derived.ProofKit
import Derived.LaidMore
import Derived.OpenShut
import Derived.Stop.Joined
import Derived.SevenTiedAt
namespace Go.Proofs.YtkliokdpcdhjcaaDoor
open Go.ChangeShapes Go.WideShapes Go.ChangeAt Go.RowKit Go.Deep
set_option maxRecDepth 100000 in
theorem open_i64_3 {H : Type} {enc : TypeId × Value → H} {w : World} {base : Nat} {spare : Nat → Bool} {held : Bool} {fuel : Nat} {cs : List Value} {y : DataW H × List MemPlace} (h : DataW.trod enc Tryd.prog w base spare held fuel 3 cs = some y) (hw : Snug Tryd.prog 3 y.1) : ∃ x : Int, R_i64.p (fun k => k < w.heap.size) w cs x ∧ inK .i64 x := by
  obtain ⟨x, e, _, ok⟩ := DataW.trod_int Tryd.underlying3 h
  exact ⟨x, ⟨(), e, ask_nil⟩, wf_inK ok⟩
set_option maxRecDepth 100000 in
theorem open_Api_TokenD_24 {H : Type} {enc : TypeId × Value → H} {w : World} {base : Nat} {spare : Nat → Bool} {held : Bool} {fuel : Nat} {cs : List Value} {y : DataW H × List MemPlace} (h : DataW.trod enc Tryd.prog w base spare held fuel 24 cs = some y) (hw : Snug Tryd.prog 24 y.1) : ∃ x : Api_TokenD, R_Api_TokenD.p (fun k => k < w.heap.size) w cs x ∧ ok_Api_TokenD x := by
  obtain ⟨n, hl, hf⟩ := trod_fields Tryd.underlying24 h hw
  have c : Tryd.prog.cellsOf 24 = 2 := by kernel_rfl
  rw [c] at hl
  match cs, hl with
  | [c0, c1], _ =>
  obtain ⟨z0, h0, g0⟩ : ∃ z, DataW.trod enc Tryd.prog w base spare held n 3 ((List.drop 0 [c0, c1]).take (Tryd.prog.cellsOf 3)) = some z ∧ Snug Tryd.prog 3 z.1 := hf 0 _ rfl
  have d0 : Tryd.prog.cellsOf 3 = 1 := by kernel_rfl
  simp only [d0, List.drop_zero, List.take_succ_cons, List.take_zero, List.drop_succ_cons] at h0
  obtain ⟨z1, h1, g1⟩ : ∃ z, DataW.trod enc Tryd.prog w base spare held n 22 ((List.drop 1 [c0, c1]).take (Tryd.prog.cellsOf 22)) = some z ∧ Snug Tryd.prog 22 z.1 := hf 1 _ rfl
  have d1 : Tryd.prog.cellsOf 22 = 1 := by kernel_rfl
  simp only [d1, List.drop_zero, List.take_succ_cons, List.take_zero, List.drop_succ_cons] at h1
  obtain ⟨x0, ⟨r0, e0, f0⟩, ok0⟩ := open_i64_3 h0 g0
  simp only [C_i64, List.cons.injEq, and_true] at e0
  obtain rfl := e0
  obtain ⟨p1, k1, x1, e1, f1, ok1⟩ := open_listA Tryd.underlying22 (sz := 1) (R := R_i64) (q := fun y => inK .i64 y) (by kernel_rfl) (by decide) (fun _ _ _ h hw => open_i64_3 h hw) h1 g1
  replace ok1 := And.intro (le_of_bytes (m := 17592186043904) ok1.1 (by kernel_rfl : Tryd.prog.bytesOf 3 = 8) (by decide) (by decide) (by decide)) ok1.2
  simp only [List.cons.injEq, and_true] at e1
  subst e1
  exact ⟨⟨x0, x1⟩, ⟨(p1, k1), rfl, (ask_cons f1 ask_nil)⟩, ok0, ok1⟩
theorem law_own : ownKnob Tryd.prog.godebug = none := by kernel_rfl
theorem law_laid : laidOutB Tryd.prog = true := by kernel_rfl
theorem door_met (os : Os) (args : Array Value) : laidMetH Tryd.prog Rows.agendaBetterRow.laid ((World.doorLaid Tryd.prog 4000 os).forCall (fun _ _ => 0) ⟨#[], args, []⟩).memory :=
  laidMetH_of_parts3 (fuel := 8) (laidMet_of_run' 8 (by kernel_rfl) (by kernel_rfl)) (by kernel_rfl) (by kernel_rfl)
set_option maxRecDepth 100000 in
theorem agendaBetter_lifted (os : Os) (started : os.Started) (H : Type) (enc : TypeId × Value → H) :
    ReturnsInHanded {} Tryd.checked os 3 .any (fun w args => (Rows.agendaBetterSpec.pre enc Tryd.prog Tryd.f3 [] false w args ∧ laidMetH Tryd.prog Rows.agendaBetterRow.laid w) ∧ sizedMet enc Tryd.prog Tryd.f3 (OpenSpec.ofChange Rows.agendaBetterSpec) false w args)
      (Rows.agendaBetterSpec.post enc Tryd.prog Tryd.f3 false true false false) := by
  refine returnsInHanded_of_change_and (C := Tryd.checked) (X := fun w _ => laidMetH Tryd.prog Rows.agendaBetterRow.laid w) (fun _ _ _ hh h => h.of_heap hh) law_own started (by kernel_rfl) Tryd.func3
    (ChangeSpec.witness_shaped (enc := enc) (C := Tryd.checked) (os := os) (X := fun w _ => laidMetH Tryd.prog Rows.agendaBetterRow.laid w) false (World.doorLaid Tryd.prog 4000 os) #[.slice none 0 0, .agg #[.int .i64 0, .slice none 0 0], .agg #[.int .i64 0, .slice none 0 0]] 8 rfl (World.shaped_of_RefB (by kernel_rfl) (by kernel_rfl)) (by kernel_rfl) (by kernel_rfl) (by kernel_rfl) (door_met os _)) ?_
  intro W base args ds gs before hval0 hW hcnd hsz0 _ _
  have hval : ∀ (j : Nat) t v, Tryd.f3.params[j]? = some t → args[j]? = some v → Value.okWide Tryd.prog W .any base t v := hval0
  have hW' := hW
  obtain ⟨p, q, hA0, hV, rfl, hfz, hnd⟩ := hW
  have hA : DataW.TrodAll enc Tryd.prog W 0 (fun _ => true) true Tryd.f3.params.toList args.toList ds p := hA0
  have hsz : (DataW.weightsEach Tryd.prog (Tryd.f3.params.toList ++ _) (ds ++ gs)).all (· ≤ reachBytes) = true := hsz0
  rw [Tryd.params3] at hA hval hsz
  clear hA0 hval0 hsz0
  obtain ⟨args⟩ := args
  obtain ⟨v0, r0, d0, s0, p0, q0, e0, rfl, rfl, ⟨n0, h0⟩, hA⟩ := trodAll_cons hA
  obtain ⟨v1, r1, d1, s1, p1, q1, e1, rfl, rfl, ⟨n1, h1⟩, hA⟩ := trodAll_cons hA
  obtain ⟨v2, r2, d2, s2, p2, q2, e2, rfl, rfl, ⟨n2, h2⟩, hA⟩ := trodAll_cons hA
  obtain ⟨e3, rfl, rfl⟩ := trodAll_nil hA
  subst e3; subst e2; subst e1
  simp only at e0
  subst e0
  obtain ⟨rfl, rfl⟩ := trodVars_none hV
  rw [okWide_sl Tryd.underlying22 (hval 0 _ v0 rfl rfl)] at h0
  obtain ⟨pa0, ca0, x0, e, hs0, ok0⟩ := open_listA Tryd.underlying22 (sz := 1) (R := R_i64) (q := fun y => inK .i64 y) (by kernel_rfl) (by decide) (fun _ _ _ h hw => open_i64_3 h hw) h0 (fits_arg hsz 0 rfl rfl)
  replace ok0 := And.intro (Nat.le_trans (le_of_bytes (m := 17592186043904) ok0.1 (by kernel_rfl : Tryd.prog.bytesOf 3 = 8) (by decide) (by decide) (by decide)) (by decide : 17592186043904 ≤ 140737488351232)) ok0.2
  simp only [List.cons.injEq, and_true] at e
  subst e
  obtain ⟨⟨c1⟩, rfl⟩ := okWide_agg Tryd.underlying24 (hval 1 _ v1 rfl rfl)
  obtain ⟨x1, ⟨r1, e, f1⟩, ok1⟩ := open_Api_TokenD_24 h1 (fits_arg hsz 1 rfl rfl)
  replace e : c1 = C_Api_TokenD x1 r1 := e
  subst e
  obtain ⟨⟨c2⟩, rfl⟩ := okWide_agg Tryd.underlying24 (hval 2 _ v2 rfl rfl)
  obtain ⟨x2, ⟨r2, e, f2⟩, ok2⟩ := open_Api_TokenD_24 h2 (fits_arg hsz 2 rfl rfl)
  replace e : c2 = C_Api_TokenD x2 r2 := e
  subst e
  have hcall := spec_calls (w_ropewalklaw14_AgendaBetter_s 9223372036854776808 pa0 ca0 x0 x1.rule r1.1 r1.2 x1.ids x2.rule r2.1 r2.2 x2.ids _ (agbet_arg x0 ok0 x1 ok1 x2 ok2)) (w := W) (ask_cons hs0 (ask_cons (f1 _ (mem_at (k := 0) rfl)) (ask_cons (f2 _ (mem_at (k := 0) rfl)) ask_nil)))
  refine hcall.mono fun e W' ⟨he, hm⟩ => ?_
  subst he
  have hb : Below W.heap.size W W' := hm.to_below (Nat.le_refl _) (fun _ h => h.elim)
  refine ⟨_, rfl, law_post law_laid ?_ rfl Tryd.underlying4 rfl hW' rfl rfl rfl hb⟩
  rw [Tryd.params3]
  intro t ht
  simp only [List.mem_cons, List.not_mem_nil, or_false] at ht
  rcases ht with rfl | rfl | rfl <;> exact ⟨by kernel_rfl, of_decide_eq_true (by kernel_rfl)⟩
theorem agendaBetter_row : Rows.AgendaBetterSaid :=
  OpenClaim.holds_of_wide 3 Tryd.f3 rfl rfl rfl rfl rfl rfl rfl ⟨rfl, rfl, rfl, rfl, rfl⟩ rfl rfl rfl rfl rfl (by kernel_rfl) Tryd.func3 (by kernel_rfl)
    (of_decide_eq_true (by kernel_rfl)) (by unfold Func.isWrapper; first | (rw [if_pos (by decide +kernel)]; kernel_rfl) | (rw [if_neg (by decide +kernel)]; exact ⟨rfl, rfl⟩))
    (fun os started H enc _ => agendaBetter_lifted os started H enc)
theorem agenda_better : Rows.AgendaBetterCardSaid :=
  Claim7.holds_tied_plain_at .later [] [.data, .data, .data] true (true, "22a6cefba99f5f3db637a6b092abb5a74461b91fb571e2012b4470af5290f417") false
    agendaBetter_row (fun _ h => by cases h) (by kernel_rfl) (fun _ h => by cases h) agendaBetter_row_tie rfl ⟨rfl, rfl⟩ (by kernel_rfl) rfl
    (fun f fn hf hfn => by
      obtain rfl : f = 3 := Option.some.inj ((show Tryd.prog.funcNamed "ropewalk/ropewalklaw14.AgendaBetter" = some 3 by kernel_rfl).symm.trans hf) |>.symm
      obtain rfl : fn = Tryd.f3 := (Option.some.inj (Tryd.func3.symm.trans hfn)).symm
      exact ⟨by kernel_rfl, fun j t ht => by
        rw [Tryd.params3] at ht
        have hm : t ∈ [22, 24, 24] := by simpa using Array.mem_of_getElem? ht
        have hall : ([22, 24, 24].all fun u => !Tryd.prog.wantsStandIn u) = true := by kernel_rfl
        exact (show Tryd.prog.wantsStandIn t = false by simpa using List.all_eq_true.1 hall t hm)⟩)
    (by kernel_rfl)
#print axioms agenda_better
end Go.Proofs.YtkliokdpcdhjcaaDoor
