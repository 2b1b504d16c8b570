import Derived.Test.YtgangmegcejllaaDoorRows
import Derived.Test.YtgangmegcejllaaDoorCards
import Derived.Test.YtgangmegcejllaaDoorTie
import Derived.Test.YtgangmegcejllaaDoorXW1
import Derived.Test.YtgangmegcejllaaDoorXW2
import Derived.Test.YtgangmegcejllaaDoorXW3
import Derived.Test.YtgangmegcejllaaDoorXW4
import Derived.Test.YtgangmegcejllaaDoorAgOrdP
import Derived.Test.YtgangmegcejllaaDoorLawG
import Derived.Test.YtgangmegcejllaaDoorRec
import Derived.ProofKit
import Derived.LaidMore
import Derived.OpenShut
import Derived.Stop.Joined
import Derived.SevenTiedAt
namespace Go.Proofs.YtgangmegcejllaaDoor
open Go.ChangeShapes Go.WideShapes Go.ChangeAt Go.RowKit Go.Deep
set_option maxRecDepth 100000 in
theorem open_i64_3 {H : Type} {enc : TypeId × Value → H} {w : World} {base : Nat} {spare : Nat → Bool} {held : Bool} {fuel : Nat} {cs : List Value} {y : DataW H × List MemPlace} (h : DataW.trod enc Tryd.prog w base spare held fuel 3 cs = some y) (hw : Snug Tryd.prog 3 y.1) : ∃ x : Int, R_i64.p (fun k => k < w.heap.size) w cs x ∧ inK .i64 x := by
  obtain ⟨x, e, _, ok⟩ := DataW.trod_int Tryd.underlying3 h
  exact ⟨x, ⟨(), e, ask_nil⟩, wf_inK ok⟩
set_option maxRecDepth 100000 in
theorem open_Api_TokenD_33 {H : Type} {enc : TypeId × Value → H} {w : World} {base : Nat} {spare : Nat → Bool} {held : Bool} {fuel : Nat} {cs : List Value} {y : DataW H × List MemPlace} (h : DataW.trod enc Tryd.prog w base spare held fuel 33 cs = some y) (hw : Snug Tryd.prog 33 y.1) : ∃ x : Api_TokenD, R_Api_TokenD.p (fun k => k < w.heap.size) w cs x ∧ ok_Api_TokenD x := by
  obtain ⟨n, hl, hf⟩ := trod_fields Tryd.underlying33 h hw
  have c : Tryd.prog.cellsOf 33 = 2 := by kernel_rfl
  rw [c] at hl
  match cs, hl with
  | [c0, c1], _ =>
  obtain ⟨z0, h0, g0⟩ : ∃ z, DataW.trod enc Tryd.prog w base spare held n 3 ((List.drop 0 [c0, c1]).take (Tryd.prog.cellsOf 3)) = some z ∧ Snug Tryd.prog 3 z.1 := hf 0 _ rfl
  have d0 : Tryd.prog.cellsOf 3 = 1 := by kernel_rfl
  simp only [d0, List.drop_zero, List.take_succ_cons, List.take_zero, List.drop_succ_cons] at h0
  obtain ⟨z1, h1, g1⟩ : ∃ z, DataW.trod enc Tryd.prog w base spare held n 22 ((List.drop 1 [c0, c1]).take (Tryd.prog.cellsOf 22)) = some z ∧ Snug Tryd.prog 22 z.1 := hf 1 _ rfl
  have d1 : Tryd.prog.cellsOf 22 = 1 := by kernel_rfl
  simp only [d1, List.drop_zero, List.take_succ_cons, List.take_zero, List.drop_succ_cons] at h1
  obtain ⟨x0, ⟨r0, e0, f0⟩, ok0⟩ := open_i64_3 h0 g0
  simp only [C_i64, List.cons.injEq, and_true] at e0
  obtain rfl := e0
  obtain ⟨p1, k1, x1, e1, f1, ok1⟩ := open_listA Tryd.underlying22 (sz := 1) (R := R_i64) (q := fun y => inK .i64 y) (by kernel_rfl) (by decide) (fun _ _ _ h hw => open_i64_3 h hw) h1 g1
  replace ok1 := And.intro (le_of_bytes (m := 17592186043904) ok1.1 (by kernel_rfl : Tryd.prog.bytesOf 3 = 8) (by decide) (by decide) (by decide)) ok1.2
  simp only [List.cons.injEq, and_true] at e1
  subst e1
  exact ⟨⟨x0, x1⟩, ⟨(p1, k1), rfl, (ask_cons f1 ask_nil)⟩, ok0, ok1⟩
theorem law_own : ownKnob Tryd.prog.godebug = none := by kernel_rfl
theorem law_laid : laidOutB Tryd.prog = true := by kernel_rfl
theorem door_met (os : Os) (args : Array Value) : laidMetH Tryd.prog Rows.agendaOrderRow.laid ((World.doorLaid Tryd.prog 4000 os).forCall (fun _ _ => 0) ⟨#[], args, []⟩).memory :=
  laidMetH_of_parts3 (fuel := 8) (laidMet_of_run' 8 (by kernel_rfl) (by kernel_rfl)) (by kernel_rfl) (by kernel_rfl)
set_option maxRecDepth 100000 in
theorem agendaOrder_lifted (os : Os) (started : os.Started) (H : Type) (enc : TypeId × Value → H) :
    ReturnsInHanded {} Tryd.checked os 3 .any (fun w args => (Rows.agendaOrderSpec.pre enc Tryd.prog Tryd.f3 [] false w args ∧ laidMetH Tryd.prog Rows.agendaOrderRow.laid w) ∧ sizedMet enc Tryd.prog Tryd.f3 (OpenSpec.ofChange Rows.agendaOrderSpec) false w args)
      (Rows.agendaOrderSpec.post enc Tryd.prog Tryd.f3 false true false false) := by
  refine returnsInHanded_of_change_and (C := Tryd.checked) (X := fun w _ => laidMetH Tryd.prog Rows.agendaOrderRow.laid w) (fun _ _ _ hh h => h.of_heap hh) law_own started (by kernel_rfl) Tryd.func3
    (ChangeSpec.witness_shaped (enc := enc) (C := Tryd.checked) (os := os) (X := fun w _ => laidMetH Tryd.prog Rows.agendaOrderRow.laid w) false (World.doorLaid Tryd.prog 4000 os) #[.slice none 0 0, .slice none 0 0] 8 rfl (World.shaped_of_RefB (by kernel_rfl) (by kernel_rfl)) (by kernel_rfl) (by kernel_rfl) (by kernel_rfl) (door_met os _)) ?_
  intro W base args ds gs before hval0 hW hcnd hsz0 hL _
  have hval : ∀ (j : Nat) t v, Tryd.f3.params[j]? = some t → args[j]? = some v → Value.okWide Tryd.prog W .any base t v := hval0
  have hW' := hW
  obtain ⟨p, q, hA0, hV, rfl, hfz, hnd⟩ := hW
  have hA : DataW.TrodAll enc Tryd.prog W 0 (fun _ => true) true Tryd.f3.params.toList args.toList ds p := hA0
  have hsz : (DataW.weightsEach Tryd.prog (Tryd.f3.params.toList ++ _) (ds ++ gs)).all (· ≤ reachBytes) = true := hsz0
  rw [Tryd.params3] at hA hval hsz
  clear hA0 hval0 hsz0
  obtain ⟨args⟩ := args
  obtain ⟨v0, r0, d0, s0, p0, q0, e0, rfl, rfl, ⟨n0, h0⟩, hA⟩ := trodAll_cons hA
  obtain ⟨v1, r1, d1, s1, p1, q1, e1, rfl, rfl, ⟨n1, h1⟩, hA⟩ := trodAll_cons hA
  obtain ⟨e2, rfl, rfl⟩ := trodAll_nil hA
  subst e2; subst e1
  simp only at e0
  subst e0
  obtain ⟨rfl, rfl⟩ := trodVars_none hV
  rw [okWide_sl Tryd.underlying22 (hval 0 _ v0 rfl rfl)] at h0
  obtain ⟨pa0, ca0, x0, e, hs0, ok0⟩ := open_listA Tryd.underlying22 (sz := 1) (R := R_i64) (q := fun y => inK .i64 y) (by kernel_rfl) (by decide) (fun _ _ _ h hw => open_i64_3 h hw) h0 (fits_arg hsz 0 rfl rfl)
  replace ok0 := And.intro (Nat.le_trans (le_of_bytes (m := 17592186043904) ok0.1 (by kernel_rfl : Tryd.prog.bytesOf 3 = 8) (by decide) (by decide) (by decide)) (by decide : 17592186043904 ≤ 140737488351232)) ok0.2
  simp only [List.cons.injEq, and_true] at e
  subst e
  rw [okWide_sl Tryd.underlying23 (hval 1 _ v1 rfl rfl)] at h1
  obtain ⟨pa1, ca1, x1, e, hs1, ok1⟩ := open_listA Tryd.underlying23 (sz := 2) (R := R_Api_TokenD) (q := fun y => ok_Api_TokenD y) (by kernel_rfl) (by decide) (fun _ _ _ h hw => open_Api_TokenD_33 h hw) h1 (fits_arg hsz 1 rfl rfl)
  replace ok1 := And.intro (Nat.le_trans (le_of_bytes (m := 4398046510976) ok1.1 (by kernel_rfl : Tryd.prog.bytesOf 33 = 32) (by decide) (by decide) (by decide)) (by decide : 4398046510976 ≤ 140737488351232)) ok1.2
  simp only [List.cons.injEq, and_true] at e
  subst e
  have hfil := (laidMetH_iff.1 hL).1.filter (fun x => x.1 == "internal/strconv.uint64pow10")
  have efil : ((Rows.agendaOrderRow.laid.filter fun x => x.2.handleName?.isNone).filter fun x => x.1 == "internal/strconv.uint64pow10") = [("internal/strconv.uint64pow10", Lib.tabData .u64 Lib.pow10Tab)] := by kernel_rfl
  rw [efil] at hfil
  have htab : Lib.TabIs Tryd.prog W "internal/strconv.uint64pow10" .u64 Lib.pow10Tab := Lib.tabIs_of_head (t := 112) (e := 86) (n := 20) pow10_g (by kernel_rfl) (by kernel_rfl) (by kernel_rfl) (by kernel_rfl) (by kernel_rfl) hfil
  have hcall := spec_calls (w_ropewalklaw14_AgendaOrder_s 9223372036854776808 pa0 ca0 x0 pa1 ca1 x1 _ (agord_arg x0 ok0 x1 ok1)) (w := W) (ask_cons hs0 (ask_cons hs1 (ask_cons (tabF_of htab) ask_nil)))
  refine hcall.mono fun e W' ⟨he, hm⟩ => ?_
  subst he
  have hb : Below W.heap.size W W' := hm.to_below (Nat.le_refl _) (fun _ h => h.elim)
  refine ⟨_, rfl, law_post law_laid ?_ rfl Tryd.underlying4 rfl hW' rfl rfl rfl hb⟩
  rw [Tryd.params3]
  intro t ht
  simp only [List.mem_cons, List.not_mem_nil, or_false] at ht
  rcases ht with rfl | rfl <;> exact ⟨by kernel_rfl, of_decide_eq_true (by kernel_rfl)⟩
theorem agendaOrder_row : Rows.AgendaOrderSaid :=
  OpenClaim.holds_of_wide 3 Tryd.f3 rfl rfl rfl rfl rfl rfl rfl ⟨rfl, rfl, rfl, rfl, rfl⟩ rfl rfl rfl rfl rfl (by kernel_rfl) Tryd.func3 (by kernel_rfl)
    (of_decide_eq_true (by kernel_rfl)) (by unfold Func.isWrapper; first | (rw [if_pos (by decide +kernel)]; kernel_rfl) | (rw [if_neg (by decide +kernel)]; exact ⟨rfl, rfl⟩))
    (fun os started H enc _ => agendaOrder_lifted os started H enc)
theorem agenda_order : Rows.AgendaOrderCardSaid :=
  Claim7.holds_tied_plain_at .later [] [.data, .data, .data] true (true, "0717ea90b5986c90efdd5499c4f02d9c9674cb5d9be1e74ab070988b6f6c70f1") false
    agendaOrder_row (fun _ h => by cases h) (by kernel_rfl) (fun _ h => by cases h) agendaOrder_row_tie rfl ⟨rfl, rfl⟩ (by kernel_rfl) rfl
    (fun f fn hf hfn => by
      obtain rfl : f = 3 := Option.some.inj ((show Tryd.prog.funcNamed "ropewalk/ropewalklaw14.AgendaOrder" = some 3 by kernel_rfl).symm.trans hf) |>.symm
      obtain rfl : fn = Tryd.f3 := (Option.some.inj (Tryd.func3.symm.trans hfn)).symm
      exact ⟨by kernel_rfl, fun j t ht => by
        rw [Tryd.params3] at ht
        have hm : t ∈ [22, 23] := by simpa using Array.mem_of_getElem? ht
        have hall : ([22, 23].all fun u => !Tryd.prog.wantsStandIn u) = true := by kernel_rfl
        exact (show Tryd.prog.wantsStandIn t = false by simpa using List.all_eq_true.1 hall t hm)⟩)
    (by kernel_rfl)
#print axioms agenda_order
end Go.Proofs.YtgangmegcejllaaDoor
