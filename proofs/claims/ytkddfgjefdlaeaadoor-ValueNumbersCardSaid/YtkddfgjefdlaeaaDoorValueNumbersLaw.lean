/- PROVED: ropewalklaw01.ValueNumbers answers true whatever its input is, never panics, and leaves its input as it was. Conditions: those of the given statement, and no other. -/
import Derived.Test.YtkddfgjefdlaeaaDoorRows
import Derived.Test.YtkddfgjefdlaeaaDoorCards
import Derived.Test.YtkddfgjefdlaeaaDoorTie
import Derived.Test.YtkddfgjefdlaeaaDoorXW1
import Derived.Test.YtkddfgjefdlaeaaDoorXW2
import Derived.Test.YtkddfgjefdlaeaaDoorXW3
import Derived.Test.YtkddfgjefdlaeaaDoorXW4
import Derived.Test.YtkddfgjefdlaeaaDoorXW5
import Derived.Test.YtkddfgjefdlaeaaDoorValNumP
import Derived.Test.YtkddfgjefdlaeaaDoorLawG
import Derived.Test.YtkddfgjefdlaeaaDoorOpenA
import Derived.ProofKit
import Derived.LaidMore
import Derived.OpenShut
import Derived.Stop.Joined
import Derived.SevenTiedAt
namespace Go.Proofs.YtkddfgjefdlaeaaDoor
open Go.ChangeShapes Go.WideShapes Go.ChangeAt Go.RowKit Go.Deep
theorem law_own : ownKnob Tryd.prog.godebug = none := by kernel_rfl
theorem law_laid : laidOutB Tryd.prog = true := by kernel_rfl
def pinCells : Array Value := match Go.Pinned.utf8First with
  | .agg l => (l.map fun d => match d with | .lit (.int k n) => Value.int k n | _ => .bool false).toArray
  | _ => #[]
/-- The heap that the door leaves, the pinned table in its place. -/
noncomputable def pinW (os : Os) : World := { World.doorLaid Tryd.prog 4000 os with heap := match Tryd.prog.globalNamed "unicode/utf8.first" with
  | some g => match (((begin Tryd.prog (fun _ _ => 0) default).world.heap[g]?).bind Obj.row?) with
    | some (_, t) => (World.doorLaid Tryd.prog 4000 os).heap.setIfInBounds g (.cells pinCells t (0, 0))
    | none => #[]
  | none => #[] }
theorem door_met (os : Os) (args : Array Value) : laidMetH Tryd.prog Rows.valueNumbersRow.laid ((pinW os).forCall (fun _ _ => 0) ⟨#[], args, []⟩).memory :=
  laidMetH_of_parts3 (fuel := 8) (laidMet_of_run' 8 (by kernel_rfl) (by kernel_rfl)) (by kernel_rfl) (by kernel_rfl)
set_option maxRecDepth 100000 in
theorem valueNumbers_lifted (os : Os) (started : os.Started) (H : Type) (enc : TypeId × Value → H) :
    ReturnsInHanded {} Tryd.checked os 4 .any (fun w args => (Rows.valueNumbersSpec.pre enc Tryd.prog Tryd.f4 [] false w args ∧ laidMetH Tryd.prog Rows.valueNumbersRow.laid w) ∧ sizedMet enc Tryd.prog Tryd.f4 (OpenSpec.ofChange Rows.valueNumbersSpec) false w args)
      (Rows.valueNumbersSpec.post enc Tryd.prog Tryd.f4 false true false false) := by
  refine returnsInHanded_of_change_and (C := Tryd.checked) (X := fun w _ => laidMetH Tryd.prog Rows.valueNumbersRow.laid w) (fun _ _ _ hh h => h.of_heap hh) law_own started (by kernel_rfl) Tryd.func4
    (ChangeSpec.witness_shaped (enc := enc) (C := Tryd.checked) (os := os) (X := fun w _ => laidMetH Tryd.prog Rows.valueNumbersRow.laid w) false (pinW os) #[] 8 rfl (World.shaped_of_RefB (by kernel_rfl) (by kernel_rfl)) (by kernel_rfl) (by kernel_rfl) (by kernel_rfl) (door_met os _)) ?_
  intro W base args ds gs before hval0 hW hcnd hsz0 hL _
  have hval : ∀ (j : Nat) t v, Tryd.f4.params[j]? = some t → args[j]? = some v → Value.okWide Tryd.prog W .any base t v := hval0
  have hW' := hW
  obtain ⟨p, q, hA0, hV, rfl, hfz, hnd⟩ := hW
  have hA : DataW.TrodAll enc Tryd.prog W 0 (fun _ => true) true Tryd.f4.params.toList args.toList ds p := hA0
  have hsz : (DataW.weightsEach Tryd.prog (Tryd.f4.params.toList ++ _) (ds ++ gs)).all (· ≤ reachBytes) = true := hsz0
  rw [Tryd.params4] at hA hval hsz
  clear hA0 hval0 hsz0
  obtain ⟨args⟩ := args
  obtain ⟨e0, rfl, rfl⟩ := trodAll_nil hA
  simp only at e0
  subst e0
  obtain ⟨rfl, rfl⟩ := trodVars_none hV
  have hfil := (laidMetH_iff.1 hL).1.filter (fun x => x.1 == "internal/strconv.uint64pow10")
  have efil : ((Rows.valueNumbersRow.laid.filter fun x => x.2.handleName?.isNone).filter fun x => x.1 == "internal/strconv.uint64pow10") = [("internal/strconv.uint64pow10", Lib.tabData .u64 Lib.pow10Tab)] := by kernel_rfl
  rw [efil] at hfil
  have htab : Lib.TabIs Tryd.prog W "internal/strconv.uint64pow10" .u64 Lib.pow10Tab := Lib.tabIs_of_head (t := 89) (e := 66) (n := 20) pow10_g (by kernel_rfl) (by kernel_rfl) (by kernel_rfl) (by kernel_rfl) (by kernel_rfl) hfil
  have hcall := spec_calls (w_ropewalklaw01_ValueNumbers_s 9223372036854775808  _ (valnum_arg )) (w := W) (ask_cons (tabF_of htab) ask_nil)
  refine hcall.mono fun e W' ⟨he, hm⟩ => ?_
  subst he
  have hb : Below W.heap.size W W' := hm.to_below (Nat.le_refl _) (fun _ h => h.elim)
  refine ⟨_, rfl, law_post law_laid ?_ rfl Tryd.underlying4 rfl hW' rfl rfl rfl hb⟩
  rw [Tryd.params4]
  intro t ht
  cases ht
theorem valueNumbers_row : Rows.ValueNumbersSaid :=
  OpenClaim.holds_of_wide 4 Tryd.f4 rfl rfl rfl rfl rfl rfl rfl ⟨rfl, rfl, rfl, rfl, rfl⟩ rfl rfl rfl rfl rfl (by kernel_rfl) Tryd.func4 (by kernel_rfl)
    (of_decide_eq_true (by kernel_rfl)) (by unfold Func.isWrapper; first | (rw [if_pos (by decide +kernel)]; kernel_rfl) | (rw [if_neg (by decide +kernel)]; exact ⟨rfl, rfl⟩))
    (fun os started H enc _ => valueNumbers_lifted os started H enc)
theorem value_numbers : Rows.ValueNumbersCardSaid :=
  Claim7.holds_tied_plain_at .later [] [.data, .data, .data, .data, .pinned] true (true, "d2bad50c0c8b898b1feecddb406fcfce5b69e13a00be2c424d217b2023a3907d") false
    valueNumbers_row (fun _ h => by cases h) (by kernel_rfl) (fun _ h => by cases h) valueNumbers_row_tie rfl ⟨rfl, rfl⟩ (by kernel_rfl) rfl
    (fun f fn hf hfn => by
      obtain rfl : f = 4 := Option.some.inj ((show Tryd.prog.funcNamed "ropewalk/ropewalklaw01.ValueNumbers" = some 4 by kernel_rfl).symm.trans hf) |>.symm
      obtain rfl : fn = Tryd.f4 := (Option.some.inj (Tryd.func4.symm.trans hfn)).symm
      exact ⟨by kernel_rfl, fun j t ht => by
        rw [Tryd.params4] at ht
        have hm : t ∈ [] := by simpa using Array.mem_of_getElem? ht
        have hall : ([].all fun u => !Tryd.prog.wantsStandIn u) = true := by kernel_rfl
        exact (show Tryd.prog.wantsStandIn t = false by simpa using List.all_eq_true.1 hall t hm)⟩)
    (by kernel_rfl)
#print axioms value_numbers
end Go.Proofs.YtkddfgjefdlaeaaDoor
