import Derived.Test.YtgangmegcejllaaGreatDoorShelf
import Derived.Test.YtgangmegcejllaaGreatDoorAuto
import Derived.Test.YtgangmegcejllaaGreatDoorText
import Derived.Deep.Draws
namespace Go.Proofs.YtgangmegcejllaaGreatDoor
open Go Go.RowKit
theorem pow10_g:Tryz.prog.globalNamed "internal/strconv.uint64pow10" = some 0:=by kernel_rfl
abbrev tF:Fact:=tabF Tryz.prog "internal/strconv.uint64pow10" .u64 Lib.pow10Tab 0 pow10_g
theorem sh_Itoa (n:Int) (h : -9223372036854775808 ≤ n ∧ n ≤ 9223372036854775807):Q1z Tryz.prog 95 [.int .i64 n] [tabF Tryz.prog "internal/strconv.uint64pow10" .u64 Lib.pow10Tab 0 pow10_g] [] (fun u Φr Hr=>u = .string (itoaF n) ∧ Φr = [] ∧ Hr = []):=by
 rw [← itoaF_eq h]
 refine spec_tab fun w ht=>(Tryz.strconv_Itoa n h.1 h.2 w ht).mono fun e w' ⟨he,k,os,hw⟩=>⟨he,?_⟩
 subst hw
 have h1:=drewN_below w k
 exact ⟨h1.os,h1.tape,h1.output,Nat.le_trans h1.size (by simp [Go.Sort.grow]),fun q hq=>by
  have h2:=h1.block q hq
  have h3:q < (w.drewN k).heap.size:=Nat.lt_of_lt_of_le hq h1.size
  simp only [Go.Sort.grow]
  rw [Array.getElem?_append_left h3]; exact h2⟩
end Go.Proofs.YtgangmegcejllaaGreatDoor
