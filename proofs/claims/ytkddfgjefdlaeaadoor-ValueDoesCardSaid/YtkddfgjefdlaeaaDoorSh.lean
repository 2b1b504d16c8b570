/- Contracts of the library as Specs. -/
import Derived.Test.YtkddfgjefdlaeaaDoorShelf
import Derived.Test.YtkddfgjefdlaeaaDoorShA
import Derived.Shelf.Strings.SlTrimAscii
import Derived.Test.YtkddfgjefdlaeaaDoorText
import Derived.Deep.Draws
namespace Go.Proofs.YtkddfgjefdlaeaaDoor
open Go Go.RowKit
theorem sh_IndexByte (s : ByteArray) (c : Int) : Spec Tryd.prog 48 [.string s, .int .u8 c] [] [] (fun u Φr Hr => u = .int .i64 (Lib.indexByte s.data.toList c.toNat.toUInt8) ∧ Φr = [] ∧ Hr = []) := spec_same fun w => Tryd.strings_IndexByte s c w
theorem sh_Trim (s c : ByteArray) (hc : c.size < 4294967281) (ha : ∀ (j : Nat) b, c.data.toList[j]? = some b → b.toNat < 128) (hs : s.size ≤ 9223372036854775807) : Spec Tryd.prog 49 [.string s, .string c] [] [] (fun u Φr Hr => u = .string ⟨(Lib.trimS s.data.toList c.data.toList).toArray⟩ ∧ Φr = [] ∧ Hr = []) := spec_pure fun w => Any.strings_Trim_laid Tryd.lays160 (by kernel_rfl) s c w hs hc ha
theorem sh_Compare (a b : ByteArray) : Spec Tryd.prog 32 [.string a, .string b] [] [] (fun u Φr Hr => u = .int .i64 (Lib.compareBytes a.data.toList b.data.toList) ∧ Φr = [] ∧ Hr = []) := spec_same fun w => Tryd.strings_Compare a b w
theorem sh_Mul64 (x y : Int) (hx : 0 ≤ x ∧ x < 18446744073709551616) (hy : 0 ≤ y ∧ y < 18446744073709551616) : Spec Tryd.prog 54 [.int .u64 x, .int .u64 y] [] [] (fun u Φr Hr => u = .tuple #[.int .u64 ((x.toNat * y.toNat / 18446744073709551616 : Nat) : Int), .int .u64 ((x.toNat * y.toNat % 18446744073709551616 : Nat) : Int)] ∧ Φr = [] ∧ Hr = []) := spec_same fun w => by
  obtain ⟨a, rfl⟩ := Int.eq_ofNat_of_zero_le hx.1
  obtain ⟨b, rfl⟩ := Int.eq_ofNat_of_zero_le hy.1
  simp only [Int.toNat_natCast]
  exact Tryd.bits_Mul64 a b (by omega) (by omega) w
theorem pow10_g : Tryd.prog.globalNamed "internal/strconv.uint64pow10" = some 1 := by kernel_rfl
theorem sh_FormatInt (n : Int) (h : -9223372036854775808 ≤ n ∧ n ≤ 9223372036854775807) : Spec Tryd.prog 33 [.int .i64 n, .int .i64 10] [tabF Tryd.prog "internal/strconv.uint64pow10" .u64 Lib.pow10Tab 1 pow10_g] [] (fun u Φr Hr => u = .string (itoaF n) ∧ Φr = [] ∧ Hr = []) := by
  rw [← itoaF_eq h]
  refine spec_tab fun w ht => (Tryd.strconv_FormatInt_10 n h.1 h.2 w ht).mono fun e w' ⟨he, k, os, hw⟩ => ⟨he, ?_⟩
  subst hw
  have h1 := drewN_below w k
  exact ⟨h1.os, h1.tape, h1.output, Nat.le_trans h1.size (by simp [Go.Sort.grow]), fun q hq => by
    have h2 := h1.block q hq
    have h3 : q < (w.drewN k).heap.size := Nat.lt_of_lt_of_le hq h1.size
    simp only [Go.Sort.grow]
    rw [Array.getElem?_append_left h3]; exact h2⟩
end Go.Proofs.YtkddfgjefdlaeaaDoor
