import Derived.Test.YtohkfpobgjkpdaaDoorShelf
import Derived.Test.YtohkfpobgjkpdaaDoorShA
import Derived.Shelf.Strings.SlTrimAscii
namespace Go.Proofs.YtohkfpobgjkpdaaDoor
open Go Go.RowKit
theorem sh_IndexByte (s : ByteArray) (c : Int) : Spec Tryd.prog 51 [.string s, .int .u8 c] [] [] (fun u Φr Hr => u = .int .i64 (Lib.indexByte s.data.toList c.toNat.toUInt8) ∧ Φr = [] ∧ Hr = []) := spec_same fun w => Tryd.strings_IndexByte s c w
theorem sh_Trim (s c : ByteArray) (hc : c.size < 4294967281) (ha : ∀ (j : Nat) b, c.data.toList[j]? = some b → b.toNat < 128) (hs : s.size ≤ 9223372036854775807) : Spec Tryd.prog 52 [.string s, .string c] [] [] (fun u Φr Hr => u = .string ⟨(Lib.trimS s.data.toList c.data.toList).toArray⟩ ∧ Φr = [] ∧ Hr = []) := spec_pure fun w => Any.strings_Trim_laid Tryd.lays160 (by kernel_rfl) s c w hs hc ha
theorem sh_Mul64 (x y : Int) (hx : 0 ≤ x ∧ x < 18446744073709551616) (hy : 0 ≤ y ∧ y < 18446744073709551616) : Spec Tryd.prog 53 [.int .u64 x, .int .u64 y] [] [] (fun u Φr Hr => u = .tuple #[.int .u64 ((x.toNat * y.toNat / 18446744073709551616 : Nat) : Int), .int .u64 ((x.toNat * y.toNat % 18446744073709551616 : Nat) : Int)] ∧ Φr = [] ∧ Hr = []) := spec_same fun w => by
  obtain ⟨a, rfl⟩ := Int.eq_ofNat_of_zero_le hx.1
  obtain ⟨b, rfl⟩ := Int.eq_ofNat_of_zero_le hy.1
  simp only [Int.toNat_natCast]
  exact Tryd.bits_Mul64 a b (by omega) (by omega) w
end Go.Proofs.YtohkfpobgjkpdaaDoor
