import Derived.Test.YtbgodclhmgmcgaaGreatDoorShelf
import Derived.Test.YtbgodclhmgmcgaaGreatDoorShA
import Derived.Shelf.Strings.SlTrimAscii
namespace Go.Proofs.YtbgodclhmgmcgaaGreatDoor
open Go Go.RowKit
theorem sh_IndexByte (s:ByteArray) (c:Int):Q1o Tryz.prog 141 [.string s,.int .u8 c] [] [] (fun u Φr Hr=>u = .int .i64 (Lib.indexByte s.data.toList c.toNat.toUInt8) ∧ Φr = [] ∧ Hr = []):=spec_same fun w=>Tryz.strings_IndexByte s c w
theorem sh_Trim (s c:ByteArray) (hc:c.size < 4294967281) (ha : ∀ (j:Nat) b,c.data.toList[j]? = some b → b.toNat < 128) (hs:s.size ≤ 9223372036854775807):Q1o Tryz.prog 142 [.string s,.string c] [] [] (fun u Φr Hr=>u = .string ⟨(Lib.trimS s.data.toList c.data.toList).toArray⟩ ∧ Φr = [] ∧ Hr = []):=spec_pure fun w=>Any.strings_Trim_laid Tryz.lays160 (by kernel_rfl) s c w hs hc ha
theorem sh_Mul64 (x y:Int) (hx : 0 ≤ x ∧ x < 18446744073709551616) (hy : 0 ≤ y ∧ y < 18446744073709551616):Q1o Tryz.prog 195 [.int .u64 x,.int .u64 y] [] [] (fun u Φr Hr=>u = .tuple #[.int .u64 ((x.toNat * y.toNat / 18446744073709551616:Nat):Int),.int .u64 ((x.toNat * y.toNat % 18446744073709551616:Nat):Int)] ∧ Φr = [] ∧ Hr = []):=spec_same fun w=>by
 obtain ⟨a,rfl⟩:=Int.eq_ofNat_of_zero_le hx.1
 obtain ⟨b,rfl⟩:=Int.eq_ofNat_of_zero_le hy.1
 simp only [Int.toNat_natCast]
 exact Tryz.bits_Mul64 a b (by omega) (by omega) w
end Go.Proofs.YtbgodclhmgmcgaaGreatDoor
