/- Contracts of the library as Specs. -/
import Derived.Test.YtdnolbmbmncefaaDoorShelf
import Derived.Test.YtdnolbmbmncefaaDoorShA
import Derived.Shelf.Strings.SlTrimAscii
namespace Go.Proofs.YtdnolbmbmncefaaDoor
open Go Go.RowKit
theorem sh_IndexByte (s : ByteArray) (c : Int) : Spec Tryd.prog 44 [.string s, .int .u8 c] [] [] (fun u Φr Hr => u = .int .i64 (Lib.indexByte s.data.toList c.toNat.toUInt8) ∧ Φr = [] ∧ Hr = []) := spec_same fun w => Tryd.strings_IndexByte s c w
theorem sh_Trim (s c : ByteArray) (hc : c.size < 4294967281) (ha : ∀ (j : Nat) b, c.data.toList[j]? = some b → b.toNat < 128) (hs : s.size ≤ 9223372036854775807) : Spec Tryd.prog 45 [.string s, .string c] [] [] (fun u Φr Hr => u = .string ⟨(Lib.trimS s.data.toList c.data.toList).toArray⟩ ∧ Φr = [] ∧ Hr = []) := spec_pure fun w => Any.strings_Trim_laid Tryd.lays160 (by kernel_rfl) s c w hs hc ha
end Go.Proofs.YtdnolbmbmncefaaDoor
