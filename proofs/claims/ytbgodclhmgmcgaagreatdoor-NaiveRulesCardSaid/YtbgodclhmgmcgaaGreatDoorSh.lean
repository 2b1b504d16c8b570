import Derived.Test.YtbgodclhmgmcgaaGreatDoorAuto
import Derived.Test.YtbgodclhmgmcgaaGreatDoorShelf
import Derived.Shelf.Strings.SlTrimAscii
namespace Go.Proofs.YtbgodclhmgmcgaaGreatDoor
open Go Go.RowKit
theorem spec_pure {P:Program} {f:FuncId} {args:List Value} {v:Value} (h : ∀ w,Calls P f args.toArray w fun e w'=>e = .returned v ∧ Below w.heap.size w w'):Q14 P f args [] [] (fun u Φr Hr=>u = v ∧ Φr = [] ∧ Hr = []):=by
 intro F N w hF _ _ _ _
 refine (h w).mono fun e w' ⟨he,hb⟩=>⟨v,[],[],he,⟨rfl,rfl,rfl⟩,?_⟩
 have h0:Q13 ⟨w,fun k=>∃ i,i < ([] : List Fact).length ∧ N i k,F⟩ [] [] w :=
  ⟨F,N,hF,fun _ h=>h,fun _ h=>.inl h,fun φ hφ=>(by cases hφ),fun i φ h=>(by simp at h),fun i k hi=>(by simp at hi),fun i j k hi=>(by simp at hi),Mod.refl _ _⟩
 exact h0.drew' hb
theorem spec_same {P:Program} {f:FuncId} {args:List Value} {v:Value} (h : ∀ w,Calls P f args.toArray w fun e w'=>e = .returned v ∧ w' = w):Q14 P f args [] [] (fun u Φr Hr=>u = v ∧ Φr = [] ∧ Hr = []) :=
 spec_pure fun w=>(h w).mono fun e w' ⟨he,hw⟩=>⟨he,hw ▸ Below.refl _ _⟩
end Go.Proofs.YtbgodclhmgmcgaaGreatDoor
namespace Go.Proofs.YtbgodclhmgmcgaaGreatDoor
open Go Go.RowKit
theorem sh_IndexByte (s:ByteArray) (c:Int):Q14 Tryz.prog 141 [.string s,.int .u8 c] [] [] (fun u Φr Hr=>u = .int .i64 (Lib.indexByte s.data.toList c.toNat.toUInt8) ∧ Φr = [] ∧ Hr = []):=spec_same fun w=>Tryz.strings_IndexByte s c w
theorem sh_Trim (s c:ByteArray) (hc:c.size < 4294967281) (ha : ∀ (j:Nat) b,c.data.toList[j]? = some b → b.toNat < 128) (hs:s.size ≤ 9223372036854775807):Q14 Tryz.prog 142 [.string s,.string c] [] [] (fun u Φr Hr=>u = .string ⟨(Lib.trimS s.data.toList c.data.toList).toArray⟩ ∧ Φr = [] ∧ Hr = []):=spec_pure fun w=>Any.strings_Trim_laid Tryz.lays160 (by kernel_rfl) s c w hs hc ha
theorem sh_Mul64 (x y:Int) (hx : 0 ≤ x ∧ x < 18446744073709551616) (hy : 0 ≤ y ∧ y < 18446744073709551616):Q14 Tryz.prog 195 [.int .u64 x,.int .u64 y] [] [] (fun u Φr Hr=>u = .tuple #[.int .u64 ((x.toNat * y.toNat / 18446744073709551616:Nat):Int),.int .u64 ((x.toNat * y.toNat % 18446744073709551616:Nat):Int)] ∧ Φr = [] ∧ Hr = []):=spec_same fun w=>by
 obtain ⟨a,rfl⟩:=Int.eq_ofNat_of_zero_le hx.1
 obtain ⟨b,rfl⟩:=Int.eq_ofNat_of_zero_le hy.1
 simp only [Int.toNat_natCast]
 exact Tryz.bits_Mul64 a b (by omega) (by omega) w
end Go.Proofs.YtbgodclhmgmcgaaGreatDoor
