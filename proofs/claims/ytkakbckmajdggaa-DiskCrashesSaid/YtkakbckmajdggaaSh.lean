/- Contracts of the library as Specs. -/
import Derived.Test.YtkakbckmajdggaaShelf
import Derived.Test.YtkakbckmajdggaaShA
namespace Go.Proofs.Ytkakbckmajdggaa
open Go Go.RowKit
theorem sh_Mul64 (x y : Int) (hx : 0 ≤ x ∧ x < 18446744073709551616) (hy : 0 ≤ y ∧ y < 18446744073709551616) : Spec Try.prog 78 [.int .u64 x, .int .u64 y] [] [] (fun u Φr Hr => u = .tuple #[.int .u64 ((x.toNat * y.toNat / 18446744073709551616 : Nat) : Int), .int .u64 ((x.toNat * y.toNat % 18446744073709551616 : Nat) : Int)] ∧ Φr = [] ∧ Hr = []) := spec_same fun w => by
  obtain ⟨a, rfl⟩ := Int.eq_ofNat_of_zero_le hx.1
  obtain ⟨b, rfl⟩ := Int.eq_ofNat_of_zero_le hy.1
  simp only [Int.toNat_natCast]
  exact Try.bits_Mul64 a b (by omega) (by omega) w
end Go.Proofs.Ytkakbckmajdggaa
