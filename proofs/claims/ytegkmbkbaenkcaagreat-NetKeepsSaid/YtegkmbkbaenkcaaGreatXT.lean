import Derived.Test.YtegkmbkbaenkcaaGreatAuto
import Derived.Test.YtegkmbkbaenkcaaGreatPatD
import Derived.Test.YtegkmbkbaenkcaaGreatTypes
import Derived.Test.YtegkmbkbaenkcaaGreatLight
import Derived.Test.YtegkmbkbaenkcaaGreatAwN
import Derived.Shelf.Small.Bits
import Derived.Shelf.Strconv.Itoa0
import Derived.Ground.Names2Prog
import Derived.Shelf.Slices.SearchI
import Derived.Ground.SlsfProg
import Derived.Shelf.SlSortCmp.InsertionK
import Derived.Shelf.SlSortCmp.SiftDownK
import Derived.Shelf.SlSortCmp.HeapSortK
import Derived.Shelf.SlSortCmp.MedianK
import Derived.Shelf.SlSortCmp.PivotK
import Derived.Shelf.SlSortCmp.ReverseRangeK
import Derived.Shelf.SlSortCmp.PartialInsertionK
import Derived.Shelf.SlSortCmp.PartitionEqualK
import Derived.Shelf.SlSortCmp.PartitionK
import Derived.Shelf.SlSortCmp.PdqK
import Derived.Shelf.SlSortCmp.WholeK
import Derived.Shelf.SlSortCmp.NoneTotal
import Derived.Test.YtegkmbkbaenkcaaGreatProg
import Derived.Test.YtegkmbkbaenkcaaGreatMapE
import Derived.Test.YtegkmbkbaenkcaaGreatView
import Derived.Laws.BytesArg
import Derived.Laws.BytesString
import Derived.Laws.IdiomStrings
import Derived.Lib.LaidTab
import Derived.Lib.ItoaNum
import Derived.LaidSub
import Derived.Test.YtegkmbkbaenkcaaGreatTree
import Derived.Test.YtegkmbkbaenkcaaGreatShell
import Derived.Test.YtegkmbkbaenkcaaGreatShort
import Derived.Test.YtegkmbkbaenkcaaGreatMapP
import Derived.Test.YtegkmbkbaenkcaaGreatLent
import Derived.Test.YtegkmbkbaenkcaaGreatStr
import Derived.Lib.AppendZeros
import Derived.Test.YtegkmbkbaenkcaaGreatFlat
import Derived.Test.YtegkmbkbaenkcaaGreatApart
import Derived.Test.YtegkmbkbaenkcaaGreatRun
namespace Go.Proofs.YtegkmbkbaenkcaaGreat
open Go.RowKit
def C_u8 (x : Int) (_ : Unit) : List Value := [.int .u8 x]
def F_u8 (_ : Int) (_ : Unit) : List Fact := []
def R_u8 : Rep Int := mkRep C_u8 F_u8 (by intro x r u hu; simp [C_u8] at hu; subst hu; rfl)
theorem R_u8_opens : Opens R_u8 C_u8 (fun _ _ => True) F_u8 := mkRep_opens
def C_l_u8 (x : List Int) (r : Option Addr × Nat) : List Value := [.slice r.1 x.length r.2]
def G_l_u8 (x : List Int) (r : Option Addr × Nat) : List Fact := [.own 5 1 R_u8 (.slice r.1 x.length r.2) x]
def T_l_u8 : Tre (List Int) (Option Addr × Nat) := ⟨C_l_u8, G_l_u8, by intro x r u hu; simp [C_l_u8] at hu; subst hu; rfl⟩
theorem T_l_u8_free : T_l_u8.free := by
  intro x r φ hφ
  have hφ : φ ∈ G_l_u8 x r := hφ
  simp only [G_l_u8, List.mem_cons, List.not_mem_nil, or_false] at hφ
  subst hφ; exact own_free mkRep_free
def z_markByte (k i : Int) : Int := IntKind.wrap .u8 (Int.fdiv (IntKind.wrap .u64 ((IntKind.wrap .u64 (IntKind.wrap .i64 ((IntKind.wrap .i64 (1000003 * (IntKind.wrap .i64 (k + 7)))) + i))) * 11400714819323198485)) (2 ^ (56)))
end Go.Proofs.YtegkmbkbaenkcaaGreat
