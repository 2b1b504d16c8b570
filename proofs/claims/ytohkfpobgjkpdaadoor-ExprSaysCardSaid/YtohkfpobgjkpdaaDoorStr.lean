import Derived.Test.YtohkfpobgjkpdaaDoorAuto
namespace Go.Proofs.YtohkfpobgjkpdaaDoor
open Go Go.RowKit
section
variable {P : Program} {C : Ctx} {n : Nat} {Q : Exit → Act → World → Prop} {Φ : List Fact} {H : List Fact} {S S' : List (Nat × Value)} {ops : Array Oper} {rest : List Oper} {o : Oper} {d : Nat} {lights L : List Nat} {D : List (Nat × Fact)}
def Reck (P : Program) (n : Nat) (S : List (Nat × Value)) (o : Oper) (v : Value) : Prop := ∀ a w, Frm n S a → (execOp a.eval o).run P w = .ok (.value v) w
theorem wl_reck {v : Value} (hg : wantS ops S o = some true) (hd : o.dst = some d) (hn : Nat.blt d n = true) (hS : outS d S = S') (h : Reck P n S o v) (next : WL P C n Q Φ H ((d, v) :: S') ops rest) : WL P C n Q Φ H S ops (o :: rest) :=
  wl_val hg hd hn hS (fun a w hf _ => h a w hf) next
def tStr (P : Program) (t : Nat) : Bool := match P.underlying t with
  | some .string => true
  | _ => false
theorem tStr_run {t : Nat} (h : tStr P t = true) : P.underlying t = some .string := by
  unfold tStr at h
  split at h
  · rename_i h2; exact h2
  · cases h
def tInt (P : Program) (t : Nat) : Option IntKind := match P.underlying t with
  | some (.int k) => some k
  | _ => none
theorem tInt_run {t : Nat} {k : IntKind} (h : tInt P t = some k) : P.underlying t = some (.int k) := by
  unfold tInt at h
  split at h
  · rename_i h2; cases h; exact h2
  · cases h
theorem rk_strLen {t : TypeId} {x : Operand} {s : ByteArray} (ho : o.op = .call { callee := .builtin .len, args := #[x], argTypes := #[t] }) (hx : evS S x = some (.string s)) (ht : tStr P t = true) : Reck P n S o (.int .i64 ((s.size : Nat) : Int)) :=
  fun a w hf => by simp [execOp, ho, resolve, invoke, builtin, Builtin.len_, hf.eval hx, run_underlying (tStr_run ht), goInt]
def minI (a b : Int) : Int := if b < a then b else a
theorem rk_min {ts : Array TypeId} {x y : Operand} {k j : IntKind} {a b : Int} (ho : o.op = .call { callee := .builtin .min, args := #[x, y], argTypes := ts }) (hx : evS S x = some (.int k a)) (hy : evS S y = some (.int j b)) : Reck P n S o (.int k (minI a b)) :=
  fun c w hf => by simp [execOp, ho, resolve, invoke, builtin, Builtin.min_, Builtin.min2, hf.eval hx, hf.eval hy, minI]
theorem rk_strAt {t : TypeId} {x y : Operand} {s : ByteArray} {k : IntKind} {z : Int} {b : UInt8} (j : Nat) (ho : o.op = .index t x y) (hx : evS S x = some (.string s)) (hy : evS S y = some (.int k z)) (hz : z = (j : Int)) (hb : s[j]? = some b) (ht : tStr P t = true) : Reck P n S o (.int .u8 ((b.toNat : Nat) : Int)) := by
  subst hz
  exact fun a w hf => by simp [execOp, ho, hf.eval hx, hf.eval hy, Instr.index, asIntOf, run_underlying (tStr_run ht), hb]
theorem rk_conv {s t : TypeId} {x : Operand} {k k' k'' : IntKind} {z : Int} (ho : o.op = .convert s t x) (hx : evS S x = some (.int k z)) (hs : tInt P s = some k') (ht : tInt P t = some k'') : Reck P n S o (.int k'' (k''.wrap z)) := fun a w hf => by
  simp [execOp, ho, hf.eval hx, convert, run_underlying (tInt_run hs), run_underlying (tInt_run ht), Conv.intToInt]
theorem rk_neg {t : TypeId} {x : Operand} {k : IntKind} {z : Int} (ho : o.op = .unOp .neg t x) (hx : evS S x = some (.int k z)) : Reck P n S o (.int k (k.wrap (0 - z))) := fun a w hf => by
  simp [execOp, ho, hf.eval hx, Op.unary, Op.intArith]
def fldTy (P : Program) (t k : Nat) : Option (Nat × Nat) := match P.underlying t with
  | some (.struct fs) => (fs[k]?).map fun f => (f.type, f.offset)
  | _ => none
theorem rk_field {t k u off sz : Nat} {x : Operand} {cs : Array Value} {v : Value} {ag : Bool} (ho : o.op = .field t x k) (hx : evS S x = some (.agg cs)) (hk : fldTy P t k = some (u, off)) (ha : tAgg P u = some ag) (hs : tSize P u = some sz) (hv : (if ag = true then some (.agg (cs.extract off (off + sz))) else cs[off]?) = some v) : Reck P n S o v := fun c w hf => by
  unfold fldTy at hk
  split at hk
  · rename_i fs hu
    cases hfs : fs[k]? with
    | none => rw [hfs] at hk; cases hk
    | some f =>
      rw [hfs] at hk
      simp only [Option.map_some, Option.some.injEq, Prod.mk.injEq] at hk
      obtain ⟨rfl, rfl⟩ := hk
      have hp : (part f.type cs f.offset).run P w = .ok v w := by
        unfold part
        simp only [Sem.run_bind, tAgg_run ha, Result.andThen]
        cases ag with
        | true =>
          simp only [if_true, Sem.run_bind, tSize_run hs, Result.andThen] at hv ⊢
          cases hv; rfl
        | false =>
          simp only [Bool.false_eq_true, if_false] at hv ⊢
          rw [hv]; rfl
      simp [execOp, ho, hf.eval hx, Instr.field, run_underlying hu, hfs, asAgg, hp]
  · cases hk
end
end Go.Proofs.YtohkfpobgjkpdaaDoor
