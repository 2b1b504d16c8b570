/- Texts, kinds of numbers, bits: operations that only reckon. No program in sight. -/
import Derived.Test.YtkakbckmajdggaaAuto
namespace Go.Proofs.Ytkakbckmajdggaa
open Go Go.RowKit
section
variable {P : Program} {C : Ctx} {n : Nat} {Q : Exit → Act → World → Prop} {Φ : List Fact} {H : List Fact} {S S' : List (Nat × Value)} {ops : Array Oper} {rest : List Oper} {o : Oper} {d : Nat} {lights L : List Nat} {D : List (Nat × Fact)}
/-- An operation that reckons a value out of the slots. -/
def Reck (P : Program) (n : Nat) (S : List (Nat × Value)) (o : Oper) (v : Value) : Prop := ∀ a w, Frm n S a → (execOp a.eval o).run P w = .ok (.value v) w
theorem wl_reck {v : Value} (hg : wantS ops S o = some true) (hd : o.dst = some d) (hn : Nat.blt d n = true) (hS : outS d S = S') (h : Reck P n S o v) (next : WL P C n Q Φ H ((d, v) :: S') ops rest) : WL P C n Q Φ H S ops (o :: rest) :=
  wl_val hg hd hn hS (fun a w hf _ => h a w hf) next
theorem wx_reck (hok : okDraw ops lights = true) (i : Nat) {o : Oper} {d : Nat} {v : Value} (hi : ops[i]? = some o) (hd : o.dst = some d) (hl : lightB ops lights L i n d o = true) (hS : outS d S = S') (hg : wantS ops S o = some true) (h : Reck P n S o v)
    (next : WX P C n Q ops lights (i :: L) D Φ H ((d, v) :: S')) : WX P C n Q ops lights L D Φ H S :=
  wx_det hok i [] [] hi hd hl hS rfl hg (fun a w hf _ => h a w hf) next
def tStr (P : Program) (t : Nat) : Bool := match P.underlying t with
  | some .string => true
  | _ => false
theorem tStr_run {t : Nat} (h : tStr P t = true) : P.underlying t = some .string := by
  unfold tStr at h
  split at h
  · rename_i h2; exact h2
  · cases h
def tInt (P : Program) (t : Nat) : Option IntKind := match P.underlying t with
  | some (.int k) => some k
  | _ => none
theorem tInt_run {t : Nat} {k : IntKind} (h : tInt P t = some k) : P.underlying t = some (.int k) := by
  unfold tInt at h
  split at h
  · rename_i h2; cases h; exact h2
  · cases h
theorem rk_strLen {t : TypeId} {x : Operand} {s : ByteArray} (ho : o.op = .call { callee := .builtin .len, args := #[x], argTypes := #[t] }) (hx : evS S x = some (.string s)) (ht : tStr P t = true) : Reck P n S o (.int .i64 ((s.size : Nat) : Int)) :=
  fun a w hf => by simp [execOp, ho, resolve, invoke, builtin, Builtin.len_, hf.eval hx, run_underlying (tStr_run ht), goInt]
def minI (a b : Int) : Int := if b < a then b else a
def maxI (a b : Int) : Int := if a < b then b else a
theorem minI_nat {k : IntKind} {a b : Nat} : Value.int k (minI (a : Int) (b : Int)) = .int k ((min a b : Nat) : Int) := by
  congr 1; unfold minI; split <;> omega
theorem maxI_nat {k : IntKind} {a b : Nat} : Value.int k (maxI (a : Int) (b : Int)) = .int k ((max a b : Nat) : Int) := by
  congr 1; unfold maxI; split <;> omega
theorem rk_min {ts : Array TypeId} {x y : Operand} {k j : IntKind} {a b : Int} (ho : o.op = .call { callee := .builtin .min, args := #[x, y], argTypes := ts }) (hx : evS S x = some (.int k a)) (hy : evS S y = some (.int j b)) : Reck P n S o (.int k (minI a b)) :=
  fun c w hf => by simp [execOp, ho, resolve, invoke, builtin, Builtin.min_, Builtin.min2, hf.eval hx, hf.eval hy, minI]
theorem rk_max {ts : Array TypeId} {x y : Operand} {k j : IntKind} {a b : Int} (ho : o.op = .call { callee := .builtin .max, args := #[x, y], argTypes := ts }) (hx : evS S x = some (.int k a)) (hy : evS S y = some (.int j b)) : Reck P n S o (.int k (maxI a b)) :=
  fun c w hf => by simp [execOp, ho, resolve, invoke, builtin, Builtin.max_, Builtin.max2, hf.eval hx, hf.eval hy, maxI]
theorem rk_strAt {t : TypeId} {x y : Operand} {s : ByteArray} {k : IntKind} {z : Int} {b : UInt8} (j : Nat) (ho : o.op = .index t x y) (hx : evS S x = some (.string s)) (hy : evS S y = some (.int k z)) (hz : z = (j : Int)) (hb : s[j]? = some b) (ht : tStr P t = true) : Reck P n S o (.int .u8 ((b.toNat : Nat) : Int)) := by
  subst hz
  exact fun a w hf => by simp [execOp, ho, hf.eval hx, hf.eval hy, Instr.index, asIntOf, run_underlying (tStr_run ht), hb]
theorem rk_bin {op : BinOp} {t u : TypeId} {x y : Operand} {a b v : Value} (ho : o.op = .binOp op t x y u) (hx : evS S x = some a) (hy : evS S y = some b) (hr : ∀ w, (do eqGuard op t x y a b; binOp op t a b : Sem Value).run P w = .ok v w) : Reck P n S o v := fun c w hf => by
  have h1 := hr w
  unfold execOp
  simp only [ho, hf.eval hx, hf.eval hy]
  rw [Sem.run_bind, h1]; rfl
theorem run_strAdd {t : TypeId} {x y : Operand} {s u : ByteArray} (h : s.size + u.size ≤ 9223372036854775807) (w : World) : (do eqGuard .add t x y (.string s) (.string u); binOp .add t (.string s) (.string u) : Sem Value).run P w = .ok (.string (s ++ u)) w := by
  have e2 : IntKind.max .i64 = 9223372036854775807 := by decide
  have h2 : ¬ (((s.size + u.size : Nat) : Int) > IntKind.max .i64) := by rw [e2]; omega
  simp only [eqGuard, binOp, Op.stringOp]
  rw [if_neg h2]; rfl
theorem run_strLss {t : TypeId} {x y : Operand} {s u : ByteArray} (w : World) : (do eqGuard .lss t x y (.string s) (.string u); binOp .lss t (.string s) (.string u) : Sem Value).run P w = .ok (.bool (Op.bytesLess s.toList u.toList)) w := rfl
theorem run_strGtr {t : TypeId} {x y : Operand} {s u : ByteArray} (w : World) : (do eqGuard .gtr t x y (.string s) (.string u); binOp .gtr t (.string s) (.string u) : Sem Value).run P w = .ok (.bool (!(Op.bytesLess s.toList u.toList || s.toList == u.toList))) w := rfl
theorem run_strLeq {t : TypeId} {x y : Operand} {s u : ByteArray} (w : World) : (do eqGuard .leq t x y (.string s) (.string u); binOp .leq t (.string s) (.string u) : Sem Value).run P w = .ok (.bool (Op.bytesLess s.toList u.toList || s.toList == u.toList)) w := rfl
theorem run_strGeq {t : TypeId} {x y : Operand} {s u : ByteArray} (w : World) : (do eqGuard .geq t x y (.string s) (.string u); binOp .geq t (.string s) (.string u) : Sem Value).run P w = .ok (.bool (!Op.bytesLess s.toList u.toList)) w := rfl
theorem run_shl {k k' : IntKind} {a b : Int} {t : TypeId} {x y : Operand} (h : 0 ≤ b) (w : World) : (do eqGuard .shl t x y (.int k a) (.int k' b); binOp .shl t (.int k a) (.int k' b) : Sem Value).run P w = .ok (.int k (k.wrap (a * 2 ^ min b.toNat k.bits))) w := by
  have hb : ¬ b < 0 := by omega
  simp only [eqGuard, binOp, Op.shift]
  rw [if_neg hb]; rfl
theorem run_shr {k k' : IntKind} {a b : Int} {t : TypeId} {x y : Operand} (h : 0 ≤ b) (w : World) : (do eqGuard .shr t x y (.int k a) (.int k' b); binOp .shr t (.int k a) (.int k' b) : Sem Value).run P w = .ok (.int k (a.fdiv (2 ^ min b.toNat k.bits))) w := by
  have hb : ¬ b < 0 := by omega
  simp only [eqGuard, binOp, Op.shift]
  rw [if_neg hb]; rfl
def bitsI (op : BinOp) (k : IntKind) (x y : Int) : Int := match op with
  | .and => k.wrap ((BitVec.ofInt k.bits x &&& BitVec.ofInt k.bits y).toNat : Int)
  | .or => k.wrap ((BitVec.ofInt k.bits x ||| BitVec.ofInt k.bits y).toNat : Int)
  | .xor => k.wrap ((BitVec.ofInt k.bits x ^^^ BitVec.ofInt k.bits y).toNat : Int)
  | .andNot => k.wrap ((BitVec.ofInt k.bits x &&& ~~~ BitVec.ofInt k.bits y).toNat : Int)
  | _ => 0
theorem run_and {k : IntKind} {a b : Int} {t : TypeId} {x y : Operand} (w : World) : (do eqGuard .and t x y (.int k a) (.int k b); binOp .and t (.int k a) (.int k b) : Sem Value).run P w = .ok (.int k (bitsI .and k a b)) w := by
  simp [eqGuard, binOp, Op.intBits, bitsI]
theorem run_or {k : IntKind} {a b : Int} {t : TypeId} {x y : Operand} (w : World) : (do eqGuard .or t x y (.int k a) (.int k b); binOp .or t (.int k a) (.int k b) : Sem Value).run P w = .ok (.int k (bitsI .or k a b)) w := by
  simp [eqGuard, binOp, Op.intBits, bitsI]
theorem run_xor {k : IntKind} {a b : Int} {t : TypeId} {x y : Operand} (w : World) : (do eqGuard .xor t x y (.int k a) (.int k b); binOp .xor t (.int k a) (.int k b) : Sem Value).run P w = .ok (.int k (bitsI .xor k a b)) w := by
  simp [eqGuard, binOp, Op.intBits, bitsI]
theorem run_andNot {k : IntKind} {a b : Int} {t : TypeId} {x y : Operand} (w : World) : (do eqGuard .andNot t x y (.int k a) (.int k b); binOp .andNot t (.int k a) (.int k b) : Sem Value).run P w = .ok (.int k (bitsI .andNot k a b)) w := by
  simp [eqGuard, binOp, Op.intBits, bitsI]
theorem rk_conv {s t : TypeId} {x : Operand} {k k' k'' : IntKind} {z : Int} (ho : o.op = .convert s t x) (hx : evS S x = some (.int k z)) (hs : tInt P s = some k') (ht : tInt P t = some k'') : Reck P n S o (.int k'' (k''.wrap z)) := fun a w hf => by
  simp [execOp, ho, hf.eval hx, convert, run_underlying (tInt_run hs), run_underlying (tInt_run ht), Conv.intToInt]
def tArrE (P : Program) (t : Nat) : Option (Nat × Nat) := match P.underlying t with
  | some (.array m e) => some (m, e)
  | _ => none
theorem tArrE_run {t m e : Nat} (h : tArrE P t = some (m, e)) : P.underlying t = some (.array m e) := by
  unfold tArrE at h
  split at h
  · rename_i h2; cases h; exact h2
  · cases h
theorem rk_arrAt {t m e sz b q : Nat} {x y : Operand} {k : IntKind} {z : Int} (j : Nat) (ho : o.op = .indexAddr t x y) (hx : evS S x = some (.pointer (some ⟨b, q, none⟩))) (hy : evS S y = some (.int k z)) (hz : z = (j : Int)) (hj : j < m) (he : tArrE P t = some (m, e)) (hs : tSize P e = some sz) :
    Reck P n S o (.pointer (some ⟨b, q + j * sz, none⟩)) := by
  subst hz
  refine fun a w hf => ?_
  have h1 : (0 : Int) ≤ j ∧ (j : Int) < m := by omega
  simp [execOp, ho, hf.eval hx, hf.eval hy, Instr.indexAt, asIntOf, run_underlying (tArrE_run he), h1, tSize_run hs, addr_add, Instr.sureAddr, hj]
theorem rk_neg {t : TypeId} {x : Operand} {k : IntKind} {z : Int} (ho : o.op = .unOp .neg t x) (hx : evS S x = some (.int k z)) : Reck P n S o (.int k (k.wrap (0 - z))) := fun a w hf => by
  simp [execOp, ho, hf.eval hx, Op.unary, Op.intArith]
theorem rk_strSlice {t : TypeId} {x y z : Operand} {s : ByteArray} {k1 k2 : IntKind} {z1 z2 : Int} (i j : Nat) (ho : o.op = .slice t x (some y) (some z) none) (hx : evS S x = some (.string s)) (hy : evS S y = some (.int k1 z1)) (h1 : z1 = (i : Int)) (hz : evS S z = some (.int k2 z2)) (h2 : z2 = (j : Int)) (hij : i ≤ j) (hj : j ≤ s.size) (ht : tStr P t = true) : Reck P n S o (.string (s.extract i j)) := by
  subst h1; subst h2
  exact fun a w hf => by simp [execOp, ho, hf.eval hx, hf.eval hy, hf.eval hz, Instr.sliceAt, Instr.slice, run_underlying (tStr_run ht), Instr.sliceBounds, Instr.sliceBound, asIntOf, hij, hj]
theorem rk_strFrom {t : TypeId} {x y : Operand} {s : ByteArray} {k1 : IntKind} {z1 : Int} (i : Nat) (ho : o.op = .slice t x (some y) none none) (hx : evS S x = some (.string s)) (hy : evS S y = some (.int k1 z1)) (h1 : z1 = (i : Int)) (hij : i ≤ s.size) (ht : tStr P t = true) : Reck P n S o (.string (s.extract i s.size)) := by
  subst h1
  exact fun a w hf => by simp [execOp, ho, hf.eval hx, hf.eval hy, Instr.sliceAt, Instr.slice, run_underlying (tStr_run ht), Instr.sliceBounds, Instr.sliceBound, asIntOf, hij]
theorem rk_strTo {t : TypeId} {x z : Operand} {s : ByteArray} {k2 : IntKind} {z2 : Int} (j : Nat) (ho : o.op = .slice t x none (some z) none) (hx : evS S x = some (.string s)) (hz : evS S z = some (.int k2 z2)) (h2 : z2 = (j : Int)) (hj : j ≤ s.size) (ht : tStr P t = true) : Reck P n S o (.string (s.extract 0 j)) := by
  subst h2
  exact fun a w hf => by simp [execOp, ho, hf.eval hx, hf.eval hz, Instr.sliceAt, Instr.slice, run_underlying (tStr_run ht), Instr.sliceBounds, Instr.sliceBound, asIntOf, hj]
def fldTy (P : Program) (t k : Nat) : Option (Nat × Nat) := match P.underlying t with
  | some (.struct fs) => (fs[k]?).map fun f => (f.type, f.offset)
  | _ => none
theorem rk_field {t k u off sz : Nat} {x : Operand} {cs : Array Value} {v : Value} {ag : Bool} (ho : o.op = .field t x k) (hx : evS S x = some (.agg cs)) (hk : fldTy P t k = some (u, off)) (ha : tAgg P u = some ag) (hs : tSize P u = some sz) (hv : (if ag = true then some (.agg (cs.extract off (off + sz))) else cs[off]?) = some v) : Reck P n S o v := fun c w hf => by
  unfold fldTy at hk
  split at hk
  · rename_i fs hu
    cases hfs : fs[k]? with
    | none => rw [hfs] at hk; cases hk
    | some f =>
      rw [hfs] at hk
      simp only [Option.map_some, Option.some.injEq, Prod.mk.injEq] at hk
      obtain ⟨rfl, rfl⟩ := hk
      have hp : (part f.type cs f.offset).run P w = .ok v w := by
        unfold part
        simp only [Sem.run_bind, tAgg_run ha, Result.andThen]
        cases ag with
        | true =>
          simp only [if_true, Sem.run_bind, tSize_run hs, Result.andThen] at hv ⊢
          cases hv; rfl
        | false =>
          simp only [Bool.false_eq_true, if_false] at hv ⊢
          rw [hv]; rfl
      simp [execOp, ho, hf.eval hx, Instr.field, run_underlying hu, hfs, asAgg, hp]
  · cases hk
end
end Go.Proofs.Ytkakbckmajdggaa
