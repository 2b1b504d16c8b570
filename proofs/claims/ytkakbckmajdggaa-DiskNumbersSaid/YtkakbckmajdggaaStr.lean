import Derived.Test.YtkakbckmajdggaaAuto
namespace Go.Proofs.Ytkakbckmajdggaa
open Go Go.RowKit
section
variable {P : Program} {C : Ctx} {n : Nat} {Q : Exit → Act → World → Prop} {Φ : List Fact} {H : List Fact} {S S' : List (Nat × Value)} {ops : Array Oper} {rest : List Oper} {o : Oper} {d : Nat} {lights L : List Nat} {D : List (Nat × Fact)}
def Reck (P : Program) (n : Nat) (S : List (Nat × Value)) (o : Oper) (v : Value) : Prop := ∀ a w, Frm n S a → (execOp a.eval o).run P w = .ok (.value v) w
theorem wl_reck {v : Value} (hg : wantS ops S o = some true) (hd : o.dst = some d) (hn : Nat.blt d n = true) (hS : outS d S = S') (h : Reck P n S o v) (next : WL P C n Q Φ H ((d, v) :: S') ops rest) : WL P C n Q Φ H S ops (o :: rest) :=
  wl_val hg hd hn hS (fun a w hf _ => h a w hf) next
theorem wx_reck (hok : okDraw ops lights = true) (i : Nat) {o : Oper} {d : Nat} {v : Value} (hi : ops[i]? = some o) (hd : o.dst = some d) (hl : lightB ops lights L i n d o = true) (hS : outS d S = S') (hg : wantS ops S o = some true) (h : Reck P n S o v)
    (next : WX P C n Q ops lights (i :: L) D Φ H ((d, v) :: S')) : WX P C n Q ops lights L D Φ H S :=
  wx_det hok i [] [] hi hd hl hS rfl hg (fun a w hf _ => h a w hf) next
def tStr (P : Program) (t : Nat) : Bool := match P.underlying t with
  | some .string => true
  | _ => false
theorem tStr_run {t : Nat} (h : tStr P t = true) : P.underlying t = some .string := by
  unfold tStr at h
  split at h
  · rename_i h2; exact h2
  · cases h
def tInt (P : Program) (t : Nat) : Option IntKind := match P.underlying t with
  | some (.int k) => some k
  | _ => none
theorem tInt_run {t : Nat} {k : IntKind} (h : tInt P t = some k) : P.underlying t = some (.int k) := by
  unfold tInt at h
  split at h
  · rename_i h2; cases h; exact h2
  · cases h
theorem rk_strLen {t : TypeId} {x : Operand} {s : ByteArray} (ho : o.op = .call { callee := .builtin .len, args := #[x], argTypes := #[t] }) (hx : evS S x = some (.string s)) (ht : tStr P t = true) : Reck P n S o (.int .i64 ((s.size : Nat) : Int)) :=
  fun a w hf => by simp [execOp, ho, resolve, invoke, builtin, Builtin.len_, hf.eval hx, run_underlying (tStr_run ht), goInt]
def minI (a b : Int) : Int := if b < a then b else a
def maxI (a b : Int) : Int := if a < b then b else a
theorem rk_min {ts : Array TypeId} {x y : Operand} {k j : IntKind} {a b : Int} (ho : o.op = .call { callee := .builtin .min, args := #[x, y], argTypes := ts }) (hx : evS S x = some (.int k a)) (hy : evS S y = some (.int j b)) : Reck P n S o (.int k (minI a b)) :=
  fun c w hf => by simp [execOp, ho, resolve, invoke, builtin, Builtin.min_, Builtin.min2, hf.eval hx, hf.eval hy, minI]
theorem rk_max {ts : Array TypeId} {x y : Operand} {k j : IntKind} {a b : Int} (ho : o.op = .call { callee := .builtin .max, args := #[x, y], argTypes := ts }) (hx : evS S x = some (.int k a)) (hy : evS S y = some (.int j b)) : Reck P n S o (.int k (maxI a b)) :=
  fun c w hf => by simp [execOp, ho, resolve, invoke, builtin, Builtin.max_, Builtin.max2, hf.eval hx, hf.eval hy, maxI]
theorem rk_strAt {t : TypeId} {x y : Operand} {s : ByteArray} {k : IntKind} {z : Int} {b : UInt8} (j : Nat) (ho : o.op = .index t x y) (hx : evS S x = some (.string s)) (hy : evS S y = some (.int k z)) (hz : z = (j : Int)) (hb : s[j]? = some b) (ht : tStr P t = true) : Reck P n S o (.int .u8 ((b.toNat : Nat) : Int)) := by
  subst hz
  exact fun a w hf => by simp [execOp, ho, hf.eval hx, hf.eval hy, Instr.index, asIntOf, run_underlying (tStr_run ht), hb]
theorem run_strAdd {t : TypeId} {x y : Operand} {s u : ByteArray} (h : s.size + u.size ≤ 9223372036854775807) (w : World) : (do eqGuard .add t x y (.string s) (.string u); binOp .add t (.string s) (.string u) : Sem Value).run P w = .ok (.string (s ++ u)) w := by
  have e2 : IntKind.max .i64 = 9223372036854775807 := by decide
  have h2 : ¬ (((s.size + u.size : Nat) : Int) > IntKind.max .i64) := by rw [e2]; omega
  simp only [eqGuard, binOp, Op.stringOp]
  rw [if_neg h2]; rfl
theorem run_strLss {t : TypeId} {x y : Operand} {s u : ByteArray} (w : World) : (do eqGuard .lss t x y (.string s) (.string u); binOp .lss t (.string s) (.string u) : Sem Value).run P w = .ok (.bool (Op.bytesLess s.toList u.toList)) w := rfl
theorem run_strGtr {t : TypeId} {x y : Operand} {s u : ByteArray} (w : World) : (do eqGuard .gtr t x y (.string s) (.string u); binOp .gtr t (.string s) (.string u) : Sem Value).run P w = .ok (.bool (!(Op.bytesLess s.toList u.toList || s.toList == u.toList))) w := rfl
theorem rk_strTo {t : TypeId} {x z : Operand} {s : ByteArray} {k2 : IntKind} {z2 : Int} (j : Nat) (ho : o.op = .slice t x none (some z) none) (hx : evS S x = some (.string s)) (hz : evS S z = some (.int k2 z2)) (h2 : z2 = (j : Int)) (hj : j ≤ s.size) (ht : tStr P t = true) : Reck P n S o (.string (s.extract 0 j)) := by
  subst h2
  exact fun a w hf => by simp [execOp, ho, hf.eval hx, hf.eval hz, Instr.sliceAt, Instr.slice, run_underlying (tStr_run ht), Instr.sliceBounds, Instr.sliceBound, asIntOf, hj]
end
end Go.Proofs.Ytkakbckmajdggaa
