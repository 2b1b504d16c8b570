import Derived.Test.YtegkmbkbaenkcaaGreatAuto
namespace Go.Proofs.YtegkmbkbaenkcaaGreat
open Go Go.RowKit
section
variable {P : Program} {C : Ctx} {n : Nat} {Q : Exit → Act → World → Prop} {Φ : List Fact} {H : List Fact} {S S' : List (Nat × Value)} {ops : Array Oper} {rest : List Oper} {o : Oper} {d : Nat} {lights L : List Nat} {D : List (Nat × Fact)}
def Reck (P : Program) (n : Nat) (S : List (Nat × Value)) (o : Oper) (v : Value) : Prop := ∀ a w, Frm n S a → (execOp a.eval o).run P w = .ok (.value v) w
theorem wl_reck {v : Value} (hg : wantS ops S o = some true) (hd : o.dst = some d) (hn : Nat.blt d n = true) (hS : outS d S = S') (h : Reck P n S o v) (next : WL P C n Q Φ H ((d, v) :: S') ops rest) : WL P C n Q Φ H S ops (o :: rest) :=
  wl_val hg hd hn hS (fun a w hf _ => h a w hf) next
def tInt (P : Program) (t : Nat) : Option IntKind := match P.underlying t with
  | some (.int k) => some k
  | _ => none
theorem tInt_run {t : Nat} {k : IntKind} (h : tInt P t = some k) : P.underlying t = some (.int k) := by
  unfold tInt at h
  split at h
  · rename_i h2; cases h; exact h2
  · cases h
theorem run_shr {k k' : IntKind} {a b : Int} {t : TypeId} {x y : Operand} (h : 0 ≤ b) (w : World) : (do eqGuard .shr t x y (.int k a) (.int k' b); binOp .shr t (.int k a) (.int k' b) : Sem Value).run P w = .ok (.int k (a.fdiv (2 ^ min b.toNat k.bits))) w := by
  have hb : ¬ b < 0 := by omega
  simp only [eqGuard, binOp, Op.shift]
  rw [if_neg hb]; rfl
def bitsI (op : BinOp) (k : IntKind) (x y : Int) : Int := match op with
  | .and => k.wrap ((BitVec.ofInt k.bits x &&& BitVec.ofInt k.bits y).toNat : Int)
  | .or => k.wrap ((BitVec.ofInt k.bits x ||| BitVec.ofInt k.bits y).toNat : Int)
  | .xor => k.wrap ((BitVec.ofInt k.bits x ^^^ BitVec.ofInt k.bits y).toNat : Int)
  | .andNot => k.wrap ((BitVec.ofInt k.bits x &&& ~~~ BitVec.ofInt k.bits y).toNat : Int)
  | _ => 0
theorem run_xor {k : IntKind} {a b : Int} {t : TypeId} {x y : Operand} (w : World) : (do eqGuard .xor t x y (.int k a) (.int k b); binOp .xor t (.int k a) (.int k b) : Sem Value).run P w = .ok (.int k (bitsI .xor k a b)) w := by
  simp [eqGuard, binOp, Op.intBits, bitsI]
theorem rk_conv {s t : TypeId} {x : Operand} {k k' k'' : IntKind} {z : Int} (ho : o.op = .convert s t x) (hx : evS S x = some (.int k z)) (hs : tInt P s = some k') (ht : tInt P t = some k'') : Reck P n S o (.int k'' (k''.wrap z)) := fun a w hf => by
  simp [execOp, ho, hf.eval hx, convert, run_underlying (tInt_run hs), run_underlying (tInt_run ht), Conv.intToInt]
end
end Go.Proofs.YtegkmbkbaenkcaaGreat
