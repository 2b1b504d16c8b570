import Derived.Test.YtgangmegcejllaaGreatDoorAuto
namespace Go.Proofs.YtgangmegcejllaaGreatDoor
open Go Go.RowKit
section
variable {P:Program} {C:Ctx} {n:Nat} {Q:Exit → Act → World → Prop} {Φ:List Fact} {H:List Fact} {S S' : List (Nat × Value)} {ops:Array Oper} {rest:List Oper} {o:Oper} {d:Nat} {lights L:List Nat} {D:List (Nat × Fact)}
def Reck (P:Program) (n:Nat) (S:List (Nat × Value)) (o:Oper) (v:Value):Prop:=∀ a w,Frm n S a → (execOp a.eval o).run P w = .ok (.value v) w
theorem Qao {v:Value} (hg:Q1L ops S o = some true) (hd:o.dst = some d) (hn:Nat.blt d n = true) (hS:Q2r d S = S') (h:Reck P n S o v) (next:WL P C n Q Φ H ((d,v) :: S') ops rest):WL P C n Q Φ H S ops (o :: rest) :=
 Q8l hg hd hn hS (fun a w hf _=>h a w hf) next
theorem wx_reck (hok:Q2K ops lights = true) (i:Nat) {o:Oper} {d:Nat} {v:Value} (hi:ops[i]? = some o) (hd:o.dst = some d) (hl:Q50 ops lights L i n d o = true) (hS:Q2r d S = S') (hg:Q1L ops S o = some true) (h:Reck P n S o v)
  (next:WX P C n Q ops lights (i :: L) D Φ H ((d,v) :: S')):WX P C n Q ops lights L D Φ H S :=
 Q8Y hok i [] [] hi hd hl hS rfl hg (fun a w hf _=>h a w hf) next
def tStr (P:Program) (t:Nat):Bool:=match P.underlying t with
 | some .string=>true
 | _=>false
theorem QZ {t:Nat} (h:tStr P t = true):P.underlying t = some .string:=by
 unfold tStr at h
 split at h
 · rename_i h2; exact h2
 · cases h
def tInt (P:Program) (t:Nat):Option IntKind:=match P.underlying t with
 | some (.int k)=>some k
 | _=>none
theorem tInt_run {t:Nat} {k:IntKind} (h:tInt P t = some k):P.underlying t = some (.int k):=by
 unfold tInt at h
 split at h
 · rename_i h2; cases h; exact h2
 · cases h
theorem rk_strAt {t:TypeId} {x y:Operand} {s:ByteArray} {k:IntKind} {z:Int} {b:UInt8} (j:Nat) (ho:o.op = .index t x y) (hx:evS S x = some (.string s)) (hy:evS S y = some (.int k z)) (hz:z = (j:Int)) (hb:s[j]? = some b) (ht:tStr P t = true):Reck P n S o (.int .u8 ((b.toNat:Nat):Int)):=by
 subst hz
 exact fun a w hf=>by simp [execOp,ho,hf.eval hx,hf.eval hy,Instr.index,asIntOf,run_underlying (QZ ht),hb]
theorem run_strAdd {t:TypeId} {x y:Operand} {s u:ByteArray} (h:s.size + u.size ≤ 9223372036854775807) (w:World):(do eqGuard .add t x y (.string s) (.string u); binOp .add t (.string s) (.string u):Sem Value).run P w = .ok (.string (s ++ u)) w:=by
 have e2:IntKind.max .i64 = 9223372036854775807:=by decide
 have h2 : ¬ (((s.size + u.size:Nat):Int) > IntKind.max .i64):=by rw [e2]; omega
 simp only [eqGuard,binOp,Op.stringOp]
 rw [if_neg h2]; rfl
theorem run_shl {k k' : IntKind} {a b:Int} {t:TypeId} {x y:Operand} (h : 0 ≤ b) (w:World):(do eqGuard .shl t x y (.int k a) (.int k' b); binOp .shl t (.int k a) (.int k' b):Sem Value).run P w = .ok (.int k (k.wrap (a * 2 ^ min b.toNat k.bits))) w:=by
 have hb : ¬ b < 0:=by omega
 simp only [eqGuard,binOp,Op.shift]
 rw [if_neg hb]; rfl
theorem run_shr {k k' : IntKind} {a b:Int} {t:TypeId} {x y:Operand} (h : 0 ≤ b) (w:World):(do eqGuard .shr t x y (.int k a) (.int k' b); binOp .shr t (.int k a) (.int k' b):Sem Value).run P w = .ok (.int k (a.fdiv (2 ^ min b.toNat k.bits))) w:=by
 have hb : ¬ b < 0:=by omega
 simp only [eqGuard,binOp,Op.shift]
 rw [if_neg hb]; rfl
def Q1A (op:BinOp) (k:IntKind) (x y:Int):Int:=match op with
 | .and=>k.wrap ((BitVec.ofInt k.bits x &&& BitVec.ofInt k.bits y).toNat:Int)
 | .or=>k.wrap ((BitVec.ofInt k.bits x ||| BitVec.ofInt k.bits y).toNat:Int)
 | .xor=>k.wrap ((BitVec.ofInt k.bits x ^^^ BitVec.ofInt k.bits y).toNat:Int)
 | .andNot=>k.wrap ((BitVec.ofInt k.bits x &&& ~~~ BitVec.ofInt k.bits y).toNat:Int)
 | _=>0
theorem run_and {k:IntKind} {a b:Int} {t:TypeId} {x y:Operand} (w:World):(do eqGuard .and t x y (.int k a) (.int k b); binOp .and t (.int k a) (.int k b):Sem Value).run P w = .ok (.int k (Q1A .and k a b)) w:=by
 simp [eqGuard,binOp,Op.intBits,Q1A]
theorem run_xor {k:IntKind} {a b:Int} {t:TypeId} {x y:Operand} (w:World):(do eqGuard .xor t x y (.int k a) (.int k b); binOp .xor t (.int k a) (.int k b):Sem Value).run P w = .ok (.int k (Q1A .xor k a b)) w:=by
 simp [eqGuard,binOp,Op.intBits,Q1A]
theorem rk_conv {s t:TypeId} {x:Operand} {k k' k'' : IntKind} {z:Int} (ho:o.op = .convert s t x) (hx:evS S x = some (.int k z)) (hs:tInt P s = some k') (ht:tInt P t = some k''):Reck P n S o (.int k'' (k''.wrap z)):=fun a w hf=>by
 simp [execOp,ho,hf.eval hx,convert,run_underlying (tInt_run hs),run_underlying (tInt_run ht),Conv.intToInt]
theorem rk_neg {t:TypeId} {x:Operand} {k:IntKind} {z:Int} (ho:o.op = .unOp .neg t x) (hx:evS S x = some (.int k z)):Reck P n S o (.int k (k.wrap (0 - z))):=fun a w hf=>by
 simp [execOp,ho,hf.eval hx,Op.unary,Op.intArith]
end
end Go.Proofs.YtgangmegcejllaaGreatDoor
