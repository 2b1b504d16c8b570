/- Appending zeros to nil; capacities. No program in sight. -/
import Derived.Test.YtkakbckmajdggaaText
import Derived.Test.YtkakbckmajdggaaLent
import Derived.Test.YtkakbckmajdggaaStr
import Derived.Test.YtkakbckmajdggaaMapP
import Derived.Lib.AppendZeros
namespace Go.Proofs.Ytkakbckmajdggaa
open Go Go.RowKit
section
variable {P : Program} {C : Ctx} {n : Nat} {Q : Exit → Act → World → Prop} {Φ : List Fact} {H : List Fact} {S S' : List (Nat × Value)} {ops : Array Oper} {rest : List Oper} {o : Oper} {d : Nat}
theorem zeroCells_size (z : Array Value) (k : Nat) : (Builtin.zeroCells z k).size = k * z.size := by simp [Builtin.zeroCells]
theorem wl_appendZ {α : Type} {t tn e sz by_ : Nat} {s x : Operand} {kx kn : IntKind} {ex : Int} {m : Nat} {z : Value} (R : Rep α) (hg : wantS ops S o = some true) (hd : o.dst = some d) (hn : Nat.blt d n = true) (hS : outS d S = S')
    (ho : o.op = .call { callee := .builtin .append, args := #[s, x], argTypes := #[t, tn] }) (hs : evS S s = some (.slice none 0 0)) (hx : evS S x = some (.int kx ex)) (hex : ex = (m : Int)) (h0 : 0 < m)
    (he : tElem P t = some e) (hr : tRow P e = some (z, sz, by_)) (hzs : Nat.beq z.cells.size sz = true) (hsz : Nat.blt 0 sz = true) (htn : tInt P tn = some kn) (hby : m * by_ ≤ 281474976710656) (h63 : m ≤ 9223372036854775807)
    (next : ∀ g c, WL P C n Q Φ (.own e sz R (.slice (some ⟨g, 0, none⟩) 0 c) [] :: H) ((d, .slice (some ⟨g, 0, none⟩) m c) :: S') ops rest) : WL P C n Q Φ H S ops (o :: rest) := by
  subst hex
  refine wl_run hg hd hn hS fun a w hf hw => ?_
  obtain ⟨i, hinfo, hz, hsize, hbytes⟩ := tRow_spec hr
  have hzs' := Nat.eq_of_beq_eq_true hzs
  have hsz' := Nat.le_of_ble_eq_true hsz
  subst hbytes
  have hrun := Go.Lib.run_append_nil_zeros (P := P) w t tn o.type e i z kx kn (tElem_run he) (tInt_run htn) hinfo hz m h0 (by omega) (by omega) hby
  have hge := grownCap_ge w m 0 e
  have hle := grownCap_le_maxLen w m 0 e h63
  generalize grownCap w m 0 e = c at hrun hge hle
  have hb : Holds C Φ H w.drew := hw.drew' ⟨rfl, rfl, rfl, Nat.le_refl _, fun _ _ => rfl⟩
  refine ⟨.slice (some ⟨w.heap.size, 0, none⟩) m c, _, by simp [execOp, ho, resolve, invoke, builtin, hf.eval hs, hf.eval hx, hrun], Φ, _, Holds.rowCap R (hb.alloc (Builtin.zeroCells z.cells m ++ Builtin.zeroCells z.cells (c - m)) e) ?_ hle, next _ _⟩
  simp only [Array.length_toList, Array.size_append, zeroCells_size, hzs']
  rw [← Nat.add_mul]
  congr 1
  omega
theorem rk_cap {t : TypeId} {x : Operand} {p : Option Addr} {k c e : Nat} (ho : o.op = .call { callee := .builtin .cap, args := #[x], argTypes := #[t] }) (hx : evS S x = some (.slice p k c)) (ht : tElem P t = some e) : Reck P n S o (.int .i64 (c : Int)) := fun a w hf => by
  simp [execOp, ho, resolve, invoke, builtin, Builtin.cap_, hf.eval hx, run_underlying (tElem_run ht), goInt]
end
end Go.Proofs.Ytkakbckmajdggaa
