/- Texts out of bytes; tables that are laid; digits. No program in sight. -/
import Derived.Test.YtdkmibdiokmfbaaDoorView
import Derived.Test.YtdkmibdiokmfbaaDoorShA
import Derived.Laws.BytesArg
import Derived.Laws.BytesString
import Derived.Lib.LaidTab
import Derived.Lib.ItoaNum
import Derived.LaidSub
namespace Go.Proofs.YtdkmibdiokmfbaaDoor
open Go Go.RowKit
section
variable {P : Program} {C : Ctx} {n : Nat} {Q : Exit → Act → World → Prop} {Φ : List Fact} {H : List Fact} {S S' : List (Nat × Value)} {ops : Array Oper} {rest : List Oper} {o : Oper} {d : Nat}
theorem run_bytesStr {src dst e c : Nat} {R : Rep Int} {p : Option Addr} {l : List Int} {F : Foot} {w : World} (hs : P.underlying src = some (.slice e)) (he : P.underlying e = some (.int .u8)) (hd : P.underlying dst = some .string)
    (hR : ∀ F w cs x, R.p F w cs x → cs = [.int .u8 x]) (h : (Fact.sli 1 R p c l).p F w) : (convert src dst (.slice p l.length c)).run P w = .ok (.string (strOfNums l)) w := by
  obtain ⟨p', n', c', xs, e1, e2, h1, h2, h3, h4⟩ := h
  cases e1
  rcases Nat.eq_zero_or_pos l.length with h0 | h0
  · have hl : l = [] := List.eq_nil_of_length_eq_zero h0
    subst hl
    cases p with
    | none => exact run_convert_bytes_nil w src e hs he _ _ dst hd
    | some a =>
      have hl : (loadCells a 0).run P w = .ok (([] : List Int).map (Value.int .u8)).toArray w := run_loadCells_list (P := P) w a [] (fun j v hj => by simp at hj)
      rw [run_convert_bytes_string w src dst e _ _ c hs he hd]
      exact run_bytesToString w a 0 c [] hl
  · obtain ⟨b, off, rfl, _, hc⟩ := h4 h0
    refine run_convert_bytes_arg w src e hs he b off l.length c l rfl (fun i hi => ?_) dst hd
    have hx := List.getElem?_eq_getElem hi
    obtain ⟨cs, q1, q2, q3⟩ := h3.at hx
    have q4 := hR _ _ _ _ q2
    subst q4
    have := hc (i * 1 + 0) _ (q3 0 _ rfl)
    rw [Nat.mul_one, Nat.add_zero] at this
    rw [this, List.getD_eq_getElem?_getD, hx]; rfl
theorem wl_bytesStr {s t e c : Nat} {x : Operand} {R : Rep Int} {p : Option Addr} {l : List Int} (k : Nat) (hg : wantS ops S o = some true) (hd : o.dst = some d) (hn : Nat.blt d n = true) (hS : outS d S = S') (ho : o.op = .convert s t x)
    (hx : evS S x = some (.slice p l.length c)) (hk : Φ[k]? = some (.sli 1 R p c l)) (hs : P.underlying s = some (.slice e)) (he : P.underlying e = some (.int .u8)) (ht : P.underlying t = some .string)
    (hR : ∀ F w cs x, R.p F w cs x → cs = [.int .u8 x]) (next : WL P C n Q Φ H ((d, .string (strOfNums l)) :: S') ops rest) : WL P C n Q Φ H S ops (o :: rest) := by
  refine wl_val hg hd hn hS (fun a w hf hw => ?_) next
  obtain ⟨F, N, hi⟩ := hw
  have := run_bytesStr hs he ht hR (hi.facts _ (mem_at hk))
  simp [execOp, ho, hf.eval hx, this]
end
/-- A table of numbers as it is laid. -/
def tabF (P : Program) (name : String) (k : IntKind) (zs : List Int) (g : Nat) (hg : P.globalNamed name = some g) : Fact :=
  .raw (fun N w => N g ∧ Lib.TabIs P w name k zs) (fun hF ha h => ⟨hF _ h.1, by
    have := h.2
    unfold Lib.TabIs World.var? at this ⊢
    rw [hg] at this ⊢
    simp only [Option.bind_some] at this ⊢
    rw [ha g h.1]; exact this⟩)
theorem tabF_of {P : Program} {W : World} {name : String} {k : IntKind} {zs : List Int} {g : Nat} {hg : P.globalNamed name = some g} (h : Lib.TabIs P W name k zs) : (tabF P name k zs g hg).p (fun k => k < W.heap.size) W := by
  refine ⟨?_, h⟩
  unfold Lib.TabIs World.var? at h
  rw [hg] at h
  simp only [Option.bind_some] at h
  cases hb : W.heap[g]? with
  | none => rw [hb] at h; cases h
  | some o => exact (Array.getElem?_eq_some_iff.1 hb).1
theorem spec_tab {P : Program} {f : FuncId} {args : List Value} {v : Value} {name : String} {k : IntKind} {zs : List Int} {g : Nat} {hg : P.globalNamed name = some g} (h : ∀ w, Lib.TabIs P w name k zs → Calls P f args.toArray w fun e w' => e = .returned v ∧ Below w.heap.size w w') : Spec P f args [tabF P name k zs g hg] [] (fun u Φr Hr => u = v ∧ Φr = [] ∧ Hr = []) := by
  intro F N w hF hΦ _ _ _
  have ht : Lib.TabIs P w name k zs := (hΦ _ (List.mem_singleton.2 rfl)).2
  refine (h w ht).mono fun e w' ⟨he, hb⟩ => ⟨v, [], [], he, ⟨rfl, rfl, rfl⟩, ?_⟩
  have h0 : Holds ⟨w, fun k => ∃ i, i < ([] : List Fact).length ∧ N i k, F⟩ [] [] w :=
    ⟨F, N, hF, fun _ h => h, fun _ h => .inl h, fun φ hφ => (by cases hφ), fun i φ h => (by simp at h), fun i k hi => (by simp at hi), fun i j k hi => (by simp at hi), Mod.refl _ _⟩
  exact h0.drew' hb
theorem drewN_below (w : World) : ∀ n, Below w.heap.size w (w.drewN n)
  | 0 => Below.refl _ _
  | n + 1 => (drewN_below w n).drew
/-- Digits, with fuel. -/
def decF : Nat → Nat → List UInt8
  | 0, _ => []
  | f + 1, u => if u < 10 then [UInt8.ofNat (48 + u)] else decF f (u / 10) ++ [UInt8.ofNat (48 + u % 10)]
theorem decF_eq : ∀ (f u : Nat), u < 10 ^ f → 0 < f → decF f u = Lib.decDigits u
  | 0, _, _, h => by omega
  | f + 1, u, h, _ => by
    unfold decF
    rw [Lib.decDigits]
    split
    · rfl
    · rename_i hu
      cases f with
      | zero => simp at h; omega
      | succ f =>
        rw [decF_eq (f + 1) (u / 10) (by rw [Nat.pow_succ] at h; omega) (by omega)]
def itoaF (n : Int) : ByteArray := ⟨(if n < 0 then 45 :: decF 20 n.natAbs else decF 20 n.toNat).toArray⟩
theorem itoaF_eq {n : Int} (h : -9223372036854775808 ≤ n ∧ n ≤ 9223372036854775807) : (⟨(Lib.itoa n).toArray⟩ : ByteArray) = itoaF n := by
  have e : (10 : Nat) ^ 20 = 100000000000000000000 := by decide
  unfold itoaF Lib.itoa
  split
  · rw [decF_eq 20 _ (by rw [e]; omega) (by omega)]
  · rw [decF_eq 20 _ (by rw [e]; omega) (by omega)]
end Go.Proofs.YtdkmibdiokmfbaaDoor
