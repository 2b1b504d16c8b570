import Derived.Test.YtkakbckmajdggaaFlat
namespace Go.Proofs.Ytkakbckmajdggaa
open Go Go.RowKit
section rules
variable {P : Program} {C : Ctx} {n : Nat} {Q : Exit → Act → World → Prop} {Φ H : List Fact} {S S' : List (Nat × Value)} {ops : Array Oper} {rest : List Oper} {o : Oper} {d : Nat}
theorem wl_appendN {α : Type} {t e sz by_ g tb m : Nat} {s x : Operand} {R : Rep α} {p : Option Addr} {z : Value} {l : List α} {cs : List Value} {cp : Nat} (l2 : List α) (k j : Nat) (hg : wantS ops S o = some true) (hd : o.dst = some d) (hn : Nat.blt d n = true) (hS : outS d S = S')
    (ho : o.op = .call { callee := .builtin .append, args := #[s, x], argTypes := #[t, t] }) (hφ : H[k]? = some (.own e sz R (.slice p m m) l)) (hs : evS S s = some (.slice p m m)) (hψ : H[j]? = some (.blk g cs tb)) (hx : evS S x = some (.slice (some ⟨g, 0, none⟩) l2.length cp))
    (hch : ∀ F w, (∀ ψ ∈ Φ, ψ.p F w) → Chunks sz (R.p F w) cs l2) (hpos : 0 < l2.length)
    (he : tElem P t = some e) (hr : tRow P e = some (z, sz, by_)) (hzs : Nat.beq z.cells.size sz = true) (hsz : Nat.blt 0 sz = true) (h63 : l.length + l2.length ≤ 9223372036854775807) (hby : (l.length + l2.length) * by_ ≤ 140737488355328)
    (next : ∀ p' c', WL P C n Q Φ (.own e sz R (.slice p' (l ++ l2).length c') (l ++ l2) :: H) ((d, .slice p' (l ++ l2).length c') :: S') ops rest) : WL P C n Q Φ H S ops (o :: rest) := by
  refine wl_run hg hd hn hS fun a w hf hw => ?_
  obtain ⟨F, N, hi⟩ := hw
  have hlt := (List.getElem?_eq_some_iff.1 hφ).1
  obtain ⟨hN, hown0⟩ := hi.owns k _ hφ
  obtain rfl := hown0.len
  obtain ⟨xs, hown, hch0⟩ := hown0
  have hys := hch F w hi.facts
  have hcell := blk_cells (hi.owns j _ hψ).2
  obtain ⟨i, hinfo, hz, hsize, hbytes⟩ := tRow_spec hr
  obtain ⟨v', w', hrun, hown', hcase⟩ := run_append_twin (P := P) w t o.type e i z sz by_ (tElem_run he) hinfo hz hsize hbytes (Nat.eq_of_beq_eq_true hzs) (Nat.le_of_ble_eq_true hsz) _ l.length xs hown ⟨g, 0, none⟩ l2.length cp cs hys.length
    (fun j u hj => by rw [addr_add]; exact hcell j u hj) (fun u hu => hys.all (p := fun u => u.oneCell' = true) (fun cs y hr => R.one hr) u hu) (by unfold maxLen; exact h63) hby hpos
  rcases hcase with ⟨hb, hgrow⟩ | ⟨g0, cap, hv1, hv2, _⟩
  · have hB : Below w.heap.size w w' := ⟨hgrow.os, hgrow.tape, hgrow.output, hgrow.size, fun k hk => hgrow.block k hk (by simp)⟩
    have hF : Agree F w w' := fun q hq => hB.block q (hi.flt q hq)
    have hOL : OwnL 0 e sz (R.p F w') (l ++ l2) v' w' := ⟨xs ++ cs, by simpa using hown', (hch0.append hys).mono fun cs y _ h => R.good (fun _ h => h) hF h⟩
    have hlt' := hOL.lt
    obtain ⟨p', n', c', rfl⟩ := hOL.shape
    obtain rfl := hOL.len
    refine ⟨_, w', by simp [execOp, ho, resolve, invoke, builtin, hf.eval hs, hf.eval hx, hrun], Φ, _, ⟨F, _, (hi.grow hB).push (.own e sz R (.slice p' (l ++ l2).length c') (l ++ l2)) (fun q => q = w.heap.size) ⟨fun q hq => ?_, hOL⟩ ?_ ?_⟩, next p' c'⟩
    · rw [hb] at hq; exact (Option.some.inj hq).symm
    · rintro q rfl
      exact ⟨(hlt' _ hb).2, .inl hi.mod.size, fun hf => Nat.lt_irrefl _ (hi.flt _ hf)⟩
    · rintro i q hl rfl hn
      exact Nat.lt_irrefl _ (hi.nlt i _ hl hn).1
  · exfalso
    cases hv1
    rcases hown'.2 with ⟨h0, _⟩ | ⟨g1, cap1, cur1, e1, _, _, hn1, _⟩
    · rw [hv2] at h0; cases h0
    · rw [hv2] at e1
      cases e1
      omega
end rules
end Go.Proofs.Ytkakbckmajdggaa
