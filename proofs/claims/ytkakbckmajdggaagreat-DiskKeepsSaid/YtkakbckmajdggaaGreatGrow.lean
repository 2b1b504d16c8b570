import Derived.Test.YtkakbckmajdggaaGreatText
import Derived.Test.YtkakbckmajdggaaGreatLent
import Derived.Test.YtkakbckmajdggaaGreatStr
import Derived.Test.YtkakbckmajdggaaGreatMapP
import Derived.Lib.AppendZeros
namespace Go.Proofs.YtkakbckmajdggaaGreat
open Go Go.RowKit
section
variable {P : Program} {C : Ctx} {n : Nat} {Q : Exit → Act → World → Prop} {Φ : List Fact} {H : List Fact} {S S' : List (Nat × Value)} {ops : Array Oper} {rest : List Oper} {o : Oper} {d : Nat}
theorem zeroCells_size (z : Array Value) (k : Nat) : (Builtin.zeroCells z k).size = k * z.size := by simp [Builtin.zeroCells]
theorem wl_appendZ {α : Type} {t tn e sz by_ : Nat} {s x : Operand} {kx kn : IntKind} {ex : Int} {m : Nat} {z : Value} (R : Rep α) (hg : wantS ops S o = some true) (hd : o.dst = some d) (hn : Nat.blt d n = true) (hS : outS d S = S')
    (ho : o.op = .call { callee := .builtin .append, args := #[s, x], argTypes := #[t, tn] }) (hs : evS S s = some (.slice none 0 0)) (hx : evS S x = some (.int kx ex)) (hex : ex = (m : Int)) (h0 : 0 < m)
    (he : tElem P t = some e) (hr : tRow P e = some (z, sz, by_)) (hzs : Nat.beq z.cells.size sz = true) (hsz : Nat.blt 0 sz = true) (htn : tInt P tn = some kn) (hby : m * by_ ≤ 281474976710656) (h63 : m ≤ 9223372036854775807)
    (next : ∀ g c, m ≤ c → WL P C n Q Φ (.own e sz R (.slice (some ⟨g, 0, none⟩) 0 c) [] :: H) ((d, .slice (some ⟨g, 0, none⟩) m c) :: S') ops rest) : WL P C n Q Φ H S ops (o :: rest) := by
  subst hex
  refine wl_run hg hd hn hS fun a w hf hw => ?_
  obtain ⟨i, hinfo, hz, hsize, hbytes⟩ := tRow_spec hr
  have hzs' := Nat.eq_of_beq_eq_true hzs
  have hsz' := Nat.le_of_ble_eq_true hsz
  subst hbytes
  have hrun := Go.Lib.run_append_nil_zeros (P := P) w t tn o.type e i z kx kn (tElem_run he) (tInt_run htn) hinfo hz m h0 (by omega) (by omega) hby
  have hge := grownCap_ge w m 0 e
  have hle := grownCap_le_maxLen w m 0 e h63
  generalize grownCap w m 0 e = c at hrun hge hle
  have hb : Holds C Φ H w.drew := hw.drew' ⟨rfl, rfl, rfl, Nat.le_refl _, fun _ _ => rfl⟩
  refine ⟨.slice (some ⟨w.heap.size, 0, none⟩) m c, _, by simp [execOp, ho, resolve, invoke, builtin, hf.eval hs, hf.eval hx, hrun], Φ, _, Holds.rowCap R (hb.alloc (Builtin.zeroCells z.cells m ++ Builtin.zeroCells z.cells (c - m)) e) ?_ hle, next _ _ hge⟩
  simp only [Array.length_toList, Array.size_append, zeroCells_size, hzs']
  rw [← Nat.add_mul]
  congr 1
  omega
theorem rk_cap {t : TypeId} {x : Operand} {p : Option Addr} {k c e : Nat} (ho : o.op = .call { callee := .builtin .cap, args := #[x], argTypes := #[t] }) (hx : evS S x = some (.slice p k c)) (ht : tElem P t = some e) : Reck P n S o (.int .i64 (c : Int)) := fun a w hf => by
  simp [execOp, ho, resolve, invoke, builtin, Builtin.cap_, hf.eval hx, run_underlying (tElem_run ht), goInt]
theorem run_append_fit {w : World} (t ty e : TypeId) (i : TypeInfo) (size : Nat) (ht : P.underlying t = some (.slice e)) (hi : P.info? e = some i) (hsize : i.size = size) {p : Option Addr} {n c : Nat} {xs : List Value} (hown : w.ownsRow 0 e size (.slice p n c) n xs)
    (p2 : Option Addr) (m c2 : Nat) (ys : List Value) (hl : ys.length = m * size) (hsrc : 0 < m → ∃ b off, p2 = some ⟨b, off, none⟩ ∧ CellsAt w b off ys) (h1 : ∀ u ∈ ys, u.oneCell' = true) (hfit : n + m ≤ c) :
    ∃ w', (Builtin.append_ #[t, t] ty #[.slice p n c, .slice p2 m c2]).run P w = .ok (.slice p (n + m) c) w' ∧ w'.ownsRow 0 e size (.slice p (n + m) c) (n + m) (xs ++ ys) ∧ w.grownBy w' (Value.slice p n c).ownBlock := by
  subst hsize
  have hlen : (xs ++ ys).length = (n + m) * i.size := by rw [List.length_append, hown.1, hl, Nat.add_mul]
  rcases Nat.eq_zero_or_pos m with rfl | hm
  · have hy : ys = [] := List.eq_nil_of_length_eq_zero (by simpa using hl)
    subst hy
    refine ⟨w, ?_, by simpa using hown, ⟨rfl, rfl, rfl, Nat.le_refl _, fun _ _ _ => rfl⟩⟩
    have h0 : n ≤ c := by omega
    cases p2 <;> cases p <;> simp [Builtin.append_, run_underlying ht, sizeOf, typeInfo, hi, Builtin.lenOf, Builtin.firstCells, loadCells, loadCellsFrom, storeCells, h0]
  · obtain ⟨b, off, rfl, hc⟩ := hsrc hm
    rcases hown.2 with ⟨h0, _⟩ | ⟨g, cap, cur, hv, hbg, hg, hnc, hcm, hcs, htake⟩
    · cases h0; omega
    · cases hv
      have hf : n * i.size + ys.length ≤ cur.size := by rw [hl, hcs, ← Nat.add_mul]; exact Nat.mul_le_mul_right _ hfit
      have hr := run_append_room (P := P) w t ty e i ht hi g n c cur hg ⟨b, off, none⟩ m c2 ys hl (fun j u hj => by
        have := hc j u hj
        rwa [show (⟨b, off, none⟩ : Addr).add j = ⟨b, off + j, none⟩ from by unfold Addr.add; split <;> simp_all]) h1 hfit hf
      refine ⟨_, hr, ⟨hlen, .inr ⟨g, c, _, rfl, hbg, setRow_heap w g cur _ e _ hg, hfit, hcm, ?_, ?_⟩⟩, ⟨rfl, rfl, rfl, by simp, fun k _ hk => setRow_other w g k _ (fun e => hk (by simp [Value.ownBlock, e]))⟩⟩
      · simp only [List.size_toArray, List.length_append, List.length_take, List.length_drop, Array.length_toList]
        omega
      · rw [htake, ← hlen]
        exact List.take_left
theorem wl_appendFit {α : Type} {t e sz by_ : Nat} {s x : Operand} {R : Rep α} {z : Value} {l l2 : List α} {p p2 : Option Addr} {m c cp : Nat} (k j : Nat) (hg : wantS ops S o = some true) (hd : o.dst = some d) (hn : Nat.blt d n = true) (hS : outS d S = S')
    (ho : o.op = .call { callee := .builtin .append, args := #[s, x], argTypes := #[t, t] }) (hφ : H[k]? = some (.own e sz R (.slice p m c) l)) (hs : evS S s = some (.slice p m c)) (hψ : Φ[j]? = some (.sli sz R p2 cp l2)) (hx : evS S x = some (.slice p2 l2.length cp))
    (he : tElem P t = some e) (hr : tRow P e = some (z, sz, by_)) (hfit : l.length + l2.length ≤ c)
    {H' : List Fact} (hH : H.set k (.own e sz R (.slice p (l ++ l2).length c) (l ++ l2)) = H') (next : WL P C n Q Φ H' ((d, .slice p (l ++ l2).length c) :: S') ops rest) : WL P C n Q Φ H S ops (o :: rest) := by
  refine wl_run hg hd hn hS fun a w hf hw => ?_
  obtain ⟨F, N, hi⟩ := hw
  have hlt := (List.getElem?_eq_some_iff.1 hφ).1
  obtain ⟨hN, xs, hown, hch⟩ := hi.owns k _ hφ
  obtain ⟨p', n', c', ys, e1, _, _, _, hys, hrow⟩ := (hi.facts _ (mem_at hψ) : Sli F w sz (R.p F w) (.slice p2 l2.length cp) l2)
  cases e1
  obtain ⟨i, hinfo, hz, hsize, hbytes⟩ := tRow_spec hr
  have hm : m = l.length := OwnL.len ⟨xs, hown, hch⟩
  subst hm
  obtain ⟨w', hrun, hown', hgrow⟩ := run_append_fit (P := P) (w := w) t o.type e i sz (tElem_run he) hinfo hsize hown p2 l2.length cp ys hys.length (fun h => by obtain ⟨b, off, h1, _, h2⟩ := hrow h; exact ⟨b, off, h1, h2⟩)
    (fun u hu => hys.all (p := fun u => u.oneCell' = true) (fun cs y hr => R.one hr) u hu) hfit
  have hM : Mod (N k) w w' := ⟨hgrow.os, hgrow.tape, hgrow.output, hgrow.size, fun j hj hn => hgrow.block j hj fun e => hn (hN j e.symm)⟩
  have hF : Agree F w w' := fun j hj => hM.block j (hi.flt j hj) (fun hn => (hi.nlt k j hlt hn).2.2 hj)
  have e2 : (l ++ l2).length = l.length + l2.length := List.length_append
  have hOL : OwnL 0 e sz (R.p F w') (l ++ l2) (.slice p (l ++ l2).length c) w' := ⟨xs ++ ys, by rw [e2]; exact hown', (hch.append hys).mono fun cs y _ h => R.good (fun _ h => h) hF h⟩
  subst hH
  refine ⟨.slice p (l ++ l2).length c, w', ?_, Φ, _, ⟨F, N, hi.set k hlt hM (.own e sz R (.slice p (l ++ l2).length c) (l ++ l2)) ⟨fun q hq => hN q (by cases p <;> exact hq), hOL⟩⟩, next⟩
  rw [e2]
  simp [execOp, ho, resolve, invoke, builtin, hf.eval hs, hf.eval hx, hrun]
end
end Go.Proofs.YtkakbckmajdggaaGreat
