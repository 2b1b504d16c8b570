import Derived.Test.YtegkmbkbaenkcaaView
import Derived.Test.YtegkmbkbaenkcaaAuto
import Derived.Laws.BytesArg
import Derived.Laws.BytesString
import Derived.Laws.IdiomStrings
import Derived.Lib.LaidTab
import Derived.Lib.ItoaNum
import Derived.LaidSub
namespace Go.Proofs.Ytegkmbkbaenkcaa
open Go Go.RowKit
section
variable {P : Program} {C : Ctx} {n : Nat} {Q : Exit → Act → World → Prop} {Φ : List Fact} {H : List Fact} {S S' : List (Nat × Value)} {ops : Array Oper} {rest : List Oper} {o : Oper} {d : Nat}
theorem run_bytesStr {src dst e c : Nat} {R : Rep Int} {p : Option Addr} {l : List Int} {F : Foot} {w : World} (hs : P.underlying src = some (.slice e)) (he : P.underlying e = some (.int .u8)) (hd : P.underlying dst = some .string)
    (hR : ∀ F w cs x, R.p F w cs x → cs = [.int .u8 x]) (h : (Fact.sli 1 R p c l).p F w) : (convert src dst (.slice p l.length c)).run P w = .ok (.string (strOfNums l)) w := by
  obtain ⟨p', n', c', xs, e1, e2, h1, h2, h3, h4⟩ := h
  cases e1
  rcases Nat.eq_zero_or_pos l.length with h0 | h0
  · have hl : l = [] := List.eq_nil_of_length_eq_zero h0
    subst hl
    cases p with
    | none => exact run_convert_bytes_nil w src e hs he _ _ dst hd
    | some a =>
      have hl : (loadCells a 0).run P w = .ok (([] : List Int).map (Value.int .u8)).toArray w := run_loadCells_list (P := P) w a [] (fun j v hj => by simp at hj)
      rw [run_convert_bytes_string w src dst e _ _ c hs he hd]
      exact run_bytesToString w a 0 c [] hl
  · obtain ⟨b, off, rfl, _, hc⟩ := h4 h0
    refine run_convert_bytes_arg w src e hs he b off l.length c l rfl (fun i hi => ?_) dst hd
    have hx := List.getElem?_eq_getElem hi
    obtain ⟨cs, q1, q2, q3⟩ := h3.at hx
    have q4 := hR _ _ _ _ q2
    subst q4
    have := hc (i * 1 + 0) _ (q3 0 _ rfl)
    rw [Nat.mul_one, Nat.add_zero] at this
    rw [this, List.getD_eq_getElem?_getD, hx]; rfl
theorem freeze_cell' {w : World} {a x : Addr} {n : Nat} : (w.freeze a n).cell? x = w.cell? x := by
  unfold World.freeze
  split
  · rfl
  · unfold World.cell?
    simp only [Array.getElem?_modify]
    by_cases hb : a.block = x.block
    · simp only [hb, if_true]
      cases hw : w.heap[x.block]? with
      | none => rfl
      | some o => cases o <;> rfl
    · simp [hb]
theorem stringish_run' {b off : Nat} {w : World} : ∃ w', (markStringish ⟨b, off, none⟩).run P w = .ok () w' ∧ Mod (fun k => k = b) w w' ∧ ∀ x, w'.cell? x = w.cell? x := by
  unfold markStringish
  cases hs : w.shape? b with
  | none => exact ⟨w, by simp [shape, Sem.run, hs], Mod.refl _ _, fun _ => rfl⟩
  | some r =>
    refine ⟨w.freeze ⟨b, r.2, none⟩ 1, by simp [shape, freeze, Sem.run, hs], ⟨?_, ?_, ?_, ?_, fun k hk hn => ?_⟩, fun _ => freeze_cell'⟩
    · simp [World.freeze]
    · simp [World.freeze]
    · simp [World.freeze]
    · simp [World.freeze]
    · simp only [World.freeze]
      rw [if_neg (by decide)]
      simp only [Array.getElem?_modify]
      rw [if_neg (fun e => hn e.symm)]
theorem wl_markRow {H' : List Fact} {α : Type} {t e e' sz c g m : Nat} {x : Operand} {R : Rep α} {l : List α} (k : Nat) (hg : wantS ops S o = some true) (hd : o.dst = some d) (hn : Nat.blt d n = true) (hS : outS d S = S') (ho : o.op = .convert t t x)
    (hφ : H[k]? = some (.own e' sz R (.slice (some ⟨g, 0, none⟩) m c) l)) (hx : evS S x = some (.slice (some ⟨g, 0, none⟩) m c)) (hm : m = l.length) (ht : P.underlying t = some (.slice e)) (he : P.underlying e = some (.int .u8)) (hR : RFree R)
    (hE : H.eraseIdx k = H') (next : WL P C n Q (.sli sz R (some ⟨g, 0, none⟩) c l :: Φ) H' ((d, .slice (some ⟨g, 0, none⟩) l.length c) :: S') ops rest) : WL P C n Q Φ H S ops (o :: rest) := by
  subst hm
  refine wl_run hg hd hn hS fun a w hf hw => ?_
  obtain ⟨w', r1, r2, r3⟩ := stringish_run' (P := P) (b := g) (off := 0) (w := w)
  refine ⟨.slice (some ⟨g, 0, none⟩) l.length c, w', by simp [execOp, ho, hf.eval hx, convert, run_underlying ht, run_underlying he, r1], _, _, ?_, next⟩
  obtain ⟨F, N, hi⟩ := hw
  have hlt := (List.getElem?_eq_some_iff.1 hφ).1
  obtain ⟨h1, h2⟩ := hi.owns k _ hφ
  have hN : N k g := h1 g rfl
  have h3 : Sli (N k) w sz (R.p F w) (.slice (some ⟨g, 0, none⟩) l.length c) l := by
    obtain ⟨xs, ho', hc⟩ := h2
    rcases ho'.2 with ⟨hz, _⟩ | ⟨g', cap, cur, hv, hb, hgg, hnc, hcm, hcs, htake⟩
    · cases hz
    · cases hv
      refine ⟨_, _, _, xs, rfl, rfl, hnc, hcm, hc, fun _ => ⟨g, 0, rfl, hN, fun j u hj => ?_⟩⟩
      have := ho'.cells (g := g) rfl j u hj
      rwa [show (⟨g, 0, none⟩ : Addr).add j = ⟨g, 0 + j, none⟩ from by unfold Addr.add; split <;> simp_all] at this
  have h4 : (Fact.sli sz R (some ⟨g, 0, none⟩) c l).op (N k) F w' := by
    obtain ⟨p, n', c', xs, hv, hn', hc, hm, hx', hrow⟩ := h3
    have hag : Agree F w w' := fun q hq => r2.block q (hi.flt q hq) (fun e => (hi.nlt k q hlt (by subst e; exact hN)).2.2 hq)
    refine ⟨p, n', c', xs, hv, hn', hc, hm, hx'.mono fun cs x _ h => hR F _ _ _ _ (R.good (fun _ h => h) hag h), fun h0 => ?_⟩
    obtain ⟨b, off, hp, hF, hcell⟩ := hrow h0
    exact ⟨b, off, hp, hF, fun j u hj => (r3 _).trans (hcell j u hj)⟩
  have hset := hi.set k hlt (r2.mono fun i _ e => by subst e; exact hN) (Fact.sli sz R (some ⟨g, 0, none⟩) c l) h4
  refine Holds.freeze ⟨F, N, hset⟩ k (by simp [hlt]) ?_
  rw [← hE]
  simp [List.eraseIdx_set_eq]
theorem wl_bytesStr {s t e c : Nat} {x : Operand} {R : Rep Int} {p : Option Addr} {l : List Int} (k : Nat) (hg : wantS ops S o = some true) (hd : o.dst = some d) (hn : Nat.blt d n = true) (hS : outS d S = S') (ho : o.op = .convert s t x)
    (hx : evS S x = some (.slice p l.length c)) (hk : Φ[k]? = some (.sli 1 R p c l)) (hs : P.underlying s = some (.slice e)) (he : P.underlying e = some (.int .u8)) (ht : P.underlying t = some .string)
    (hR : ∀ F w cs x, R.p F w cs x → cs = [.int .u8 x]) (next : WL P C n Q Φ H ((d, .string (strOfNums l)) :: S') ops rest) : WL P C n Q Φ H S ops (o :: rest) := by
  refine wl_val hg hd hn hS (fun a w hf hw => ?_) next
  obtain ⟨F, N, hi⟩ := hw
  have := run_bytesStr hs he ht hR (hi.facts _ (mem_at hk))
  simp [execOp, ho, hf.eval hx, this]
end
end Go.Proofs.Ytegkmbkbaenkcaa
