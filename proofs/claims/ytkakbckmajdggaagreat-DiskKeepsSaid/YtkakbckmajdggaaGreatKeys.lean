import Derived.Test.YtkakbckmajdggaaGreatMapP
import Derived.Sort.KeysCollected
import Derived.Maps.Own
import Derived.CallsIn
namespace Go.Proofs.YtkakbckmajdggaaGreat
open Go Go.RowKit
def strBA (s : List UInt8) : ByteArray := ⟨s.toArray⟩
def leL : List UInt8 → List UInt8 → Bool := fun x y => decide (x ≤ y)
def sortKeys {α : Type} (es : List (ByteArray × α)) : List ByteArray := ((es.map fun x => x.1.data.toList).mergeSort leL).map strBA
def fitKeys {α : Type} (es : List (ByteArray × α)) : Bool := es.all (fun x => decide (x.1.size ≤ maxLen)) && decide (es.length ≤ 8796093022207)
section
variable {P : Program} {α : Type} {kt : TypeId} {K : KeyL P kt ByteArray} {ag : Bool} {R : Rep α} {b : Nat} {es : List (ByteArray × α)}
abbrev anyKR : Value → Option (DataW Unit × List MemPlace) := fun _ => some (.lit (.bool true), [])
theorem keys_own {N F : Foot} {w : World} (hk : P.underlying kt = some .string) (hK : ∀ x, K.enc x = .string x) (h : MapP K ag R N F b es w) (hf : fitKeys es = true) :
    ∃ D0 : DataW Unit, w.ownsMap P kt anyKR b es.length D0 ∧ (strKeys D0).Perm (es.map fun x => x.1.data.toList) ∧ Maps.size D0 = es.length := by
  obtain ⟨es0, hp, _, E, clock, h1, h2, h3, h4, h5, h6, h7⟩ := h
  simp only [fitKeys, Bool.and_eq_true, List.all_eq_true, decide_eq_true_eq] at hf
  obtain ⟨hf1, hf2⟩ := hf
  have hlen : E.toList.length = es0.length := by simpa using congrArg List.length h2
  have hkey : ∀ e ∈ E.toList, ∃ s : ByteArray, e.key = .string s ∧ s.size ≤ maxLen := fun e he => by
    have : e.key ∈ es0.map (fun x => K.enc x.1) := by rw [← h2]; exact List.mem_map.2 ⟨e, he, rfl⟩
    obtain ⟨x, hx, hxe⟩ := List.mem_map.1 this
    exact ⟨x.1, by rw [← hxe, hK], hf1 x (hp.mem_iff.1 hx)⟩
  have hrd : ∀ e ∈ E.toList, ∃ s : ByteArray, e.key = .string s ∧ Go.WideElems.rd P kt anyKR e = some (.string s.data.toList, .lit (.bool true)) := fun e he => by
    obtain ⟨s, hs, hl⟩ := hkey e he
    refine ⟨s, hs, ?_⟩
    unfold Go.WideElems.rd
    rw [hs]
    simp [keyOf, mapKey, hk, hl, anyKR]
  have hinj : ∀ x y : ByteArray, K.enc x = K.enc y → x = y := fun x y h => by rw [hK, hK] at h; exact Value.string.inj h
  have hst : Go.MapKept.Stamped E clock := by
    refine (Go.MapKept.stamped_iff E clock).2 ⟨h7, h6, ?_⟩
    have : (E.toList.map (·.key)).Nodup := by
      rw [h2, show (fun x : ByteArray × α => K.enc x.1) = K.enc ∘ (·.1) from rfl, ← List.map_map]
      exact List.pairwise_map.2 (List.Pairwise.imp (fun hne e => hne (hinj _ _ e)) h4)
    exact List.pairwise_map.1 this
  have hfit : Go.WideElems.Fit P kt anyKR E clock := ⟨by have := hp.length_eq; simp at hlen; rw [hlen, this]; unfold maxLen; omega, hst, fun e he => by obtain ⟨s, _, h⟩ := hrd e he; exact ⟨_, h⟩⟩
  refine ⟨_, ⟨E, clock, h1, hfit, by simp at hlen; rw [hlen, hp.length_eq]; exact Nat.le_refl _, rfl⟩, ?_, ?_⟩
  · show ((List.foldr DataW.insert [] (E.toList.map (Go.WideElems.rg P kt anyKR))).map fun p => strOf p.1).Perm _
    refine ((Go.WideShapes.sorted_perm _).map _).trans ?_
    rw [List.map_map]
    have : E.toList.map ((fun p : Lit × DataW Unit => strOf p.1) ∘ Go.WideElems.rg P kt anyKR) = es0.map (fun x => x.1.data.toList) := by
      have e1 : E.toList.map ((fun p : Lit × DataW Unit => strOf p.1) ∘ Go.WideElems.rg P kt anyKR) = (E.toList.map (·.key)).map (fun v => match v with | .string s => s.data.toList | _ => []) := by
        rw [List.map_map]
        refine List.map_congr_left fun e he => ?_
        obtain ⟨s, hs, h⟩ := hrd e he
        simp [Go.WideElems.rg_of h, hs, strOf]
      rw [e1, h2, List.map_map]
      refine List.map_congr_left fun x _ => ?_
      simp [hK]
    rw [this]
    exact hp.map _
  · show (List.foldr DataW.insert [] (E.toList.map (Go.WideElems.rg P kt anyKR))).length = _
    rw [(Go.WideShapes.sorted_perm _).length_eq, List.length_map, hlen, hp.length_eq]
theorem spec_keys {f it : FuncId} {t : TypeId} {b : Nat} (h : ∀ W, CallsIn Fence.wide 5 P f #[.map (some b)] W fun e w' => e = .returned (.func (.func it) #[] #[.pointer (some ⟨W.heap.size, 0, none⟩)]) ∧ w' = W.alloc (.cells #[.map (some b)] t)) :
    Spec P f [.map (some b)] [] [] (fun v Φr Hr => ∃ g, v = .func (.func it) #[] #[.pointer (some ⟨g, 0, none⟩)] ∧ Φr = [] ∧ Hr = [.blk g [.map (some b)] t]) := by
  intro F N w hF hΦ hH hlt hap
  refine (callsIn_wide.1 (h w)).mono ?_
  rintro e w' ⟨rfl, rfl⟩
  refine ⟨_, _, _, rfl, ⟨w.heap.size, rfl, rfl, rfl⟩, ?_⟩
  have h0 : Holds ⟨w, fun k => ∃ i, i < ([] : List Fact).length ∧ N i k, F⟩ [] [] w := ⟨F, N, hF, fun _ h => h, fun _ h => .inl h, hΦ, hH, fun i k hi hk => ⟨(hlt i k hi hk).1, .inr ⟨i, hi, hk⟩, (hlt i k hi hk).2⟩, hap, Mod.refl _ _⟩
  exact h0.alloc #[.map (some b)] t
theorem chunks_str {R : List Value → ByteArray → Prop} : ∀ (l : List (List UInt8)), (∀ x, R [.string x] x) → Chunks 1 R (l.map encStr) (l.map strBA)
  | [], _ => rfl
  | x :: l, h => ⟨[.string (strBA x)], _, rfl, rfl, h _, chunks_str l h⟩
theorem spec_sorted {f it : FuncId} {t : TypeId} {g : Nat} {Rs : Rep ByteArray} (hk : P.underlying kt = some .string) (hK : ∀ x, K.enc x = .string x) (hRs : ∀ F w x, Rs.p F w [.string x] x) (hf : fitKeys es = true)
    (h : ∀ (nn : Nat) (D0 : DataW Unit) (W : World), g < W.heap.size → W.cell? ⟨g, 0, none⟩ = some (.map (some b)) → W.ownsMap P kt anyKR b nn D0 → Maps.size D0 ≤ maxLen → Maps.size D0 * 16 ≤ 140737488355328 →
      CallsIn Fence.wide 5 P f #[.func (.func it) #[] #[.pointer (some ⟨g, 0, none⟩)]] W fun e w' => ∃ (v : Value) (ss : List (List UInt8)), e = .returned v ∧ ss.Perm (strKeys D0) ∧
        w'.ownsRow W.heap.size kt 1 v ss.length ((ss.mergeSort (fun x y => decide (x ≤ y))).map encStr) ∧ (v = .slice none 0 0 ↔ ss = []) ∧ Below W.heap.size W w') :
    Spec P f [.func (.func it) #[] #[.pointer (some ⟨g, 0, none⟩)]] [] [.blk g [.map (some b)] t, mapP K ag R b es] (fun v Φr Hr => ∃ p c, v = .slice p (sortKeys es).length c ∧ Φr = [] ∧ Hr = [.own kt 1 Rs v (sortKeys es), .blk g [.map (some b)] t, mapP K ag R b es]) := by
  intro F N w hF hΦ hH hlt hap
  have hb := hH 0 _ rfl
  have hm : MapP K ag R (N 1) F b es w := hH 1 _ rfl
  obtain ⟨D0, q1, q2, q3⟩ := keys_own hk hK hm hf
  have hf2 : es.length ≤ 8796093022207 := by simp only [fitKeys, Bool.and_eq_true, decide_eq_true_eq] at hf; exact hf.2
  have hgl := (Array.getElem?_eq_some_iff.1 hb.2).1
  have hcell : w.cell? ⟨g, 0, none⟩ = some (.map (some b)) := by
    have := cell_of_row w g 0 _ _ _ hb.2
    simpa using this
  refine (callsIn_wide.1 (h _ D0 w hgl hcell q1 (by rw [q3]; unfold maxLen; omega) (by rw [q3]; omega))).mono ?_
  rintro e w' ⟨v, ss, rfl, r1, r2, r3, r4⟩
  have hl : (ss.mergeSort (fun x y => decide (x ≤ y))).map strBA = sortKeys es := by
    unfold sortKeys
    rw [mergeSort_of_perm (r1.trans q2)]
    rfl
  have hlen : ss.length = (sortKeys es).length := by rw [← hl]; simp
  have h0 : MInv ⟨w, fun k => ∃ i, i < [Fact.blk g [.map (some b)] t, mapP K ag R b es].length ∧ N i k, F⟩ [] [.blk g [.map (some b)] t, mapP K ag R b es] F N w := ⟨hF, fun _ h => h, fun _ h => .inl h, hΦ, hH, fun i k hi hk => ⟨(hlt i k hi hk).1, .inr ⟨i, hi, hk⟩, (hlt i k hi hk).2⟩, hap, Mod.refl _ _⟩
  have hrow : OwnL w.heap.size kt 1 (Rs.p F w') (sortKeys es) v w' := by
    refine ⟨_, hlen ▸ r2, ?_⟩
    rw [← hl]
    exact chunks_str _ fun x => hRs _ _ _
  obtain ⟨p, n, c, rfl⟩ := hrow.shape
  have hn : n = (sortKeys es).length := hrow.len
  subst hn
  refine ⟨_, _, _, rfl, ⟨p, c, rfl, rfl, rfl⟩, F, _, (h0.grow r4).push (.own kt 1 Rs (.slice p (sortKeys es).length c) (sortKeys es)) (fun k => (Value.slice p (sortKeys es).length c).ownBlock = some k) ⟨fun k hk => hk, hrow.mono (Nat.zero_le _)⟩ ?_ ?_⟩
  · intro k hk
    obtain ⟨a1, a2⟩ := hrow.lt k hk
    exact ⟨a2, .inl a1, fun hf => by have := hF k hf; omega⟩
  · intro i k hi hk hn
    obtain ⟨a1, a2⟩ := hrow.lt k hk
    have := (hlt i k hi hn).1
    omega
end
end Go.Proofs.YtkakbckmajdggaaGreat
