import Derived.Test.YtbgodclhmgmcgaaGreatDoorAuto
namespace Go.Proofs.YtbgodclhmgmcgaaGreatDoor
open Go Go.RowKit
theorem same_iter {α:Type} {f:Nat → Option (Nat ⊕ (Unit ⊕ Bool))} {l m:List α} (hlen:l.length = m.length)
  (step : ∀ i x y,i < l.length → l[i]? = some x → m[i]? = some y → ∃ b:Bool,(b = true ↔ x = y) ∧ f i = (if b = true then some (.inl (i + 1)) else some (.inr (.inr false))))
  (stop : ∀ i,l.length ≤ i → f i = some (.inr (.inl ()))) (n:Nat) (hn:l.length < n) : ∃ o,Q1h f n 0 = some o ∧ ((o = .inl () ∧ l = m) ∨ (o = .inr false ∧ l ≠ m)):=by
 refine Q5c (fun i=>i ≤ l.length ∧ l.take i = m.take i) (fun i=>l.length - i) _ (fun i ⟨hi,he⟩=>?_) n 0 ⟨by omega,by simp⟩ (by omega)
 by_cases hlt:i < l.length
 ·have hx:=List.getElem?_eq_getElem hlt
  have hy:=List.getElem?_eq_getElem (show i < m.length by omega)
  obtain ⟨b,hb,hf⟩:=step i _ _ hlt hx hy
  cases b with
  | true =>
    left
    refine ⟨i + 1,by rw [hf]; rfl,⟨by omega,?_⟩,by omega⟩
    rw [List.take_add_one,List.take_add_one,he,hx,hy,hb.1 rfl]
  | false =>
    right
    refine ⟨_,by rw [hf]; rfl,.inr ⟨rfl,fun e=>?_⟩⟩
    subst e
    have:=hb.2 rfl
    cases this
 ·right
  refine ⟨_,stop i (by omega),.inl ⟨rfl,?_⟩⟩
  have h1:l.take i = l:=List.take_of_length_le (by omega)
  have h2:m.take i = m:=List.take_of_length_le (by omega)
  rw [← h1,← h2,he]
def Says (m:Option Bool) (p:Prop):Prop:=∃ b,m = some b ∧ (b = true ↔ p)
theorem Says.same {α:Type} {f:Nat → Option (Nat ⊕ (Unit ⊕ Bool))} {l m:List α} {N:Nat} (hN : 9223372036854775808 ≤ N) (hl:l.length ≤ 9223372036854775807)
  (step:l.length = m.length → ∀ i x y,i < l.length → l[i]? = some x → m[i]? = some y → ∃ b:Bool,(b = true ↔ x = y) ∧ f i = (if b = true then some (.inl (i + 1)) else some (.inr (.inr false))))
  (stop : ∀ i,l.length ≤ i → f i = some (.inr (.inl ()))):Says (if (l.length != m.length) = true then some false else Q2I (Q1h f N 0) fun _=>some true) (l = m):=by
 by_cases h:l.length = m.length
 ·rw [if_neg (by simpa using h)]
  obtain ⟨o,h1,h2⟩:=same_iter h (step h) stop N (by omega)
  rw [h1]
  rcases h2 with ⟨rfl,h2⟩ | ⟨rfl,h2⟩
  · exact ⟨true,rfl,by simp [h2]⟩
  · exact ⟨false,rfl,by simp [h2]⟩
 ·rw [if_pos (by simpa using h)]
  exact ⟨false,rfl,by constructor; · simp
                      · intro e; subst e; exact absurd rfl h⟩
theorem Says.and {m:Option Bool} {c:Bool} {p q:Prop} (h:Says m p) (hc:c = true ↔ q):Says (if c = true then m else some false) (q ∧ p):=by
 obtain ⟨b,h1,h2⟩:=h
 cases c with
 | true=>exact ⟨b,by rw [if_pos rfl]; exact h1,by simp [hc.1 rfl,h2]⟩
 | false=>exact ⟨false,by simp,by simp; intro hq; exact absurd (hc.2 hq) (by simp)⟩
theorem Says.id {m:Option Bool} {p:Prop} (h:Says m p):Says (Qc m fun v=>some v) p:=by
 obtain ⟨b,h1,h2⟩:=h
 rw [h1]; exact ⟨b,rfl,h2⟩
theorem Says.iff {m:Option Bool} {p q:Prop} (h:Says m p) (e:p ↔ q):Says m q:=by
 obtain ⟨b,h1,h2⟩:=h
 exact ⟨b,h1,h2.trans e⟩
end Go.Proofs.YtbgodclhmgmcgaaGreatDoor
