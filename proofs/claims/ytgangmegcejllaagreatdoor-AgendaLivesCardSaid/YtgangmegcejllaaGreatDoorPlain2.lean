import Derived.Test.YtgangmegcejllaaGreatDoorAuto
namespace Go.Proofs.YtgangmegcejllaaGreatDoor
open Go Go.RowKit
theorem same_iter {α:Type} {f:Nat → Option (Nat ⊕ (Unit ⊕ Bool))} {l m:List α} (hlen:l.length = m.length)
  (step : ∀ i x y,i < l.length → l[i]? = some x → m[i]? = some y → ∃ b:Bool,(b = true ↔ x = y) ∧ f i = (if b = true then some (.inl (i + 1)) else some (.inr (.inr false))))
  (stop : ∀ i,l.length ≤ i → f i = some (.inr (.inl ()))) (n:Nat) (hn:l.length < n) : ∃ o,Q1o f n 0 = some o ∧ ((o = .inl () ∧ l = m) ∨ (o = .inr false ∧ l ≠ m)):=by
 refine Q67 (fun i=>i ≤ l.length ∧ l.take i = m.take i) (fun i=>l.length - i) _ (fun i ⟨hi,he⟩=>?_) n 0 ⟨by omega,by simp⟩ (by omega)
 by_cases hlt:i < l.length
 ·have hx:=List.getElem?_eq_getElem hlt
  have hy:=List.getElem?_eq_getElem (show i < m.length by omega)
  obtain ⟨b,hb,hf⟩:=step i _ _ hlt hx hy
  cases b with
  | true =>
    left
    refine ⟨i + 1,by rw [hf]; rfl,⟨by omega,?_⟩,by omega⟩
    rw [List.take_add_one,List.take_add_one,he,hx,hy,hb.1 rfl]
  | false =>
    right
    refine ⟨_,by rw [hf]; rfl,.inr ⟨rfl,fun e=>?_⟩⟩
    subst e
    have:=hb.2 rfl
    cases this
 ·right
  refine ⟨_,stop i (by omega),.inl ⟨rfl,?_⟩⟩
  have h1:l.take i = l:=List.take_of_length_le (by omega)
  have h2:m.take i = m:=List.take_of_length_le (by omega)
  rw [← h1,← h2,he]
def Says (m:Option Bool) (p:Prop):Prop:=∃ b,m = some b ∧ (b = true ↔ p)
theorem Says.same {α:Type} {f:Nat → Option (Nat ⊕ (Unit ⊕ Bool))} {l m:List α} {N:Nat} (hN : 9223372036854775808 ≤ N) (hl:l.length ≤ 9223372036854775807)
  (step:l.length = m.length → ∀ i x y,i < l.length → l[i]? = some x → m[i]? = some y → ∃ b:Bool,(b = true ↔ x = y) ∧ f i = (if b = true then some (.inl (i + 1)) else some (.inr (.inr false))))
  (stop : ∀ i,l.length ≤ i → f i = some (.inr (.inl ()))):Says (if (l.length != m.length) = true then some false else Q5x (Q1o f N 0) fun _=>some true) (l = m):=by
 by_cases h:l.length = m.length
 ·rw [if_neg (by simpa using h)]
  obtain ⟨o,h1,h2⟩:=same_iter h (step h) stop N (by omega)
  rw [h1]
  rcases h2 with ⟨rfl,h2⟩ | ⟨rfl,h2⟩
  · exact ⟨true,rfl,by simp [h2]⟩
  · exact ⟨false,rfl,by simp [h2]⟩
 ·rw [if_pos (by simpa using h)]
  exact ⟨false,rfl,by constructor; · simp
                      · intro e; subst e; exact absurd rfl h⟩
theorem Says.and {m:Option Bool} {c:Bool} {p q:Prop} (h:Says m p) (hc:c = true ↔ q):Says (if c = true then m else some false) (q ∧ p):=by
 obtain ⟨b,h1,h2⟩:=h
 cases c with
 | true=>exact ⟨b,by rw [if_pos rfl]; exact h1,by simp [hc.1 rfl,h2]⟩
 | false=>exact ⟨false,by simp,by simp; intro hq; exact absurd (hc.2 hq) (by simp)⟩
theorem Says.id {m:Option Bool} {p:Prop} (h:Says m p):Says (Qf m fun v=>some v) p:=by
 obtain ⟨b,h1,h2⟩:=h
 rw [h1]; exact ⟨b,rfl,h2⟩
theorem Says.iff {m:Option Bool} {p q:Prop} (h:Says m p) (e:p ↔ q):Says m q:=by
 obtain ⟨b,h1,h2⟩:=h
 exact ⟨b,h1,h2.trans e⟩
theorem Says.eq_true {m:Option Bool} {p:Prop} (h:Says m p) (hp:p):m = some true:=by
 obtain ⟨b,h1,h2⟩:=h
 rw [h1,h2.2 hp]
end Go.Proofs.YtgangmegcejllaaGreatDoor
namespace Go.Proofs.YtgangmegcejllaaGreatDoor
open Go Go.RowKit
theorem Q9n {β:Type} {f:Nat × List β → Option ((Nat × List β) ⊕ List β)} (n:Nat) (g:Nat → β) (l0:List β)
  (step : ∀ i,i < n → f (i,l0 ++ (List.range i).map g) = some (.inl (i + 1,l0 ++ (List.range i).map g ++ [g i])))
  (stop:f (n,l0 ++ (List.range n).map g) = some (.inr (l0 ++ (List.range n).map g))) {N:Nat} (hN:n < N):Q1o f N (0,l0) = some (l0 ++ (List.range n).map g):=by
 obtain ⟨o,h1,h2⟩:=Q67 (f:=f) (fun s=>s.1 ≤ n ∧ s.2 = l0 ++ (List.range s.1).map g) (fun s=>n - s.1) (fun o=>o = l0 ++ (List.range n).map g) (fun s hs=>by
  obtain ⟨i,m⟩:=s
  obtain ⟨hi,hm⟩:=hs
  simp only at hi hm
  subst hm
  by_cases h:i < n
  ·left
   exact ⟨_,step i h,⟨by simp only; omega,by simp [List.range_succ]⟩,by simp only; omega⟩
  ·right
   obtain rfl:i = n:=by omega
   exact ⟨_,stop,rfl⟩) N (0,l0) ⟨Nat.zero_le _,by simp⟩ (by simp only; omega)
 rw [h1,h2]
theorem map_range {α β:Type} (l:List α) (f : α → β) (d : α):(List.range l.length).map (fun i=>f (l.getD i d)) = l.map f:=by
 apply List.ext_getElem
 · simp
 ·intro i h1 h2
  simp at h1
  simp [h1]
theorem iter_look {ε:Type} {f:Nat → Option (Nat ⊕ (Unit ⊕ ε))} (n:Nat) (step : ∀ i,i < n → f i = some (.inl (i + 1))) (stop:f n = some (.inr (.inl ()))) {N:Nat} (hN:n < N):Q1o f N 0 = some (.inl ()):=by
 obtain ⟨o,h1,h2⟩:=Q67 (f:=f) (fun i=>i ≤ n) (fun i=>n - i) (fun o=>o = .inl ()) (fun i hi=>by
  by_cases h:i < n
  · exact .inl ⟨_,step i h,by omega,by omega⟩
  ·obtain rfl:i = n:=by omega
   exact .inr ⟨_,stop,rfl⟩) N 0 (Nat.zero_le _) (by omega)
 rw [h1,h2]
theorem app_l {α:Type} {l t:List α} {i:Nat} (h:i < l.length):(l ++ t)[i]? = some (l[i]):=by rw [List.getElem?_append_left h,List.getElem?_eq_getElem h]
theorem app_r {α:Type} {l t:List α} {i:Nat} (h:l.length ≤ i):(l ++ t)[i]? = t[i - l.length]?:=List.getElem?_append_right h
theorem take_all {α:Type} {l t:List α} {n:Nat} (h:t.length = n):(l ++ t).take (l.length + n) = l ++ t:=by rw [List.take_of_length_le]; simp [h]
end Go.Proofs.YtgangmegcejllaaGreatDoor
