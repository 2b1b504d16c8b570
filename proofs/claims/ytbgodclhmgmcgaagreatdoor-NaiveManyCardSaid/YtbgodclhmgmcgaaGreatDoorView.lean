import Derived.Test.YtbgodclhmgmcgaaGreatDoorAuto
namespace Go.Proofs.YtbgodclhmgmcgaaGreatDoor
open Go Go.RowKit
theorem sli_cut {α:Type} {sz c i h:Nat} {R:Rep α} {p p' : Option Addr} {l:List α} {F:Q2n} {w:World} (hs:(Fact.sli sz R p c l).p F w) (hi:i ≤ h) (hl:h ≤ l.length) (hp:i < h → ∀ b o,p = some ⟨b,o,none⟩ → p' = some ⟨b,o + i * sz,none⟩):(Fact.sli sz R p' (c - i) ((l.take h).drop i)).p F w:=by
 obtain ⟨p0,n0,c0,xs,e1,e2,h1,h2,h3,h4⟩:=sli_to h hs
 cases e1
 refine ⟨p',_,c - i,xs.drop (i * sz),rfl,rfl,by simp only [List.length_drop,List.length_take] at h1 ⊢; omega,by omega,h3.drop i,fun h0=>?_⟩
 simp only [List.length_drop,List.length_take] at h0
 obtain ⟨b,o,e3,h5,h6⟩:=h4 (by simp only [List.length_take]; omega)
 refine ⟨b,o + i * sz,hp (by omega) b o e3,h5,fun j u hu=>?_⟩
 rw [List.getElem?_drop] at hu
 have:=h6 (i * sz + j) u hu
 rw [Nat.add_assoc]; exact this
section
variable {P:Program} {C:Ctx} {n:FD} {Q:Exit → Act → World → Prop} {Φ:List Fact} {H:List Fact} {S S' : List (Nat × Value)} {ops:Array Oper} {rest:List Oper} {o:Oper} {d:Nat}
theorem cut_at {b o sz i c:Nat} (hc:i < c):(if c = i then (some ⟨b,o,none⟩ : Option Addr) else (some ⟨b,o,none⟩ : Option Addr).map (·.add (i * sz))) = some ⟨b,o + i * sz,none⟩:=by
 rw [if_neg (by omega)]; simp [Q75]
end
theorem wc_row {α:Type} {P:Program} {C:Ctx} {n:FD} {Q:Exit → Act → World → Prop} {Φ:List Fact} {H H' : List Fact} {S:List (Nat × Value)} {c:Code} {g e sz m:Nat} {cs:List Value} (R:Rep α) (l:List α) (k:Nat) (hk:H[k]? = some (.blk g cs e)) (hch : ∀ F w,(∀ ψ ∈ Φ,ψ.p F w) → Q28 sz (R.p F w) cs l) (hm:m = l.length) (hle:m ≤ 9223372036854775807)
 (hH:H.set k (.own e sz R (.slice (some ⟨g,0,none⟩) m m) l) = H') (next:WC P C n Q Φ H' S c):WC P C n Q Φ H S c:=fun a w hf hw=>next a w hf (hw.row k hk (fun F=>hch F w) hm hle hH)
end Go.Proofs.YtbgodclhmgmcgaaGreatDoor
