import Derived.Test.YtbgodclhmgmcgaaGreatDoorAuto
namespace Go.Proofs.YtbgodclhmgmcgaaGreatDoor
open Go Go.RowKit
theorem sli_cut {α:Type} {sz c i h:Nat} {R:Rep α} {p p' : Option Addr} {l:List α} {F:Q2t} {w:World} (hs:(Fact.sli sz R p c l).p F w) (hi:i ≤ h) (hl:h ≤ l.length) (hp:i < h → ∀ b o,p = some ⟨b,o,none⟩ → p' = some ⟨b,o + i * sz,none⟩):(Fact.sli sz R p' (c - i) ((l.take h).drop i)).p F w:=by
 obtain ⟨p0,n0,c0,xs,e1,e2,h1,h2,h3,h4⟩:=sli_to h hs
 cases e1
 refine ⟨p',_,c - i,xs.drop (i * sz),rfl,rfl,by simp only [List.length_drop,List.length_take] at h1 ⊢; omega,by omega,h3.drop i,fun h0=>?_⟩
 simp only [List.length_drop,List.length_take] at h0
 obtain ⟨b,o,e3,h5,h6⟩:=h4 (by simp only [List.length_take]; omega)
 refine ⟨b,o + i * sz,hp (by omega) b o e3,h5,fun j u hu=>?_⟩
 rw [List.getElem?_drop] at hu
 have:=h6 (i * sz + j) u hu
 rw [Nat.add_assoc]; exact this
section
variable {P:Program} {C:Ctx} {n:FD} {Q:Exit → Act → World → Prop} {Φ:List Fact} {H:List Fact} {S S' : List (Nat × Value)} {ops:Array Oper} {rest:List Oper} {o:Oper} {d:Nat}
theorem cut_at {b o sz i c:Nat} (hc:i < c):(if c = i then (some ⟨b,o,none⟩ : Option Addr) else (some ⟨b,o,none⟩ : Option Addr).map (·.add (i * sz))) = some ⟨b,o + i * sz,none⟩:=by
 rw [if_neg (by omega)]; simp [Q71]
theorem Qcj {α:Type} {t e sz c h:Nat} {x y:Operand} {R:Rep α} {p:Option Addr} {l:List α} {z:Int} (k:Nat) (hg:Q1O ops S o = some true) (hd:o.dst = some d) (hn:Nat.blt d n = true) (hS:Q37 d S = S') (ho:o.op = .slice t x none (some y) none)
  (hx:evS S x = some (.slice p l.length c)) (hk : Φ[k]? = some (.sli sz R p c l)) (hy:evS S y = some (.int .i64 z)) (hz:z = (h:Int)) (ht:Q3f P t = some e) (hs:Q1Q P e = some sz) (hh:h ≤ l.length)
  (next : ∀ p',WL P C n Q (.sli sz R p' c (l.take h) :: Φ) H ((d,.slice p' (l.take h).length c) :: S') ops rest):WL P C n Q Φ H S ops (o :: rest):=by
 subst hz
 refine Q8a hg hd hn hS fun a w hf hw=>?_
 obtain ⟨F,N,hi⟩:=hw
 have h1:=hi.facts _ (Q12 hk)
 have hcap:=sli_cap h1
 have h2:=sli_cut (i:=0) (h:=h) (p':=if c = 0 then p else p.map (·.add (0 * sz))) h1 (Nat.zero_le _) hh (fun hlt b o e=>by subst e; exact cut_at (by omega))
 simp only [List.drop_zero,Nat.sub_zero] at h2
 refine ⟨.slice (if c = 0 then p else p.map (·.add (0 * sz))) (l.take h).length c,w,?_,_,H,Q16.fact (φ:=.sli sz R (if c = 0 then p else p.map (·.add (0 * sz))) c (l.take h)) ⟨F,N,hi⟩ (fun F' hF'=>?_),next _⟩
 ·have e1:(l.take h).length = h:=by simp only [List.length_take]; omega
  rw [e1]
  simp [execOp,ho,hf.eval hx,hf.eval hy,Instr.sliceAt,Instr.slice,run_underlying (Q3T ht),Instr.sliceBounds,Instr.sliceBound,asIntOf,Nat.le_trans hh hcap.1,Q4K hs]
 ·have h3:=sli_cut (i:=0) (h:=h) (p':=if c = 0 then p else p.map (·.add (0 * sz))) (hF' _ (Q12 hk)) (Nat.zero_le _) hh (fun hlt b o e=>by subst e; exact cut_at (by omega))
  simp only [List.drop_zero,Nat.sub_zero] at h3
  exact h3
theorem Q8b {α:Type} {t e sz c i:Nat} {x y:Operand} {R:Rep α} {p:Option Addr} {l:List α} {z:Int} (k:Nat) (hg:Q1O ops S o = some true) (hd:o.dst = some d) (hn:Nat.blt d n = true) (hS:Q37 d S = S') (ho:o.op = .slice t x (some y) none none)
  (hx:evS S x = some (.slice p l.length c)) (hk : Φ[k]? = some (.sli sz R p c l)) (hy:evS S y = some (.int .i64 z)) (hz:z = (i:Int)) (ht:Q3f P t = some e) (hs:Q1Q P e = some sz) (hh:i ≤ l.length)
  (next : ∀ p',WL P C n Q (.sli sz R p' (c - i) (l.drop i) :: Φ) H ((d,.slice p' (l.drop i).length (c - i)) :: S') ops rest):WL P C n Q Φ H S ops (o :: rest):=by
 subst hz
 refine Q8a hg hd hn hS fun a w hf hw=>?_
 obtain ⟨F,N,hi⟩:=hw
 have h1:=hi.facts _ (Q12 hk)
 have hcap:=sli_cap h1
 refine ⟨.slice (if c = i then p else p.map (·.add (i * sz))) (l.drop i).length (c - i),w,?_,_,H,Q16.fact (φ:=.sli sz R (if c = i then p else p.map (·.add (i * sz))) (c - i) (l.drop i)) ⟨F,N,hi⟩ (fun F' hF'=>?_),next _⟩
 ·rw [List.length_drop]
  simp [execOp,ho,hf.eval hx,hf.eval hy,Instr.sliceAt,Instr.slice,run_underlying (Q3T ht),Instr.sliceBounds,Instr.sliceBound,asIntOf,hcap.1,hh,Q4K hs]
 ·have h3:=sli_cut (i:=i) (h:=l.length) (p':=if c = i then p else p.map (·.add (i * sz))) (hF' _ (Q12 hk)) hh (Nat.le_refl _) (fun hlt b o e=>by subst e; exact cut_at (by omega))
  rw [List.take_length] at h3
  exact h3
end
theorem wc_row {α:Type} {P:Program} {C:Ctx} {n:FD} {Q:Exit → Act → World → Prop} {Φ:List Fact} {H H' : List Fact} {S:List (Nat × Value)} {c:Code} {g e sz m:Nat} {cs:List Value} (R:Rep α) (l:List α) (k:Nat) (hk:H[k]? = some (.blk g cs e)) (hch : ∀ F w,(∀ ψ ∈ Φ,ψ.p F w) → Q1N sz (R.p F w) cs l) (hm:m = l.length) (hle:m ≤ 9223372036854775807)
 (hH:H.set k (.own e sz R (.slice (some ⟨g,0,none⟩) m m) l) = H') (next:WC P C n Q Φ H' S c):WC P C n Q Φ H S c:=fun a w hf hw=>next a w hf (hw.row k hk (fun F=>hch F w) hm hle hH)
end Go.Proofs.YtbgodclhmgmcgaaGreatDoor
