import Derived.Test.YtgangmegcejllaaGreatDoorAuto
namespace Go.Proofs.YtgangmegcejllaaGreatDoor
open Go Go.RowKit
theorem sli_cut {α:Type} {sz c i h:Nat} {R:Rep α} {p p' : Option Addr} {l:List α} {F:Q2a} {w:World} (hs:(Fact.sli sz R p c l).p F w) (hi:i ≤ h) (hl:h ≤ l.length) (hp:i < h → ∀ b o,p = some ⟨b,o,none⟩ → p' = some ⟨b,o + i * sz,none⟩):(Fact.sli sz R p' (c - i) ((l.take h).drop i)).p F w:=by
 obtain ⟨p0,n0,c0,xs,e1,e2,h1,h2,h3,h4⟩:=sli_to h hs
 cases e1
 refine ⟨p',_,c - i,xs.drop (i * sz),rfl,rfl,by simp only [List.length_drop,List.length_take] at h1 ⊢; omega,by omega,h3.drop i,fun h0=>?_⟩
 simp only [List.length_drop,List.length_take] at h0
 obtain ⟨b,o,e3,h5,h6⟩:=h4 (by simp only [List.length_take]; omega)
 refine ⟨b,o + i * sz,hp (by omega) b o e3,h5,fun j u hu=>?_⟩
 rw [List.getElem?_drop] at hu
 have:=h6 (i * sz + j) u hu
 rw [Nat.add_assoc]; exact this
section
variable {P:Program} {C:Ctx} {n:Nat} {Q:Exit → Act → World → Prop} {Φ:List Fact} {H:List Fact} {S S' : List (Nat × Value)} {ops:Array Oper} {rest:List Oper} {o:Oper} {d:Nat}
theorem cut_at {b o sz i c:Nat} (hc:i < c):(if c = i then (some ⟨b,o,none⟩ : Option Addr) else (some ⟨b,o,none⟩ : Option Addr).map (·.add (i * sz))) = some ⟨b,o + i * sz,none⟩:=by
 rw [if_neg (by omega)]; simp [Q5u]
theorem wl_sliTo {α:Type} {t e sz c h:Nat} {x y:Operand} {R:Rep α} {p:Option Addr} {l:List α} {z:Int} (k:Nat) (hg:Q1L ops S o = some true) (hd:o.dst = some d) (hn:Nat.blt d n = true) (hS:Q2r d S = S') (ho:o.op = .slice t x none (some y) none)
  (hx:evS S x = some (.slice p l.length c)) (hk : Φ[k]? = some (.sli sz R p c l)) (hy:evS S y = some (.int .i64 z)) (hz:z = (h:Int)) (ht:Q2E P t = some e) (hs:Q1G P e = some sz) (hh:h ≤ l.length)
  (next : ∀ p',WL P C n Q (.sli sz R p' c (l.take h) :: Φ) H ((d,.slice p' (l.take h).length c) :: S') ops rest):WL P C n Q Φ H S ops (o :: rest):=by
 subst hz
 refine Q72 hg hd hn hS fun a w hf hw=>?_
 obtain ⟨F,N,hi⟩:=hw
 have h1:=hi.facts _ (Qo hk)
 have hcap:=sli_cap h1
 have h2:=sli_cut (i:=0) (h:=h) (p':=if c = 0 then p else p.map (·.add (0 * sz))) h1 (Nat.zero_le _) hh (fun hlt b o e=>by subst e; exact cut_at (by omega))
 simp only [List.drop_zero,Nat.sub_zero] at h2
 refine ⟨.slice (if c = 0 then p else p.map (·.add (0 * sz))) (l.take h).length c,w,?_,_,H,QU.fact (φ:=.sli sz R (if c = 0 then p else p.map (·.add (0 * sz))) c (l.take h)) ⟨F,N,hi⟩ (fun F' hF'=>?_),next _⟩
 ·have e1:(l.take h).length = h:=by simp only [List.length_take]; omega
  rw [e1]
  simp [execOp,ho,hf.eval hx,hf.eval hy,Instr.sliceAt,Instr.slice,run_underlying (Q29 ht),Instr.sliceBounds,Instr.sliceBound,asIntOf,Nat.le_trans hh hcap.1,Q2L hs]
 ·have h3:=sli_cut (i:=0) (h:=h) (p':=if c = 0 then p else p.map (·.add (0 * sz))) (hF' _ (Qo hk)) (Nat.zero_le _) hh (fun hlt b o e=>by subst e; exact cut_at (by omega))
  simp only [List.drop_zero,Nat.sub_zero] at h3
  exact h3
theorem wl_sliFrom {α:Type} {t e sz c i:Nat} {x y:Operand} {R:Rep α} {p:Option Addr} {l:List α} {z:Int} (k:Nat) (hg:Q1L ops S o = some true) (hd:o.dst = some d) (hn:Nat.blt d n = true) (hS:Q2r d S = S') (ho:o.op = .slice t x (some y) none none)
  (hx:evS S x = some (.slice p l.length c)) (hk : Φ[k]? = some (.sli sz R p c l)) (hy:evS S y = some (.int .i64 z)) (hz:z = (i:Int)) (ht:Q2E P t = some e) (hs:Q1G P e = some sz) (hh:i ≤ l.length)
  (next : ∀ p',WL P C n Q (.sli sz R p' (c - i) (l.drop i) :: Φ) H ((d,.slice p' (l.drop i).length (c - i)) :: S') ops rest):WL P C n Q Φ H S ops (o :: rest):=by
 subst hz
 refine Q72 hg hd hn hS fun a w hf hw=>?_
 obtain ⟨F,N,hi⟩:=hw
 have h1:=hi.facts _ (Qo hk)
 have hcap:=sli_cap h1
 refine ⟨.slice (if c = i then p else p.map (·.add (i * sz))) (l.drop i).length (c - i),w,?_,_,H,QU.fact (φ:=.sli sz R (if c = i then p else p.map (·.add (i * sz))) (c - i) (l.drop i)) ⟨F,N,hi⟩ (fun F' hF'=>?_),next _⟩
 ·rw [List.length_drop]
  simp [execOp,ho,hf.eval hx,hf.eval hy,Instr.sliceAt,Instr.slice,run_underlying (Q29 ht),Instr.sliceBounds,Instr.sliceBound,asIntOf,hcap.1,hh,Q2L hs]
 ·have h3:=sli_cut (i:=i) (h:=l.length) (p':=if c = i then p else p.map (·.add (i * sz))) (hF' _ (Qo hk)) hh (Nat.le_refl _) (fun hlt b o e=>by subst e; exact cut_at (by omega))
  rw [List.take_length] at h3
  exact h3
end
section
variable {P:Program} {C:Ctx} {n:Nat} {Q:Exit → Act → World → Prop} {Φ:List Fact} {H:List Fact} {S S' : List (Nat × Value)} {ops:Array Oper} {rest:List Oper} {o:Oper} {d:Nat} {lights L:List Nat} {D:List (Nat × Fact)}
theorem Qa9 {α:Type} {t e sz m q:Nat} {x i:Operand} {R:Rep α} {p:Option Addr} {cp:Nat} {l:List α} {ik:IntKind} {z:Int} (k j:Nat) (hg:Q1L ops S o = some true) (hd:o.dst = some d) (hn:Nat.blt d n = true) (hS:Q2r d S = S') (ho:o.op = .indexAddr t x i)
  (hφ:H[k]? = some (.own e sz R (.slice p m cp) l)) (hx:evS S x = some (.slice p q cp)) (hi:evS S i = some (.int ik z)) (hz:z = (j:Int)) (hq:j < q) (hj:j < l.length) (he:Q2E P t = some e) (hs:Q1G P e = some sz)
  (next : ∀ g,p = some ⟨g,0,none⟩ → WL P C n Q Φ H ((d,.pointer (some ⟨g,j * sz,none⟩)) :: S') ops rest):WL P C n Q Φ H S ops (o :: rest):=by
 refine Q72 hg hd hn hS fun a w hf hw=>?_
 have hw':=hw
 obtain ⟨F,N,hi'⟩:=hw
 obtain ⟨hN,hown⟩:=hi'.owns k _ hφ
 obtain ⟨g,hp,hm,_⟩:=hown.head (by omega)
 subst hp; subst hz
 refine ⟨.pointer (some ⟨g,j * sz,none⟩),w,?_,Φ,H,hw',next g rfl⟩
 have h1:(0:Int) ≤ j ∧ (j:Int) < q:=by omega
 simp [execOp,ho,hf.eval hx,hf.eval hi,Instr.indexAt,asIntOf,run_underlying (Q29 he),h1,hq,Q2L hs]
 unfold Addr.add; split <;> simp_all
end
theorem view_to {α:Type} {sz c:Nat} {R:Rep α} {p:Option Addr} {l:List α} {F:Q2a} {w:World} (h:(Fact.sli sz R p c l).p F w) (k:Nat):(Fact.sli sz R p c (l.take k)).p F w:=sli_to k h
theorem take_slice {α:Type} {l:List α} {p:Option Addr} {k c:Nat} (h:k ≤ l.length):Value.slice p k c = .slice p (l.take k).length c:=by rw [List.length_take,Nat.min_eq_left h]
theorem Q8k {α:Type} {P:Program} {C:Ctx} {n:Nat} {Q:Exit → Act → World → Prop} {Φ:List Fact} {H H' : List Fact} {S:List (Nat × Value)} {c:Code} {g e sz m:Nat} {cs:List Value} (R:Rep α) (l:List α) (k:Nat) (hk:H[k]? = some (.blk g cs e)) (hch : ∀ F w,(∀ ψ ∈ Φ,ψ.p F w) → Q1F sz (R.p F w) cs l) (hm:m = l.length) (hle:m ≤ 9223372036854775807)
 (hH:H.set k (.own e sz R (.slice (some ⟨g,0,none⟩) m m) l) = H') (next:WC P C n Q Φ H' S c):WC P C n Q Φ H S c:=fun a w hf hw=>next a w hf (hw.row k hk (fun F=>hch F w) hm hle hH)
end Go.Proofs.YtgangmegcejllaaGreatDoor
