import Derived.Test.YtbgodclhmgmcgaaGreatDoorAuto
import Derived.Test.YtbgodclhmgmcgaaGreatDoorMapE
namespace Go.Proofs.YtbgodclhmgmcgaaGreatDoor
open Go Go.RowKit
theorem sli_cut {α:Type} {sz c i h:Nat} {R:Rep α} {p p' : Option Addr} {l:List α} {F:Q1O} {w:World} (hs:(Fact.sli sz R p c l).p F w)(hi:i≤h)(hl:h≤l.length)(hp:i < h→∀ b o,p=some ⟨b,o,none⟩→p' =some ⟨b,o+i * sz,none⟩):(Fact.sli sz R p' (c - i) ((l.take h).drop i)).p F w:=by
 obtain ⟨p0,n0,c0,xs,e1,e2,h1,h2,h3,h4⟩:=sli_to h hs
 cases e1
 refine ⟨p',_,c - i,xs.drop (i * sz),rfl,rfl,by simp only [List.length_drop,List.length_take] at h1 ⊢;omega,by omega,h3.drop i,fun h0=>?_⟩
 simp only [List.length_drop,List.length_take] at h0
 obtain ⟨b,o,e3,h5,h6⟩:=h4 (by simp only [List.length_take];omega)
 refine ⟨b,o+i * sz,hp (by omega) b o e3,h5,fun j u hu=>?_⟩
 rw [List.getElem?_drop] at hu
 have:=h6 (i * sz+j) u hu
 rw [Nat.add_assoc];exact this
section
variable {P:Program} {C:Ctx} {n:FD} {Q:Exit → Act → World → Prop} {Φ:List Fact} {H:List Fact} {S S' : List (Nat × Value)} {ops:Array Oper} {rest:List Oper} {o:Oper} {d:Nat}
theorem cut_at {b o sz i c:Nat} (hc:i < c):(if c=i then (some ⟨b,o,none⟩ : Option Addr) else (some ⟨b,o,none⟩ : Option Addr).map (·.add (i * sz)))=some ⟨b,o+i * sz,none⟩:=by
 rw [if_neg (by omega)];simp [Q4R]
end
theorem view_to {α:Type} {sz c:Nat} {R:Rep α} {p:Option Addr} {l:List α} {F:Q1O} {w:World} (h:(Fact.sli sz R p c l).p F w)(k:Nat):(Fact.sli sz R p c (l.take k)).p F w:=sli_to k h
theorem wc_row {α:Type} {P:Program} {C:Ctx} {n:FD} {Q:Exit→Act→World→Prop} {Φ:List Fact} {H H' : List Fact} {S:List (Nat×Value)} {c:Code} {g e sz m:Nat} {cs:List Value} (R:Rep α)(l:List α)(k:Nat)(hk:H[k]? =some (.blk g cs e))(hch : ∀ F w,(∀ ψ∈Φ,ψ.p F w)→Q1h sz (R.p F w) cs l)(hm:m=l.length)(hle:m≤9223372036854775807)
 (hH:H.set k (.own e sz R (.slice (some ⟨g,0,none⟩) m m) l)=H') (next:WC P C n Q Φ H' S c):WC P C n Q Φ H S c:=fun a w hf hw=>next a w hf (hw.row k hk (fun F=>hch F w) hm hle hH)
end Go.Proofs.YtbgodclhmgmcgaaGreatDoor
namespace Go.Proofs.YtbgodclhmgmcgaaGreatDoor
open Go Go.RowKit
section
variable {C:Ctx} {Φ H:List Fact} {F:Q1O} {N:Nat → Q1O} {w:World}
theorem MInv.shrink (h:MInv C Φ H F N w)(k:Nat) {φ1:Fact} (hk:k < H.length)(B:Q1O)(hB : ∀ q,B q→N k q)(h1 : φ1.op B F w):MInv C Φ (H.set k φ1) F (fun i=>if i=k then B else N i) w:=by
 have hsub : ∀ i q,(if i=k then B else N i) q→N i q:=fun i q hq=>by
  by_cases e:i=k
  · subst e;rw [if_pos rfl] at hq;exact hB q hq
  · rw [if_neg e] at hq;exact hq
 refine { h with owns:=fun i ψ hi=>?_,nlt:=fun i q hi hq=>h.nlt i q (by simpa using hi) (hsub i q hq),apart:=fun i j q hi hj hne hq hq'=>h.apart i j q (by simpa using hi) (by simpa using hj) hne (hsub i q hq) (hsub j q hq') }
 by_cases e:i=k
 ·subst e
  rw [List.getElem?_set_self hk] at hi
  cases hi
  rw [if_pos rfl];exact h1
 ·rw [List.getElem?_set_ne (Ne.symm e)] at hi
  rw [if_neg e];exact h.owns i ψ hi
theorem QC.split {Λ:Type} (h:QC C Φ H w)(k:Nat) {φ:Fact} {φ1 φ2 : Λ→Fact} (hk:H[k]? =some φ)
  (hs : ∀ N F,φ.op N F w→∃ (r : Λ) (A B:Q1O),(∀ q,A q→N q)∧(∀ q,B q→N q∧¬ A q)∧(φ1 r).op B F w∧(φ2 r).op A F w) : ∃ r,QC C Φ (φ2 r :: H.set k (φ1 r)) w:=by
 obtain ⟨F,N,hi⟩:=h
 have hlt:=(List.getElem?_eq_some_iff.1 hk).1
 obtain ⟨r,A,B,hA,hB,h1,h2⟩:=hs (N k) F (hi.owns k φ hk)
 refine ⟨r,F,_,(hi.shrink k hlt B (fun q hq=>(hB q hq).1) h1).push (φ2 r) A h2 (fun q hq=>hi.nlt k q hlt (hA q hq)) (fun i q hil hq hq'=>?_)⟩
 by_cases e:i=k
 ·subst e
  simp only [if_true] at hq'
  exact (hB q hq').2 hq
 ·simp only [if_neg e] at hq'
  exact hi.apart k i q hlt (by simpa using hil) (Ne.symm e) (hA q hq) hq'
theorem QC.join (h:QC C Φ H w)(k j:Nat) {φ φ1 φ2:Fact} (hne:k≠j)(hk:H[k]? =some φ1)(hj:H[j]? =some φ2)
  (hs : ∀ A B F,φ1.op A F w→φ2.op B F w→(∀ q,A q→¬ B q)→φ.op (fun q=>A q∨B q) F w):QC C Φ ((H.set k φ).eraseIdx j) w:=by
 obtain ⟨F,N,hi⟩:=h
 have hkl:=(List.getElem?_eq_some_iff.1 hk).1
 have hjl:=(List.getElem?_eq_some_iff.1 hj).1
 have hop:=hs (N k) (N j) F (hi.owns k φ1 hk) (hi.owns j φ2 hj) (fun q=>hi.apart k j q hkl hjl hne)
 have hlen:((H.set k φ).eraseIdx j).length=H.length - 1:=by rw [List.length_eraseIdx_of_lt (by simpa using hjl)];simp
 let at' : Nat→Nat:=fun i=>if i < j then i else i+1
 have hat : ∀ i,at' i≠j:=fun i=>by simp only [at'];split <;> omega
 have hlt : ∀ i,i < ((H.set k φ).eraseIdx j).length→at' i < H.length:=fun i hil=>by rw [hlen] at hil;simp only [at'];split <;> omega
 have hinj : ∀ i i',at' i=at' i' →i=i':=fun i i' e=>by simp only [at'] at e;split at e <;> split at e <;> omega
 refine ⟨F,fun i=>if at' i=k then fun q=>N k q∨N j q else N (at' i),hi.flt,hi.fold,hi.fnew,hi.facts,fun i ψ hψ=>?_,fun i q hil hq=>?_,fun i i' q hil hil' hii hq hq'=>?_,hi.mod⟩
 ·have hψ' : (H.set k φ)[at' i]? =some ψ:=by
   rw [List.getElem?_eraseIdx] at hψ
   simp only [at']
   split at hψ <;> rename_i hij
   · rw [if_pos hij];exact hψ
   · rw [if_neg hij];exact hψ
  by_cases e:at' i=k
  ·simp only [if_pos e]
   rw [e,List.getElem?_set_self hkl] at hψ'
   cases hψ';exact hop
  ·simp only [if_neg e]
   rw [List.getElem?_set_ne (Ne.symm e)] at hψ'
   exact hi.owns _ ψ hψ'
 ·by_cases e:at' i=k
  ·simp only [if_pos e] at hq
   rcases hq with hq | hq
   · exact hi.nlt k q hkl hq
   · exact hi.nlt j q hjl hq
  ·simp only [if_neg e] at hq
   exact hi.nlt _ q (hlt i hil) hq
 ·by_cases e:at' i=k
  ·have e' : at' i' ≠k:=fun e2=>hii (hinj _ _ (e.trans e2.symm))
   simp only [if_pos e] at hq
   simp only [if_neg e'] at hq'
   rcases hq with hq | hq
   · exact hi.apart k _ q hkl (hlt i' hil') (Ne.symm e') hq hq'
   · exact hi.apart j _ q hjl (hlt i' hil') (Ne.symm (hat i')) hq hq'
  ·simp only [if_neg e] at hq
   by_cases e' : at' i' =k
   ·simp only [if_pos e'] at hq'
    rcases hq' with hq' | hq'
    · exact hi.apart _ k q (hlt i hil) hkl e hq hq'
    · exact hi.apart _ j q (hlt i hil) hjl (hat i) hq hq'
   ·simp only [if_neg e'] at hq'
    exact hi.apart _ _ q (hlt i hil) (hlt i' hil') (fun q=>hii (hinj _ _ q)) hq hq'
end
end Go.Proofs.YtbgodclhmgmcgaaGreatDoor
