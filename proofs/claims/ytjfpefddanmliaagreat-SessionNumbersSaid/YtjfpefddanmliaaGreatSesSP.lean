import Derived.Test.YtjfpefddanmliaaGreatXM
import Derived.Test.YtjfpefddanmliaaGreatOnceD
import Derived.Test.YtjfpefddanmliaaGreatSesQ
import Derived.Test.YtjfpefddanmliaaGreatPlain
namespace Go.Proofs.YtjfpefddanmliaaGreat
open Go.RowKit
theorem Q8G {N:Nat} {l m:List V} (hN : 9223372036854775808 ≤ N) (hl:l.length ≤ 9223372036854775807):Q5n (Q1j N l m) (l = m):=by
  unfold Q1j
  refine Q5n.same hN hl (fun hlm i x y hi hx hy=>⟨decide (x = y),by simp,?_⟩) (fun i hi=>?_)
  · unfold Q1B
    rw [if_pos (by simpa using hi),hx,Q9,hy,Q9]
    by_cases h:x = y
    · rw [if_neg (by simp [h]),QC (by omega),if_pos (by simp [h])]
    · rw [if_pos (by simp [h]),if_neg (by simp [h])]
  · unfold Q1B
    rw [if_neg (by simp; omega)]
theorem fact_ext {f g:FactD}:f = g ↔ f.id = g.id ∧ f.ty = g.ty ∧ f.args = g.args:=by
  cases f; cases g; simp
theorem sameFact_is {N:Nat} {f g:FactD} (hN : 9223372036854775808 ≤ N) (hl:f.args.length ≤ 9223372036854775807):Q5n (Q2V N f.id f.ty f.args g.id g.ty g.args) (f = g):=by
  unfold Q2V
  refine Q5n.iff (Q5n.and (Q5n.and (Q5n.id (Q8G hN hl)) (by simp)) (by simp)) fact_ext.symm
theorem sameFacts_is {N:Nat} {l m:List FactD} (hN : 9223372036854775808 ≤ N) (hl:l.length ≤ 9223372036854775807) (ha : ∀ f ∈ l,f.args.length ≤ 9223372036854775807):Q5n (Q23 N l m) (l = m):=by
  unfold Q23
  refine Q5n.same hN hl (fun hlm i x y hi hx hy=>?_) (fun i hi=>?_)
  · obtain ⟨b,h1,h2⟩:=sameFact_is (N:=N) (f:=x) (g:=y) hN (ha x (List.mem_of_getElem? hx))
    refine ⟨b,h2,?_⟩
    unfold Q1Y
    rw [if_pos (by simpa using hi),hx,Q9,hy,Q9,h1,Q9]
    cases b
    · rfl
    · rw [if_neg (by simp),QC (by omega),if_pos rfl]
  · unfold Q1Y
    rw [if_neg (by simp; omega)]
theorem reply_ext {f g:ReplyD}:f = g ↔ f.err = g.err ∧ f.num = g.num ∧ f.facts = g.facts ∧ f.said = g.said:=by
  cases f; cases g; simp
theorem fit_long {x:ReplyD} (h:x.fit):x.facts.length ≤ 9223372036854775807 ∧ x.said.length ≤ 9223372036854775807 ∧ ∀ f ∈ x.facts,f.args.length ≤ 9223372036854775807 :=
  ⟨Nat.le_trans h.1 (by decide),Nat.le_trans h.2.1 (by decide),fun f hf=>Nat.le_trans (h.2.2 f hf) (by decide)⟩
theorem sameReply_is {N:Nat} {f g:ReplyD} (hN : 9223372036854775808 ≤ N) (hf:f.fit):Q5n (Q21 N f.err f.num f.facts f.said g.err g.num g.facts g.said) (f = g):=by
  obtain ⟨h1,h2,h3⟩:=fit_long hf
  unfold Q21 Q44
  refine Q5n.id (Q5n.iff (Q5n.and (Q5n.and (Q5n.bind (p:=f.facts = g.facts) (q:=f.facts = g.facts ∧ f.said = g.said) (sameFacts_is hN h1 h3) (fun b hb=>Q5n.and (Q5n.id (Q8G hN h2)) hb)) (by simp)) (by simp)) reply_ext.symm)
theorem sess_ext {f g:SessD}:f = g ↔ f.id = g.id ∧ f.seq = g.seq ∧ f.r = g.r:=by
  cases f; cases g; simp
theorem sameSession_is {N:Nat} {f g:SessD} (hN : 9223372036854775808 ≤ N) (hf:f.r.fit):Q5n (Q3G N f.id f.seq f.r.err f.r.num f.r.facts f.r.said g.id g.seq g.r.err g.r.num g.r.facts g.r.said) (f = g):=by
  unfold Q3G
  exact Q5n.iff (Q5n.and (Q5n.and (Q5n.id (sameReply_is hN hf)) (by simp)) (by simp)) sess_ext.symm
theorem sameSessions_is {N:Nat} {l m:List SessD} (hN : 9223372036854775808 ≤ N) (hl:l.length ≤ 9223372036854775807) (ha : ∀ f ∈ l,f.r.fit):Q5n (Q3x N l m) (l = m):=by
  unfold Q3x
  refine Q5n.same hN hl (fun hlm i x y hi hx hy=>?_) (fun i hi=>?_)
  · obtain ⟨b,h1,h2⟩:=sameSession_is (N:=N) (f:=x) (g:=y) hN (ha x (List.mem_of_getElem? hx))
    refine ⟨b,h2,?_⟩
    unfold Q2L
    rw [if_pos (by simpa using hi),hx,Q9,hy,Q9,h1,Q9]
    cases b
    · rfl
    · rw [if_neg (by simp),QC (by omega),if_pos rfl]
  · unfold Q2L
    rw [if_neg (by simp; omega)]
end Go.Proofs.YtjfpefddanmliaaGreat
