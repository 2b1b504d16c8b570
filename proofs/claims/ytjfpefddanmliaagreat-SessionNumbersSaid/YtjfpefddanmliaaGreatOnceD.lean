import Derived.Test.YtjfpefddanmliaaGreatPart
namespace Go.Proofs.YtjfpefddanmliaaGreat
open Go Go.RowKit
theorem ask_some {L:List SessD} {id seq:Int} (h : 0 ≤ Q1o L id) : ∃ s,L[(Q1o L id).toNat]? = some s ∧ s.id = id ∧ askOf L id seq = (if seq < 1 ∨ seq < s.seq then (rplNil,false,304) else if seq = s.seq then (s.r,true,0) else (rplNil,false,0)) ∧
    ∀ x,doneOf L id seq x = (if seq < 1 ∨ seq ≤ s.seq then (L,304) else (L.set (Q1o L id).toNat ⟨s.id,seq,x⟩,0)):=by
  obtain ⟨s,h1,h2⟩:=Q8n h
  exact ⟨s,h1,h2,by unfold askOf; rw [if_neg (by omega),h1],fun x=>by unfold doneOf; rw [if_neg (by omega),h1]⟩
end Go.Proofs.YtjfpefddanmliaaGreat
