import Derived.Test.YtegkmbkbaenkcaaGreatLent
import Derived.Test.YtegkmbkbaenkcaaGreatPatD
namespace Go.Proofs.YtegkmbkbaenkcaaGreat
open Go.RowKit
section
variable {P : Program} {C : Ctx} {n : Nat} {Q : Exit → Act → World → Prop} {Φ Φ' : List Fact} {H H' : List Fact} {S S' : List (Nat × Value)} {ops : Array Oper} {rest : List Oper} {o : Oper} {d : Nat}
theorem call_any {f : FuncId} {args : List Value} {Φf Hf : List Fact} {R : Value → List Fact → List Fact → Prop} (l m : List Nat) (hg : wantS ops S o = some true)
    (hrun : ∀ a w, Frm n S a → (execOp a.eval o).run P w = .ok (.enter f args.toArray) w)
    (hH : pickH H l = Hf) (spec : Spec P f args Φf Hf R) (hΦ : ∀ F w, (∀ ψ ∈ Φ, ψ.p F w) → ∀ φ ∈ Φf, φ.p F w) (hl : okIdx (l ++ m) H.length = true) (hm : pickH H m = H')
    (next : ∀ v Φr Hr, R v Φr Hr → ∀ a w, Frm n S a → Holds C (Φr ++ Φ) (Hr ++ H') w → wpList P ops Q rest (a.put o.dst v) w) : WL P C n Q Φ H S ops (o :: rest) := by
  subst hH; subst hm
  intro a w hf ⟨F, N, hi⟩
  have hl1 : okIdx l H.length = true := by
    clear spec next
    have : ∀ (l : List Nat), okIdx (l ++ m) H.length = true → okIdx l H.length = true := by
      intro l
      induction l with
      | nil => intro _; rfl
      | cons i l ih =>
        intro h
        simp only [List.cons_append, okIdx, Bool.and_eq_true, Bool.not_eq_true', List.any_append, Bool.or_eq_false_iff] at h ⊢
        exact ⟨⟨h.1.1, h.1.2.1⟩, ih h.2⟩
    exact this l hl
  have hp := hi.pick l hl1
  have hcall := spec F _ w hi.flt (fun φ hφ => hΦ F w hi.facts φ hφ) hp.owns (fun i k hik hk => ⟨(hp.nlt i k hik hk).1, (hp.nlt i k hik hk).2.2⟩) hp.apart
  refine wpList_step fun K hK => ?_
  rw [wantS_spec hf hg, if_pos rfl]
  unfold Oper.wp
  rw [hrun a w hf, Oper.upon_enter]
  refine hcall.mono ?_
  rintro e w' ⟨v, Φr, Hr, rfl, hR, hh⟩
  exact hK _ _ (next v Φr Hr hR a w' hf (hi.after hl hh))
end
end Go.Proofs.YtegkmbkbaenkcaaGreat
namespace Go.Proofs.YtegkmbkbaenkcaaGreat
open Go.RowKit
structure ReplyD where
  err : Int
  num : Int
  facts : List FactD
  said : List V
structure SessD where
  id : Int
  seq : Int
  r : ReplyD
def ReplyD.ok (x : ReplyD) : Prop := inI x.err ∧ inI x.num
def SessD.ok (x : SessD) : Prop := inI x.id ∧ inI x.seq ∧ x.r.ok
end Go.Proofs.YtegkmbkbaenkcaaGreat
