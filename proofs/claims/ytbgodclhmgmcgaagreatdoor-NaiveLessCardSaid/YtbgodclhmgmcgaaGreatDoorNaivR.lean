import Derived.Test.YtbgodclhmgmcgaaGreatDoorNaivP
import Derived.Test.YtbgodclhmgmcgaaGreatDoorExTP
import Derived.Test.YtbgodclhmgmcgaaGreatDoorExprN
namespace Go.Proofs.YtbgodclhmgmcgaaGreatDoor
open Go Go.RowKit
def Q7P {α:Type} (p : α → Bool):List α → Nat → Int
 | [],_=>-1
 | x :: l,i=>if p x then ((i:Nat):Int) else Q7P p l (i + 1)
theorem Q9Y {α:Type} {p : α → Bool} : ∀ (l:List α) (i:Nat),decide (Q7P p l i ≥ 0) = l.any p
 | [],_=>by simp [Q7P]
 | x :: l,i=>by
   unfold Q7P
   cases h:p x with
   | true=>simp [h]
   | false=>simp [h]; exact (Q9Y l (i + 1))
theorem Q85 {α:Type} {l:List α} {f:Nat → Option (Nat ⊕ (Unit ⊕ Int))} {p : α → Bool} (step : ∀ i (h:i < l.length),f i = if p l[i] = true then some (.inr (.inr ((i:Nat):Int))) else some (.inl (i + 1))) (stop:f l.length = some (.inr (.inl ()))) :
   ∀ (m i fuel:Nat),i + m = l.length → m < fuel → Q2I (Q1h f fuel i) (fun _=>some (-1)) = some (Q7P p (l.drop i) i):=by
 intro m
 induction m with
 | zero =>
   intro i fuel hi hf
   obtain ⟨fuel,rfl⟩ : ∃ q,fuel = q + 1:=⟨fuel - 1,by omega⟩
   obtain rfl:i = l.length:=by omega
   rw [Q2u stop,Q1W,List.drop_length]; rfl
 | succ m ih =>
   intro i fuel hi hf
   obtain ⟨fuel,rfl⟩ : ∃ q,fuel = q + 1:=⟨fuel - 1,by omega⟩
   have h:i < l.length:=by omega
   rw [List.drop_eq_getElem_cons h]
   unfold Q7P
   by_cases hp:p l[i] = true
   · rw [if_pos hp,Q2u (by rw [step i h,if_pos hp]),Q4B]
   ·rw [if_neg hp,Q5C (by rw [step i h,if_neg hp])]
    exact ih (i + 1) fuel (by omega) (by omega)
noncomputable def rightB (v:V):Bool:=@decide (rightP v) (Classical.propDecidable _)
noncomputable def nameB (s:ByteArray):Bool:=@decide (Qbv s.data.toList) (Classical.propDecidable _)
theorem says_dec {m:Option Bool} {p:Prop} (h:Says m p):m = some (@decide p (Classical.propDecidable _)):=by
 obtain ⟨b,h1,h2⟩:=h
 rw [h1]
 congr 1
 rw [Bool.eq_iff_iff,h2,@decide_eq_true_iff _ (Classical.propDecidable _)]
theorem rightB_is (N:Nat) (v:V):Q26 N v.k v.n v.s = some (rightB v):=says_dec (right_is N v)
theorem nameB_is (N:Nat) (s:ByteArray):Q76 N s = some (nameB s):=by
 unfold Q76
 have h:=right_is N (⟨2,0,s⟩ : V)
 have h2:Says (Q26 N 2 0 s) (Qbv s.data.toList):=h.iff (by unfold rightP; simp)
 rw [says_dec h2,Q7]; rfl
def Q8F:V:=⟨0,0,⟨#[]⟩⟩
mutual
noncomputable def exprB (vars:Int):Qm → Bool
 | ⟨k,v,x,op,kids⟩ =>
   if k = 1 then decide (x = 0 ∧ op = 0 ∧ kids.length = 0) && rightB v
   else if k = 2 then decide (v = Q8F ∧ op = 0 ∧ kids.length = 0 ∧ 0 ≤ x ∧ x < vars)
   else if k = 3 then decide (v = Q8F ∧ x = 0 ∧ 1 ≤ op ∧ op ≤ 11 ∧ kids.length = (if op = 4 ∨ op = 11 then 1 else 2)) && Qbp vars kids
   else false
noncomputable def Qbp (vars:Int):List Qm → Bool
 | []=>true
 | x :: l=>exprB vars x && Qbp vars l
end
theorem exprsB_any (vars : Int) : ∀ l : List Qm, Qbp vars l = !(l.any fun x => !exprB vars x)
 | []=>by simp [Qbp]
 | x :: l=>by rw [Qbp,exprsB_any vars l,List.any_cons]; cases exprB vars x <;> simp
theorem plain_is (N:Nat) (k a b:Int) (s:ByteArray) (x op:Int) (kids:List Qm) (p q r:Bool) :
  Q54 N k a b s x op kids p q r = some ((p || decide ((⟨a,b,s⟩ : V) = Q8F)) && ((q || decide (x = 0)) && (r || (decide (op = 0) && decide (kids.length = 0))))):=by
 unfold Q54 Q8U Q8F
 have e1:(x == 0) = decide (x = 0):=by rw [Bool.eq_iff_iff]; simp
 have e2:(op == 0) = decide (op = 0):=by rw [Bool.eq_iff_iff]; simp
 have e3:(kids.length == 0) = decide (kids.length = 0):=by rw [Bool.eq_iff_iff]; simp
 rw [e1,e2,e3]
 cases p <;> cases q <;> cases r <;> cases decide ((⟨a,b,s⟩ : V) = ⟨0,0,⟨#[]⟩⟩) <;> cases decide (x = 0) <;> cases decide (op = 0) <;> cases decide (kids.length = 0) <;> rfl
theorem expr_is {types:List Ql} {rules:List Qi} {vars facts:Int} : ∀ (m N:Nat) (e:Qm),nodes e ≤ m → m ≤ 1000000 → 9223372036854775808 + m ≤ N →
    Q38 N types rules vars facts e.kind e.value.k e.value.n e.value.s e.var e.op e.kids = some (exprB vars e):=by
  intro m
  induction m with
  | zero=>intro N e h; rw [Q9d] at h; omega
  | succ m ih =>
    intro N e h hm hN
    obtain ⟨N,rfl⟩ : ∃ q,N = q + 1:=⟨N - 1,by omega⟩
    obtain ⟨k,v,x,op,kids⟩:=e
    have hk:Q4A kids ≤ m:=by rw [Q9d] at h; simp only at h; omega
    show Q4U N (Q38 N) types rules vars facts k v.k v.n v.s x op kids = _
    unfold Q4U
    rw [exprB]
    by_cases h1:k = 1
    · rw [if_pos (by simpa using h1),if_pos h1,plain_is,Q7]
      simp only [Bool.true_or,Bool.true_and,Bool.false_or]
      by_cases h2:(decide (x = 0) && (decide (op = 0) && decide (kids.length = 0))) = true
      · rw [if_pos h2,rightB_is,Q7]
        congr 1
        simp at h2
        simp [h2]
      · rw [if_neg h2]
        congr 1
        simp at h2
        symm
        rw [Bool.and_eq_false_iff]
        left
        simpa using h2
    · rw [if_neg (by simpa using h1),if_neg h1]
      by_cases h2:k = 2
      · rw [if_pos (by simpa using h2),if_pos h2,plain_is,Q7]
        simp only [Bool.true_or,Bool.true_and,Bool.false_or]
        have ev:(⟨v.k,v.n,v.s⟩ : V) = v:=rfl
        rw [ev]
        by_cases h3:(decide (v = Q8F) && (decide (op = 0) && decide (kids.length = 0))) = true
        · rw [if_pos h3]
          simp at h3
          by_cases h4 : 0 ≤ x
          · rw [if_pos (by simpa using h4)]
            congr 1
            simp [h3,h4]
          · rw [if_neg (by simpa using h4)]
            congr 1
            simp [h4]
        · rw [if_neg h3]
          congr 1
          simp at h3
          simp
          intro a b c; exact absurd c (h3 a b)
      · rw [if_neg (by simpa using h2),if_neg h2]
        by_cases h3:k = 3
        · rw [if_pos (by simpa using h3),if_pos h3]
          have hw:Q5L N op = some (if op = 4 ∨ op = 11 then 1 else 2):=by
            unfold Q5L
            by_cases a:op = 4
            · rw [if_pos (by simpa using a),Q7,if_pos rfl,if_pos (.inl a)]
            · rw [if_neg (by simpa using a),Q7]
              by_cases b:op = 11
              · rw [if_pos (by simpa using b),if_pos (.inr b)]
              · rw [if_neg (by simpa using b),if_neg (by omega)]
          have hex:Q40 N (Q38 N) types rules vars facts kids = some (Qbp vars kids):=by
            unfold Q40 Q39 Q3N
            have hl:=Qa7 kids
            rw [Q85 (l:=kids) (p:=fun y=>!exprB vars y) (fun i hi=>by
              unfold Q2z Q4C
              have hn:=Qa8 (List.getElem_mem hi)
              rw [if_pos (by simpa using hi),List.getElem?_eq_getElem hi,Q7,ih N kids[i] (by omega) (by omega) (by omega),Q7,Q7]
              by_cases hb:(!exprB vars kids[i]) = true
              · rw [if_pos hb,if_pos hb]
              · rw [if_neg hb,if_neg hb,QY (by omega)]) (by
              unfold Q2z
              rw [if_neg (by simp)]) kids.length 0 N (by omega) (by omega),Q7,Q7,List.drop_zero,Q9Y,exprsB_any]
          rw [hw,Q7]
          unfold Q7s
          rw [plain_is,Q7]
          simp only [Bool.true_or,Bool.false_or,Bool.and_true]
          have ev:(⟨v.k,v.n,v.s⟩ : V) = v:=rfl
          rw [ev]
          by_cases c1:v = Q8F ∧ x = 0
          · rw [if_pos (by simp [c1])]
            by_cases c2 : 1 ≤ op
            · rw [if_pos (by simpa using c2)]
              by_cases c3:op ≤ 11
              · rw [if_pos (by simpa using c3)]
                by_cases c4:kids.length = (if op = 4 ∨ op = 11 then 1 else 2)
                · rw [if_pos (by simpa using c4),hex,Q7,Q7]
                  congr 1
                  rw [decide_eq_true ⟨c1.1,c1.2,c2,c3,c4⟩,Bool.true_and]
                · rw [if_neg (by simpa using c4),Q7,decide_eq_false (fun h=>c4 h.2.2.2.2),Bool.false_and]
              · rw [if_neg (by simpa using c3),Q7,decide_eq_false (fun h=>c3 h.2.2.2.1),Bool.false_and]
            · rw [if_neg (by simpa using c2),Q7,decide_eq_false (fun h=>c2 h.2.2.1),Bool.false_and]
          · rw [if_neg (by simpa using c1),Q7,decide_eq_false (fun h=>c1 ⟨h.1,h.2.1⟩),Bool.false_and]
        · rw [if_neg (by simpa using h3),if_neg h3]
end Go.Proofs.YtbgodclhmgmcgaaGreatDoor
