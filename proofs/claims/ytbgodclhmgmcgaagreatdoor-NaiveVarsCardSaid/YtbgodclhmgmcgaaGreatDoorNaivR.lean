import Derived.Test.YtbgodclhmgmcgaaGreatDoorNaivPD
import Derived.Test.YtbgodclhmgmcgaaGreatDoorExTP
import Derived.Test.YtbgodclhmgmcgaaGreatDoorExprN
namespace Go.Proofs.YtbgodclhmgmcgaaGreatDoor
open Go Go.RowKit
def Q5M {α:Type} (p : α → Bool):List α → Nat → Int
 | [],_=>-1
 | x :: l,i=>if p x then ((i:Nat):Int) else Q5M p l (i + 1)
theorem Q8i {α:Type} {p : α → Bool} : ∀ (l:List α) (i:Nat),decide (Q5M p l i ≥ 0) = l.any p
 | [],_=>by simp [Q5M]
 | x :: l,i=>by
   unfold Q5M
   cases h:p x with
   | true=>simp [h]
   | false=>simp [h]; exact (Q8i l (i + 1))
theorem Q6N {α:Type} {l:List α} {f:Nat → Option (Nat ⊕ (Unit ⊕ Int))} {p : α → Bool} (step : ∀ i (h:i < l.length),f i = if p l[i] = true then some (.inr (.inr ((i:Nat):Int))) else some (.inl (i + 1))) (stop:f l.length = some (.inr (.inl ()))) :
   ∀ (m i fuel:Nat),i + m = l.length → m < fuel → Q1O (Q19 f fuel i) (fun _=>some (-1)) = some (Q5M p (l.drop i) i):=by
 intro m
 induction m with
 | zero =>
   intro i fuel hi hf
   obtain ⟨fuel,rfl⟩ : ∃ q,fuel = q + 1:=⟨fuel - 1,by omega⟩
   obtain rfl:i = l.length:=by omega
   rw [Q1a stop,Q18,List.drop_length]; rfl
 | succ m ih =>
   intro i fuel hi hf
   obtain ⟨fuel,rfl⟩ : ∃ q,fuel = q + 1:=⟨fuel - 1,by omega⟩
   have h:i < l.length:=by omega
   rw [List.drop_eq_getElem_cons h]
   unfold Q5M
   by_cases hp:p l[i] = true
   · rw [if_pos hp,Q1a (by rw [step i h,if_pos hp]),Q1t]
   ·rw [if_neg hp,Q2f (by rw [step i h,if_neg hp])]
    exact ih (i + 1) fuel (by omega) (by omega)
noncomputable def Q8v (v:V):Bool:=@decide (rightP v) (Classical.propDecidable _)
noncomputable def Q7s (s:ByteArray):Bool:=@decide (Q9H s.data.toList) (Classical.propDecidable _)
theorem says_dec {m:Option Bool} {p:Prop} (h:Says m p):m = some (@decide p (Classical.propDecidable _)):=by
 obtain ⟨b,h1,h2⟩:=h
 rw [h1]
 congr 1
 rw [Bool.eq_iff_iff,h2,@decide_eq_true_iff _ (Classical.propDecidable _)]
theorem QaJ (N:Nat) (v:V):Q1E N v.k v.n v.s = some (Q8v v):=says_dec (right_is N v)
theorem nameB_is (N:Nat) (s:ByteArray):Q61 N s = some (Q7s s):=by
 unfold Q61
 have h:=right_is N (⟨2,0,s⟩ : V)
 have h2:Says (Q1E N 2 0 s) (Q9H s.data.toList):=h.iff (by unfold rightP; simp)
 rw [says_dec h2,Q6]; rfl
def Q5I:V:=⟨0,0,⟨#[]⟩⟩
mutual
noncomputable def Q5W (vars:Int):Qe → Bool
 | ⟨k,v,x,op,kids⟩ =>
   if k = 1 then decide (x = 0 ∧ op = 0 ∧ kids.length = 0) && Q8v v
   else if k = 2 then decide (v = Q5I ∧ op = 0 ∧ kids.length = 0 ∧ 0 ≤ x ∧ x < vars)
   else if k = 3 then decide (v = Q5I ∧ x = 0 ∧ 1 ≤ op ∧ op ≤ 11 ∧ kids.length = (if op = 4 ∨ op = 11 then 1 else 2)) && Q76 vars kids
   else false
noncomputable def Q76 (vars:Int):List Qe → Bool
 | []=>true
 | x :: l=>Q5W vars x && Q76 vars l
end
theorem exprsB_any (vars : Int) : ∀ l : List Qe, Q76 vars l = !(l.any fun x => !Q5W vars x)
 | []=>by simp [Q76]
 | x :: l=>by rw [Q76,exprsB_any vars l,List.any_cons]; cases Q5W vars x <;> simp
theorem plain_is (N:Nat) (k a b:Int) (s:ByteArray) (x op:Int) (kids:List Qe) (p q r:Bool) :
  Q4F N k a b s x op kids p q r = some ((p || decide ((⟨a,b,s⟩ : V) = Q5I)) && ((q || decide (x = 0)) && (r || (decide (op = 0) && decide (kids.length = 0))))):=by
 unfold Q4F Q7x Q5I
 have e1:(x == 0) = decide (x = 0):=by rw [Bool.eq_iff_iff]; simp
 have e2:(op == 0) = decide (op = 0):=by rw [Bool.eq_iff_iff]; simp
 have e3:(kids.length == 0) = decide (kids.length = 0):=by rw [Bool.eq_iff_iff]; simp
 rw [e1,e2,e3]
 cases p <;> cases q <;> cases r <;> cases decide ((⟨a,b,s⟩ : V) = ⟨0,0,⟨#[]⟩⟩) <;> cases decide (x = 0) <;> cases decide (op = 0) <;> cases decide (kids.length = 0) <;> rfl
theorem expr_is {types:List Qg} {rules:List Qj} {vars facts:Int} : ∀ (m N:Nat) (e:Qe),Q7g e ≤ m → m ≤ 1000000 → 9223372036854775808 + m ≤ N →
    Q31 N types rules vars facts e.kind e.value.k e.value.n e.value.s e.var e.op e.kids = some (Q5W vars e):=by
  intro m
  induction m with
  | zero=>intro N e h; rw [Q5Y] at h; omega
  | succ m ih =>
    intro N e h hm hN
    obtain ⟨N,rfl⟩ : ∃ q,N = q + 1:=⟨N - 1,by omega⟩
    obtain ⟨k,v,x,op,kids⟩:=e
    have hk:Q3u kids ≤ m:=by rw [Q5Y] at h; simp only at h; omega
    show Q4x N (Q31 N) types rules vars facts k v.k v.n v.s x op kids = _
    unfold Q4x
    rw [Q5W]
    by_cases h1:k = 1
    · rw [if_pos (by simpa using h1),if_pos h1,plain_is,Q6]
      simp only [Bool.true_or,Bool.true_and,Bool.false_or]
      by_cases h2:(decide (x = 0) && (decide (op = 0) && decide (kids.length = 0))) = true
      · rw [if_pos h2,QaJ,Q6]
        congr 1
        simp at h2
        simp [h2]
      · rw [if_neg h2]
        congr 1
        simp at h2
        symm
        rw [Bool.and_eq_false_iff]
        left
        simpa using h2
    · rw [if_neg (by simpa using h1),if_neg h1]
      by_cases h2:k = 2
      · rw [if_pos (by simpa using h2),if_pos h2,plain_is,Q6]
        simp only [Bool.true_or,Bool.true_and,Bool.false_or]
        have ev:(⟨v.k,v.n,v.s⟩ : V) = v:=rfl
        rw [ev]
        by_cases h3:(decide (v = Q5I) && (decide (op = 0) && decide (kids.length = 0))) = true
        · rw [if_pos h3]
          simp at h3
          by_cases h4 : 0 ≤ x
          · rw [if_pos (by simpa using h4)]
            congr 1
            simp [h3,h4]
          · rw [if_neg (by simpa using h4)]
            congr 1
            simp [h4]
        · rw [if_neg h3]
          congr 1
          simp at h3
          simp
          intro a b c; exact absurd c (h3 a b)
      · rw [if_neg (by simpa using h2),if_neg h2]
        by_cases h3:k = 3
        · rw [if_pos (by simpa using h3),if_pos h3]
          have hw:Q5c N op = some (if op = 4 ∨ op = 11 then 1 else 2):=by
            unfold Q5c
            by_cases a:op = 4
            · rw [if_pos (by simpa using a),Q6,if_pos rfl,if_pos (.inl a)]
            · rw [if_neg (by simpa using a),Q6]
              by_cases b:op = 11
              · rw [if_pos (by simpa using b),if_pos (.inr b)]
              · rw [if_neg (by simpa using b),if_neg (by omega)]
          have hex:Q3M N (Q31 N) types rules vars facts kids = some (Q76 vars kids):=by
            unfold Q3M Q32 Q3B
            have hl:=Q6g kids
            rw [Q6N (l:=kids) (p:=fun y=>!Q5W vars y) (fun i hi=>by
              unfold Q2e Q4g
              have hn:=Q6h (List.getElem_mem hi)
              rw [if_pos (by simpa using hi),List.getElem?_eq_getElem hi,Q6,ih N kids[i] (by omega) (by omega) (by omega),Q6,Q6]
              by_cases hb:(!Q5W vars kids[i]) = true
              · rw [if_pos hb,if_pos hb]
              · rw [if_neg hb,if_neg hb,QC (by omega)]) (by
              unfold Q2e
              rw [if_neg (by simp)]) kids.length 0 N (by omega) (by omega),Q6,Q6,List.drop_zero,Q8i,exprsB_any]
          rw [hw,Q6]
          unfold Q6d
          rw [plain_is,Q6]
          simp only [Bool.true_or,Bool.false_or,Bool.and_true]
          have ev:(⟨v.k,v.n,v.s⟩ : V) = v:=rfl
          rw [ev]
          by_cases c1:v = Q5I ∧ x = 0
          · rw [if_pos (by simp [c1])]
            by_cases c2 : 1 ≤ op
            · rw [if_pos (by simpa using c2)]
              by_cases c3:op ≤ 11
              · rw [if_pos (by simpa using c3)]
                by_cases c4:kids.length = (if op = 4 ∨ op = 11 then 1 else 2)
                · rw [if_pos (by simpa using c4),hex,Q6,Q6]
                  congr 1
                  rw [decide_eq_true ⟨c1.1,c1.2,c2,c3,c4⟩,Bool.true_and]
                · rw [if_neg (by simpa using c4),Q6,decide_eq_false (fun h=>c4 h.2.2.2.2),Bool.false_and]
              · rw [if_neg (by simpa using c3),Q6,decide_eq_false (fun h=>c3 h.2.2.2.1),Bool.false_and]
            · rw [if_neg (by simpa using c2),Q6,decide_eq_false (fun h=>c2 h.2.2.1),Bool.false_and]
          · rw [if_neg (by simpa using c1),Q6,decide_eq_false (fun h=>c1 ⟨h.1,h.2.1⟩),Bool.false_and]
        · rw [if_neg (by simpa using h3),if_neg h3]
end Go.Proofs.YtbgodclhmgmcgaaGreatDoor
