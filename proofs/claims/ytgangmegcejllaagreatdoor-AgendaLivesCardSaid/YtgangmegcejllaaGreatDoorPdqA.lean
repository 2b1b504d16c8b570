import Derived.Sort.AssemblyPlain
import Derived.Test.YtgangmegcejllaaGreatDoorXM
import Derived.Test.YtgangmegcejllaaGreatDoorPlain2
namespace Go.Proofs.YtgangmegcejllaaGreatDoor
open Go Go.RowKit
def Q7y (a b:Int):Int:=if a < b then -1 else if a > b then 1 else 0
def Q6h:List Int → List Int → Int
 | [],[]=>0
 | [],_ :: _=>-1
 | _ :: _,[]=>1
 | a :: l,b :: m=>if a < b then -1 else if a > b then 1 else Q6h l m
theorem lexI_zero : ∀ {l m:List Int},Q6h l m = 0 → l = m
 | [],[],_=>rfl
 | [],_ :: _,h=>by simp [Q6h] at h
 | _ :: _,[],h=>by simp [Q6h] at h
 | a :: l,b :: m,h=>by
   unfold Q6h at h
   split at h
   · omega
   ·split at h
    · omega
    · rw [lexI_zero h,show a = b by omega]
section
variable {N:Nat}
theorem cmp_is (a b:Int):Q4C N a b = some (Q7y a b):=by
 unfold Q4C Q7y Q6Q
 rw [Q8,Q8,if_neg (by simp),if_neg (by simp)]
 by_cases h1:a < b
 · rw [if_pos (by simpa using h1),if_pos h1]
 ·rw [if_neg (by simpa using h1),if_neg h1]
  by_cases h2:a > b
  · rw [if_pos (by simpa using h2),if_pos h2]
  · rw [if_neg (by simpa using h2),if_neg h2]
theorem compare_go (l m:List Int) : ∀ (k i fuel:Nat),l.length - i ≤ k → k < fuel → i ≤ l.length → i ≤ m.length → l.length ≤ 9223372036854775000 →
    (Q5x (Q1o (Q2Z N l m) fuel i) fun _=>if (decide (l.length < m.length)) = true then some (-1) else some 0) = some (Q6h (l.drop i) (m.drop i)):=by
  intro k
  induction k with
  | zero =>
    intro i fuel h1 h2 h3 h4 h5
    obtain ⟨fuel,rfl⟩ : ∃ f,fuel = f + 1:=⟨fuel - 1,by omega⟩
    have hi:i = l.length:=by omega
    subst hi
    rw [Q15 (o:=.inl ()) (by unfold Q2Z; rw [if_neg (by simp)]),Q4H,List.drop_length]
    by_cases h:l.length < m.length
    · rw [if_pos (by simpa using h),List.drop_eq_getElem_cons h]; rfl
    · rw [if_neg (by simpa using h),List.drop_eq_nil_of_le (by omega)]; rfl
  | succ k ih =>
    intro i fuel h1 h2 h3 h4 h5
    by_cases hi:i < l.length
    · obtain ⟨fuel,rfl⟩ : ∃ f,fuel = f + 1:=⟨fuel - 1,by omega⟩
      rw [List.drop_eq_getElem_cons hi]
      by_cases hm:i < m.length
      · rw [List.drop_eq_getElem_cons hm]
        unfold Q6h
        have hs:Q2Z N l m i = if (Q7y l[i] m[i] != 0) = true then some (.inr (.inr (Q7y l[i] m[i]))) else some (.inl (i + 1)):=by
          unfold Q2Z
          rw [if_pos (by simpa using hi),List.getElem?_eq_getElem hi,Q8,if_neg (by simp; omega),List.getElem?_eq_getElem hm,Q8,cmp_is,Q8,Qg (by omega)]
        by_cases hc:Q7y l[i] m[i] = 0
        · rw [if_neg (by simp [hc])] at hs
          rw [Q1Y hs,ih (i + 1) fuel (by omega) (by omega) (by omega) (by omega) h5]
          unfold Q7y at hc
          split at hc
          · omega
          · split at hc
            · omega
            · rename_i q1 q2
              rw [if_neg q1,if_neg q2]
        · rw [if_pos (by simpa using hc)] at hs
          rw [Q15 hs,Q6v]
          unfold Q7y at hc ⊢
          split
          · rfl
          · split
            · rfl
            · rename_i q1 q2
              rw [if_neg q1,if_neg q2] at hc
              exact absurd rfl hc
      · rw [Q15 (o:=.inr 1) (by unfold Q2Z; rw [if_pos (by simpa using hi),List.getElem?_eq_getElem hi,Q8,if_pos (by simp; omega)]),Q6v,show m.drop i = [] from List.drop_eq_nil_of_le (by omega)]; rfl
    · exact ih i fuel (by omega) (by omega) h3 h4 h5
theorem compare_is {l m:List Int} (hN : 1000000 ≤ N) (hl:l.length ≤ 100000):Q4Y N l m = some (Q6h l m):=by
 have:=compare_go (N:=N) l m l.length 0 N (by omega) (by omega) (by omega) (by omega) (by omega)
 unfold Q4Y
 simpa using this
def orI:List Int → Int
 | []=>0
 | a :: l=>if a = 0 then orI l else a
theorem or_is (hN : 1000000 ≤ N) (a b c d:Int):Q7L N [a,b,c,d] = some (orI [a,b,c,d]):=by
 unfold Q7L
 obtain ⟨M,rfl⟩ : ∃ M,N = M + 5:=⟨N - 5,by omega⟩
 have st : ∀ (i:Nat) (x:Int),[a,b,c,d][i]? = some x → i < 4 → Q6e (M + 5) [a,b,c,d] i = if x = 0 then some (.inl (i + 1)) else some (.inr (.inr x)):=fun i x hx hi=>by
  unfold Q6e
  rw [if_pos (by simpa using hi),hx,Q8,Qg (by omega)]
  by_cases h:x = 0
  · rw [if_neg (by simp [h]),if_pos h]
  · rw [if_pos (by simpa using h),if_neg h]
 unfold orI
 by_cases h0:a = 0
 ·rw [Q1Y (by rw [st 0 a rfl (by omega),if_pos h0]),if_pos h0]
  unfold orI
  by_cases h1:b = 0
  ·rw [Q1Y (by rw [st 1 b rfl (by omega),if_pos h1]),if_pos h1]
   unfold orI
   by_cases h2:c = 0
   ·rw [Q1Y (by rw [st 2 c rfl (by omega),if_pos h2]),if_pos h2]
    unfold orI
    by_cases h3:d = 0
    · rw [Q1Y (by rw [st 3 d rfl (by omega),if_pos h3]),if_pos h3,Q15 (o:=.inl ()) (by unfold Q6e; rw [if_neg (by simp)])]; rfl
    · rw [Q15 (by rw [st 3 d rfl (by omega),if_neg h3]),if_neg h3]; rfl
   · rw [Q15 (by rw [st 2 c rfl (by omega),if_neg h2]),if_neg h2]; rfl
  · rw [Q15 (by rw [st 1 b rfl (by omega),if_neg h1]),if_neg h1]; rfl
 · rw [Q15 (by rw [st 0 a rfl (by omega),if_neg h0]),if_neg h0]; rfl
end
def Desc (l:List Int):Prop:=l.Pairwise fun a b=>b ≤ a
def desc (l:List Int):List Int:=l.mergeSort fun a b=>decide (b ≤ a)
theorem desc_perm (l:List Int):(desc l).Perm l:=List.mergeSort_perm l _
theorem desc_sorted (l:List Int):Desc (desc l):=by
 have h:=List.pairwise_mergeSort (le:=fun a b:Int=>decide (b ≤ a)) (fun a b c h1 h2=>by simp at *; omega) (fun a b=>by simp; omega) l
 exact h.imp fun h=>by simpa using h
theorem Q9W (l:List Int):(desc l).length = l.length:=(desc_perm l).length_eq
theorem Q9X {l m:List Int} (hp:m.Perm l) (hs:Desc m):m = desc l :=
 List.Perm.eq_of_pairwise (le:=fun a b:Int=>b ≤ a) (fun a b _ _ h1 h2=>by omega) hs (desc_sorted l) (hp.trans (desc_perm l).symm)
section
variable {N:Nat}
theorem cfO_is:cfO (fun x y=>Q4S N x y) = fun x y=>Q7y y x:=by
 funext x y
 unfold cfO Q4S
 simp only [cmp_is]
 rw [Q8]; rfl
theorem Q8F {a b:Int}:Q7y a b < 0 ↔ a < b:=by
 unfold Q7y
 split
 · simp; assumption
 · split <;> simp <;> omega
theorem falling_is {l:List Int} (hl:l.length ≤ 1000000000):Q63 N l = some (desc l):=by
 unfold Q63
 have hk : SortOk (fun x y => Q4S N x y) l := {
  some:=fun x _ y _=>⟨Q7y y x,by unfold Q4S; rw [cmp_is,Q8]⟩
  irrefl:=fun x _=>by rw [cfO_is]; simp only [Q8F]; omega
  trans:=fun x _ y _ z _=>by rw [cfO_is]; simp only [Q8F]; omega
  ntrans:=fun x _ y _ z _=>by rw [cfO_is]; simp only [Q8F]; omega
  parts:=fun x _ y _=>by rw [cfO_is]; simp only [Q8F]; omega
  len:=by omega }
 rw [Qg (by omega),sortM_is (l':=desc l) hk (desc_perm l) (by rw [cfO_is]; exact (desc_sorted l).imp fun h=>by rw [Q8F]; omega),Q8]
end
def Q5B (s:Int):QG:=⟨(⟨#[]⟩ : ByteArray),s,0,[],[]⟩
def sal (l:List Int) (r:Int):Int:=if r < 0 then 0 else l.getD r.toNat 0
section
variable {N:Nat} (hN : 1000000 ≤ N)
include hN
theorem of_is {l:List Int} (hl:l.length ≤ 1000):Q4l N l = some (l.map Q5B):=by
 unfold Q4l
 rw [Q9n l.length (fun i=>Q5B (l.getD i 0)) [] (fun i hi=>by
  unfold Q45
  simp only
  have hg:l.getD i 0 = l[i]:=by simp [hi]
  rw [if_pos (by simpa using hi),List.getElem?_eq_getElem hi,Q8,Qg (by simp; omega),Qg (by omega),hg]
  rfl) (by unfold Q45; simp only; rw [if_neg (by simp)]) (by omega),Q8,List.nil_append,map_range l Q5B 0]
theorem by_is {l:List Int} {t:List Qr} (hl:l.length ≤ 1000):Q7E N t (l.map Q5B) = some l:=by
 unfold Q7E
 rw [Q9n l.length (fun i=>id (l.getD i 0)) [] (fun i hi=>by
  unfold Q79
  simp only
  have hg:l.getD i 0 = l[i]:=by simp [hi]
  rw [if_pos (by simpa using hi),List.getElem?_map,List.getElem?_eq_getElem hi,Option.map_some,Q8,Qg (by simp; omega),Qg (by omega),hg]
  rfl) (by unfold Q79; simp only; rw [if_neg (by simp)]) (by omega),Q8,List.nil_append,map_range l id 0]
 simp
omit hN in
theorem ofsal_is {l x:List Int} {r:Int}:Q5G N l r x = some (sal l r):=by
 unfold Q5G sal
 by_cases h:r < 0
 · rw [if_pos (by simpa using h),Q8,if_pos rfl,if_pos h]
 ·rw [if_neg (by simpa using h),Q8,if_neg h]
  by_cases h2:r ≥ ((l.length:Nat):Int)
  · rw [if_pos (by simpa using h2),List.getD_eq_getElem?_getD,List.getElem?_eq_none (by omega)]; rfl
  ·have h3:r.toNat < l.length:=by omega
   rw [if_neg (by simpa using h2),Qg (by omega),List.getElem?_eq_getElem h3,Q8,List.getD_eq_getElem?_getD,List.getElem?_eq_getElem h3]; rfl
def ordI (s:List Int) (r1:Int) (i1:List Int) (r2:Int) (i2:List Int):Int:=orI [Q7y (sal s r2) (sal s r1),Q6h (desc i2) (desc i1),Q7y r1 r2,Q6h i1 i2]
theorem order_is {s i1 i2:List Int} {r1 r2:Int} (h1:i1.length ≤ 1000) (h2:i2.length ≤ 1000):Q17 N s r1 i1 r2 i2 = some (ordI s r1 i1 r2 i2):=by
 unfold Q17 ordI
 rw [ofsal_is,Q8,ofsal_is,Q8,cmp_is,Q8,falling_is (by omega),Q8,falling_is (by omega),Q8,compare_is hN (by rw [Q9W]; omega),Q8,cmp_is,Q8,compare_is hN (by omega),Q8,or_is hN,Q8]
end
structure WO {α:Type} (c : α → α → Int):Prop where
 anti : ∀ x y,c x y < 0 ↔ 0 < c y x
 tr : ∀ x y z,c x y ≤ 0 → c y z ≤ 0 → c x z ≤ 0
theorem WO.flip {α:Type} {c : α → α → Int} (h:WO c):WO fun x y=>c y x :=
 ⟨fun x y=>h.anti y x,fun x y z h1 h2=>h.tr z y x h2 h1⟩
theorem WO.key {α β:Type} {c : β → β → Int} (h:WO c) (f : α → β):WO fun x y=>c (f x) (f y) :=
 ⟨fun x y=>h.anti _ _,fun x y z h1 h2=>h.tr _ _ _ h1 h2⟩
theorem WO.or {α:Type} {c c' : α → α → Int} (h:WO c) (h' : WO c'):WO fun x y=>if c x y = 0 then c' x y else c x y:=by
 constructor
 ·intro x y
  have a1:=h.anti x y
  have a2:=h.anti y x
  have b1:=h'.anti x y
  by_cases e:c x y = 0
  ·have e2:c y x = 0:=by omega
   rw [if_pos e,if_pos e2]; exact b1
  ·have e2:c y x ≠ 0:=by omega
   rw [if_neg e,if_neg e2]; exact a1
 ·intro x y z h1 h2
  have a1:=h.anti x y
  have a1':=h.anti y x
  have a2:=h.anti y z
  have a2':=h.anti z y
  have a3:=h.anti x z
  have a3':=h.anti z x
  have q1:c x y ≤ 0:=by
   by_cases e:c x y = 0
   · omega
   · rw [if_neg e] at h1; exact h1
  have q2:c y z ≤ 0:=by
   by_cases e:c y z = 0
   · omega
   · rw [if_neg e] at h2; exact h2
  have q3:=h.tr x y z q1 q2
  by_cases e:c x z = 0
  ·rw [if_pos e]
   have t1:c y x ≤ 0:=h.tr y z x q2 (by omega)
   have t2:c z y ≤ 0:=h.tr z x y (by omega) q1
   rw [if_pos (by omega)] at h1 h2
   exact h'.tr x y z h1 h2
  · rw [if_neg e]; exact q3
theorem cmpI_wo:WO Q7y:=by
 constructor
 · intro x y; unfold Q7y; split <;> split <;> (try split) <;> (try split) <;> omega
 · intro x y z; unfold Q7y; split <;> split <;> (try split) <;> (try split) <;> (try split) <;> omega
theorem lexI_anti : ∀ l m:List Int,Q6h l m < 0 ↔ 0 < Q6h m l
 | [],[]=>by simp [Q6h]
 | [],_ :: _=>by simp [Q6h]
 | _ :: _,[]=>by simp [Q6h]
 | a :: l,b :: m=>by
   have:=lexI_anti l m
   unfold Q6h
   split <;> split <;> (try split) <;> (try split) <;> omega
theorem lexI_tr : ∀ l m k:List Int,Q6h l m ≤ 0 → Q6h m k ≤ 0 → Q6h l k ≤ 0
 | [],_,[]=>by simp [Q6h]
 | [],_,_ :: _=>by simp [Q6h]
 | _ :: _,[],_=>by intro h; simp [Q6h] at h
 | _ :: _,_ :: _,[]=>by intro _ h; simp [Q6h] at h
 | a :: l,b :: m,c :: k=>by
   have:=lexI_tr l m k
   unfold Q6h
   intro h1 h2
   split at h1
   ·split at h2
    · rw [if_pos (by omega)]; omega
    ·split at h2
     · omega
     · rw [if_pos (by omega)]; omega
   ·split at h1
    · omega
    ·split at h2
     · rw [if_pos (by omega)]; omega
     ·split at h2
      · omega
      · rw [if_neg (by omega),if_neg (by omega)]; exact this h1 h2
theorem lexI_wo:WO Q6h:=⟨lexI_anti,lexI_tr⟩
def cfT (s:List Int) (x y:Q1):Int:=ordI s x.rule x.ids y.rule y.ids
def ltT (s:List Int) (x y:Q1):Bool:=decide (cfT s x y < 0)
theorem cfT_wo (s:List Int):WO (cfT s):=by
 have h1:WO fun x y:Q1=>Q7y (sal s y.rule) (sal s x.rule):=(cmpI_wo.key fun x:Q1=>sal s x.rule).flip
 have h2:WO fun x y:Q1=>Q6h (desc y.ids) (desc x.ids):=(lexI_wo.key fun x:Q1=>desc x.ids).flip
 have h3:WO fun x y:Q1=>Q7y x.rule y.rule:=cmpI_wo.key fun x:Q1=>x.rule
 have h4:WO fun x y:Q1=>Q6h x.ids y.ids:=lexI_wo.key fun x:Q1=>x.ids
 have h:=h1.or (h2.or (h3.or h4))
 have e:cfT s = fun x y:Q1=>if Q7y (sal s y.rule) (sal s x.rule) = 0 then (if Q6h (desc y.ids) (desc x.ids) = 0 then (if Q7y x.rule y.rule = 0 then Q6h x.ids y.ids else Q7y x.rule y.rule) else Q6h (desc y.ids) (desc x.ids)) else Q7y (sal s y.rule) (sal s x.rule):=by
  funext x y
  unfold cfT ordI orI orI orI orI orI
  by_cases e:Q6h x.ids y.ids = 0
  · simp [e]
  · simp [e]
 rw [e]; exact h
theorem cfT_zero {s:List Int} {x y:Q1} (h:cfT s x y = 0):x = y:=by
 unfold cfT ordI orI orI orI orI orI at h
 have hr:x.rule = y.rule ∧ x.ids = y.ids:=by
  split at h
  ·split at h
   ·split at h
    ·split at h
     ·rename_i _ _ q3 q4
      refine ⟨?_,lexI_zero q4⟩
      unfold Q7y at q3
      split at q3
      · omega
      · split at q3 <;> omega
     · exact absurd h (by assumption)
    · exact absurd h (by assumption)
   · exact absurd h (by assumption)
  · exact absurd h (by assumption)
 cases x; cases y; simp at hr ⊢; exact hr
theorem cfT_self (s:List Int) (x:Q1):cfT s x x = 0:=by
 have:=(cfT_wo s).anti x x
 omega
theorem Q8s (s:List Int):Go.Sort.SWO (ltT s) where
 irrefl x:=by unfold ltT; rw [cfT_self]; rfl
 trans x y z h1 h2:=by
  unfold ltT at *
  simp only [decide_eq_true_eq] at *
  have w:=cfT_wo s
  have a1:=w.anti x y
  have a2:=w.anti y z
  have a3:=w.anti x z
  have a4:=w.anti z x
  have t:=w.tr x y z (by omega) (by omega)
  by_cases e:cfT s x z = 0
  ·have t2:=w.tr y z x (by omega) (by omega)
   omega
  · omega
 ntrans x y z h1 h2:=by
  unfold ltT at *
  simp only [decide_eq_false_iff_not] at *
  have w:=cfT_wo s
  have a1:=w.anti x y
  have a1':=w.anti y x
  have a2:=w.anti y z
  have a2':=w.anti z y
  have a3:=w.anti x z
  have a3':=w.anti z x
  have t:=w.tr z y x (by omega) (by omega)
  omega
theorem ltT_parts {s:List Int} {x y:Q1} (h1:ltT s x y = false) (h2:ltT s y x = false):x = y:=by
 unfold ltT at *
 simp only [decide_eq_false_iff_not] at *
 have a1:=(cfT_wo s).anti x y
 have a2:=(cfT_wo s).anti y x
 exact cfT_zero (s:=s) (by omega)
end Go.Proofs.YtgangmegcejllaaGreatDoor
