import Derived.Test.YtjfpefddanmliaaGreatXM
import Derived.Test.YtjfpefddanmliaaGreatOnceD
namespace Go.Proofs.YtjfpefddanmliaaGreat
open Go.RowKit
theorem known_is (N:Nat) (l:List SessD) (a:Int):Q1O N l a = some ():=rfl
theorem find_is {N:Nat} {l:List SessD} {id:Int} (hN : 9223372036854775808 ≤ N) (hl:l.length ≤ 9223372036854775807):Q3q N l id = some (Q1o l id):=by
  obtain ⟨o, h1, h2⟩ := Q47 (f := Q2P N l id) (fun i => i ≤ l.length ∧ ∀ y ∈ l.take i, y.id ≠ id) (fun i => l.length - i)
    (fun o=>o = .inr (Q1o l id) ∨ (o = .inl () ∧ Q1o l id = -1)) (fun i hi=>by
      unfold Q2P
      by_cases hlt:i < l.length
      · have hx:=List.getElem?_eq_getElem hlt
        rw [if_pos (by simpa using hlt),hx]
        simp only [Q9,Q53]
        by_cases he:l[i].id = id
        · right
          exact ⟨_,by rw [if_pos (by simpa using he)],.inl (by rw [placeOf_at hi.2 hx he])⟩
        · left
          exact ⟨i + 1,by rw [if_neg (by simpa using he),QC (by omega)],⟨by omega,noId_step hi.2 hx he⟩,by omega⟩
      · right
        exact ⟨_,by rw [if_neg (by simpa using hlt)],.inr ⟨rfl,Q82 (noId_all hi.2 (by omega))⟩⟩) N 0 ⟨by omega,by simp⟩ (by omega)
  unfold Q3q
  rw [h1]
  rcases h2 with rfl | ⟨rfl,h3⟩
  · rfl
  · rw [h3]; rfl
theorem at_is {N:Nat} {l:List SessD} {nx id:Int} (hN : 9223372036854775808 ≤ N) (hl:l.length ≤ 9223372036854775807) (hn : 0 < nx) :
    Q2j N l nx id = some (if Q1o l id < 0 then (0,303) else (Q1o l id,0)):=by
  unfold Q2j Q4p
  simp only [known_is,Q9,find_is hN hl]
  rw [if_neg (by simp; omega)]
  by_cases h:Q1o l id < 0
  · rw [if_pos (by simpa using h),if_pos h]
  · rw [if_neg (by simpa using h),if_neg h]
def ReplyD.fit (x:ReplyD):Prop:=x.facts.length ≤ 68719476736 ∧ x.said.length ≤ 68719476736 ∧ ∀ f ∈ x.facts,f.args.length ≤ 68719476736
theorem own_is {N:Nat} {a b:Int} {l:List FactD} {m:List V} (hN : 9223372036854775808 ≤ N) (h:(⟨a,b,l,m⟩ : ReplyD).fit):Q4N N a b l m = some l:=by
  obtain ⟨h1,h2,h3⟩:=h
  simp only at h1 h2 h3
  obtain ⟨o,h4,h5⟩:=Q47 (f:=Q5m N l) (fun s=>s.1 ≤ l.length ∧ s.2 = l) (fun s=>l.length - s.1) (fun o=>o = (l,l.length)) (fun s hs=>by
      obtain ⟨i,M⟩:=s
      obtain ⟨hi,rfl⟩:=hs
      unfold Q5m
      simp only
      by_cases hlt:i < M.length
      · left
        have hx:=List.getElem?_eq_getElem hlt
        refine ⟨(i + 1,M),?_,⟨by simp only at hi ⊢; omega,rfl⟩,by simp only; omega⟩
        rw [if_pos (by simpa using hlt),hx]
        simp only [Q9]
        rw [QC (Nat.le_trans (h3 _ (List.getElem_mem hlt)) (by decide)),QC (by omega),show M.set i (⟨M[i].id,M[i].ty,M[i].args⟩ : FactD) = M from set_get hx]
      · right
        exact ⟨(M,i),by rw [if_neg (by simpa using hlt)],by simp only at hi; congr 1; omega⟩) N (0,l) ⟨by simp,rfl⟩ (by simp only; omega)
  subst h5
  unfold Q4N
  rw [QC (Nat.le_trans h2 (by decide)),QC (Nat.le_trans h1 (by decide)),h4,Q9]
  simp only
  rw [QC (Nat.le_refl _)]
theorem all_is {N:Nat} {l:List SessD} (hN : 9223372036854775808 ≤ N) (hl:l.length ≤ 68719476736) (hf : ∀ y ∈ l,y.r.fit):Q5K N l = some l:=by
  obtain ⟨o,h4,h5⟩:=Q47 (f:=Q5t N l) (fun s=>s.1 ≤ l.length ∧ s.2 = l) (fun s=>l.length - s.1) (fun o=>o = (l,l.length)) (fun s hs=>by
      obtain ⟨i,M⟩:=s
      obtain ⟨hi,rfl⟩:=hs
      unfold Q5t
      simp only
      by_cases hlt:i < M.length
      · left
        have hx:=List.getElem?_eq_getElem hlt
        refine ⟨(i + 1,M),?_,⟨by simp only at hi ⊢; omega,rfl⟩,by simp only; omega⟩
        rw [if_pos (by simpa using hlt),hx]
        simp only [Q9]
        rw [own_is hN (hf _ (List.getElem_mem hlt)),Q9,QC (by omega),show M.set i (⟨M[i].id,M[i].seq,⟨M[i].r.err,M[i].r.num,M[i].r.facts,M[i].r.said⟩⟩ : SessD) = M from set_get hx]
      · right
        exact ⟨(M,i),by rw [if_neg (by simpa using hlt)],by simp only at hi; congr 1; omega⟩) N (0,l) ⟨by simp,rfl⟩ (by simp only; omega)
  subst h5
  unfold Q5K
  rw [QC (Nat.le_trans hl (by decide)),h4,Q9]
  simp only
  rw [QC (Nat.le_refl _)]
theorem All_is {N:Nat} {l:List SessD} {nx:Int} (hN : 9223372036854775808 ≤ N) (hl:l.length ≤ 68719476736) (hf : ∀ y ∈ l,y.r.fit) (hn : 0 < nx):Q3I N l nx = some l:=by
  unfold Q3I
  rw [known_is,Q9,if_neg (by simp; omega),all_is hN hl hf]; rfl
theorem Expire_is {N:Nat} {l:List SessD} {nx id:Int} (hN : 9223372036854775808 ≤ N) (hl:l.length ≤ 68719476736) (hn : 0 < nx) :
    ∃ e:Nat,(e:Int) = (Q8q l id).2 ∧ Q1U N l nx id = some (e,(Q8q l id).1):=by
  unfold Q1U Q8q
  rw [at_is hN (by omega) hn]
  rcases Int.lt_or_le (Q1o l id) 0 with h0 | h0
  · rw [if_pos h0,if_pos h0]; exact ⟨303,rfl,rfl⟩
  · have hlt:=placeOf_lt h0
    rw [if_neg (by omega),if_neg (by omega)]
    refine ⟨0,rfl,?_⟩
    simp only [Q9]
    rw [if_pos (by simp),QC (by omega),QC h0,QC hlt]; rfl
theorem Pick_is {N:Nat} {x n:Int} (hn:n ≤ 9223372036854775807) : ∃ y,Q4V N x n = some y ∧ 0 ≤ y ∧ (1 ≤ n → y < n) ∧ (n < 1 → y = 0):=by
  unfold Q4V
  by_cases h:n < 1
  · exact ⟨0,by rw [if_pos (by simpa using h)],by omega,by omega,fun _=>rfl⟩
  · have h1:=Int.tmod_lt_of_pos x (show 0 < n by omega)
    have h2 : -n < Int.tmod x n:=by
      have:=Int.tmod_lt_of_pos (-x) (show 0 < n by omega)
      rw [Int.neg_tmod] at this; omega
    rw [if_neg (by simpa using h),QC (by omega)]
    by_cases h3:Int.tmod x n < 0
    · exact ⟨_,by rw [if_pos (by simpa using h3),QC (by omega)]; rfl,by omega,by omega,by omega⟩
    · exact ⟨_,by rw [if_neg (by simpa using h3)]; rfl,by omega,by omega,by omega⟩
end Go.Proofs.YtjfpefddanmliaaGreat
