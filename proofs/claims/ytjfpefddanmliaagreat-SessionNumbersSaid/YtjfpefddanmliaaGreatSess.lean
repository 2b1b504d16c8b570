import Derived.Test.YtjfpefddanmliaaGreatDyn
namespace Go.Proofs.YtjfpefddanmliaaGreat
open Go.RowKit
structure ReplyD where
  err:Int
  num:Int
  facts:List FactD
  said:List V
structure SessD where
  id:Int
  seq:Int
  r:ReplyD
def ReplyD.ok (x:ReplyD):Prop:=inI x.err ∧ inI x.num
def SessD.ok (x:SessD):Prop:=inI x.id ∧ inI x.seq ∧ x.r.ok
def sesNew (id:Int):SessD:=⟨id,0,⟨0,0,[],[]⟩⟩
def Q1o:List SessD → Int → Int
  | [],_=>-1
  | x :: l,id=>if x.id = id then 0 else if Q1o l id = -1 then -1 else Q1o l id + 1
theorem placeOf_ge : ∀ (l:List SessD) (id:Int),-1 ≤ Q1o l id
  | [],_=>by simp [Q1o]
  | x :: l,id=>by
    have:=placeOf_ge l id
    unfold Q1o
    split
    · omega
    · split <;> omega
theorem Q82 : ∀ {l:List SessD} {id:Int},(∀ x ∈ l,x.id ≠ id) → Q1o l id = -1
  | [],_,_=>rfl
  | x :: l,id,h=>by
    unfold Q1o
    rw [if_neg (h x (by simp)),if_pos (Q82 fun y hy=>h y (by simp [hy]))]
theorem placeOf_at : ∀ {l:List SessD} {id:Int} {k:Nat} {x:SessD},(∀ y ∈ l.take k,y.id ≠ id) → l[k]? = some x → x.id = id → Q1o l id = k
  | y :: l,id,0,x,_,hx,hid=>by
    simp at hx; subst hx
    unfold Q1o; rw [if_pos hid]; rfl
  | y :: l,id,k + 1,x,h,hx,hid=>by
    have h1:=placeOf_at (l:=l) (k:=k) (fun z hz=>h z (by simp [hz])) (by simpa using hx) hid
    unfold Q1o
    rw [if_neg (h y (by simp)),h1,if_neg (by omega)]
    simp
  | [],_,_,_,_,hx,_=>by simp at hx
theorem Q8n : ∀ {l:List SessD} {id:Int},0 ≤ Q1o l id → ∃ x,l[(Q1o l id).toNat]? = some x ∧ x.id = id
  | [],_,h=>by simp [Q1o] at h
  | y :: l,id,h=>by
    have hg:=placeOf_ge l id
    unfold Q1o at h ⊢
    split
    · rename_i e; exact ⟨y,by simp,e⟩
    · rename_i e
      rw [if_neg e] at h
      split
      · rename_i e2; rw [if_pos e2] at h; omega
      · rename_i e2
        obtain ⟨x,h1,h2⟩:=Q8n (l:=l) (id:=id) (by omega)
        exact ⟨x,by rw [show (Q1o l id + 1).toNat = (Q1o l id).toNat + 1 from by omega]; simpa using h1,h2⟩
theorem noId_step {l:List SessD} {id:Int} {k:Nat} {x:SessD} (h : ∀ y ∈ l.take k,y.id ≠ id) (hx:l[k]? = some x) (hne:x.id ≠ id) : ∀ y ∈ l.take (k + 1),y.id ≠ id:=fun y hy=>by
  rw [List.take_add_one,hx] at hy
  rcases List.mem_append.1 hy with hy | hy
  · exact h y hy
  · simp at hy; subst hy; exact hne
theorem noId_all {l:List SessD} {id:Int} {k:Nat} (h : ∀ y ∈ l.take k,y.id ≠ id) (hk:l.length ≤ k) : ∀ y ∈ l,y.id ≠ id:=by rwa [List.take_of_length_le hk] at h
theorem placeOf_lt {l:List SessD} {id:Int} (h : 0 ≤ Q1o l id):(Q1o l id).toNat < l.length:=by
  obtain ⟨x,h1,_⟩:=Q8n h
  exact (List.getElem?_eq_some_iff.1 h1).1
def rplNil:ReplyD:=⟨0,0,[],[]⟩
def askOf (L:List SessD) (id seq:Int):ReplyD × Bool × Int :=
  if Q1o L id < 0 then (rplNil,false,303) else match L[(Q1o L id).toNat]? with
    | none=>(rplNil,false,0)
    | some s=>if seq < 1 ∨ seq < s.seq then (rplNil,false,304) else if seq = s.seq then (s.r,true,0) else (rplNil,false,0)
def doneOf (L:List SessD) (id seq:Int) (x:ReplyD):List SessD × Int :=
  if Q1o L id < 0 then (L,303) else match L[(Q1o L id).toNat]? with
    | none=>(L,0)
    | some s=>if seq < 1 ∨ seq ≤ s.seq then (L,304) else (L.set (Q1o L id).toNat ⟨s.id,seq,x⟩,0)
end Go.Proofs.YtjfpefddanmliaaGreat
