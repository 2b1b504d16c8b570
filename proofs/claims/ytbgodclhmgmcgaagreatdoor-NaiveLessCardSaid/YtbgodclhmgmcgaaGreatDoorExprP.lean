import Derived.Test.YtbgodclhmgmcgaaGreatDoorExDoP
namespace Go.Proofs.YtbgodclhmgmcgaaGreatDoor
open Go Go.RowKit
theorem wrap_in (x:Int):Q2b (IntKind.wrap .i64 x):=by
 have e:IntKind.wrap .i64 x = if (9223372036854775808:Int) ≤ x % 18446744073709551616 then x % 18446744073709551616 - 18446744073709551616 else x % 18446744073709551616:=by
  by_cases h:(9223372036854775808:Int) ≤ x % 18446744073709551616 <;> simp [IntKind.wrap,IntKind.bits,IntKind.signed,h]
 rw [e]
 unfold Q2b
 split <;> omega
theorem Qce {N:Nat} {b:Bool} {v:Int} (h:Q1Y N b = some v):Q2b v:=by
 unfold Q1Y at h
 rw [Q8A,Q7] at h
 cases h
 unfold Q2b
 split <;> omega
theorem prod_in {N:Nat} {a b n:Int} {c:Bool} (h:Q4R N a b = some (n,c)):Q2b n:=by
 unfold Q4R at h
 obtain ⟨x,_,h⟩:=Q6 h
 obtain ⟨y,_,h⟩:=Q6 h
 obtain ⟨_,h⟩:=Qd h
 obtain ⟨_,h⟩:=Qd h
 rcases Q1E h with ⟨_,h⟩ | ⟨_,h⟩ <;> rcases Q1E h with ⟨_,h⟩ | ⟨_,h⟩ <;> (cases h; exact wrap_in _)
theorem c7_in {N:Nat} {op:Int} {v w:V} {n:Int} {c:Bool} (h:Q1i N op v w = some (n,c)):Q2b n:=by
 unfold Q1i at h
 obtain ⟨x,_,h⟩:=Q6 h
 rcases x with _ | _ | _ | _ | _ | _ | _ | _ | _ | _
 · obtain ⟨_,_,h⟩:=Q6 h; cases h; exact wrap_in _
 · obtain ⟨_,_,h⟩:=Q6 h; cases h; exact wrap_in _
 · obtain ⟨⟨a,b⟩,h1,h⟩:=Q6 h; cases h; exact prod_in h1
 · obtain ⟨_,_,h⟩:=Q6 h; cases h; exact wrap_in _
 · obtain ⟨a,h1,h⟩:=Q6 h; cases h; obtain ⟨b,h2,h3⟩:=Q6 h1; cases h3; exact Qce h2
 · obtain ⟨a,h1,h⟩:=Q6 h; cases h; obtain ⟨b,h2,h3⟩:=Q6 h1; cases h3; exact Qce h2
 ·obtain ⟨a,h1,h⟩:=Q6 h; cases h
  rcases Q1E h1 with ⟨_,h1⟩ | ⟨_,h1⟩ <;> (obtain ⟨b,h2,h3⟩:=Q6 h1; cases h3; exact Qce h2)
 ·obtain ⟨a,h1,h⟩:=Q6 h; cases h
  rcases Q1E h1 with ⟨_,h1⟩ | ⟨_,h1⟩ <;> (obtain ⟨b,h2,h3⟩:=Q6 h1; cases h3; exact Qce h2)
 · obtain ⟨a,h1,h⟩:=Q6 h; cases h; obtain ⟨b,h2,h3⟩:=Q6 h1; cases h3; exact Qce h2
 · cases h
theorem vtruth_in {N:Nat} {b:Bool} {v:Int} (h:Q64 N b = some v):Q2b v:=by
 rw [Q8A] at h; cases h; unfold Q2b; split <;> omega
theorem do_res {N:Nat} {op:Int} {l:List V} {k:Nat} {n:Int} {e:Nat} (hN : 9223372036854775808 ≤ N) (h:Q35 N op l = some (k,n,e)):(k = 1 ∧ e = 0 ∧ Q2b n) ∨ (k = 0 ∧ n = 0 ∧ e ≠ 0):=by
 unfold Q35 at h
 obtain ⟨c1,_⟩:=c1_is N op
 rw [c1,Q7,bad_is,Q7] at h
 rcases Q1E h with ⟨_,h⟩ | ⟨hb,h⟩
 · cases h; exact .inr ⟨rfl,rfl,by decide⟩
 ·have hb:=of_decide_eq_false hb
  have hlen:l.length ≤ 2:=by
   have:l.length = (if op = 4 ∨ op = 11 then 1 else 2):=by omega
   rw [this]; split <;> omega
  rcases loop_tot (N:=N) hN hlen with ⟨b,hlp⟩ | hlp
  ·rw [hlp,Q1W] at h
   obtain ⟨x,_,h⟩:=Q6 h
   obtain ⟨_,h⟩:=Qd h
   obtain ⟨_,h⟩:=Qd h
   obtain ⟨y,_,h⟩:=Q6 h
   rcases Q1E h with ⟨_,h⟩ | ⟨_,h⟩
   ·obtain ⟨t,h1,h⟩:=Q6 h
    cases h; exact .inl ⟨rfl,rfl,vtruth_in h1⟩
   ·rcases Q1E h with ⟨_,h⟩ | ⟨_,h⟩
    ·obtain ⟨t,h1,h⟩:=Q6 h
     cases h; exact .inl ⟨rfl,rfl,vtruth_in h1⟩
    ·rcases Q1E h with ⟨_,h⟩ | ⟨_,h⟩
     · cases h; exact .inr ⟨rfl,rfl,by decide⟩
     ·obtain ⟨⟨a,c⟩,h1,h⟩:=Q6 h
      rcases Q1E h with ⟨_,h⟩ | ⟨_,h⟩
      · cases h; exact .inr ⟨rfl,rfl,by decide⟩
      ·obtain ⟨_,_,h⟩:=Q6 h
       cases h; exact .inl ⟨rfl,rfl,c7_in h1⟩
  ·rw [hlp,Q4B] at h
   cases h; exact .inr ⟨rfl,rfl,by decide⟩
abbrev Say:=Int × Int × ByteArray × Nat
def allR (f:Qm → Option Say):List Qm → List V → Option (List V ⊕ Nat)
 | [],acc=>some (.inl acc)
 | x :: l,acc=>Qc (f x) fun (a,b,c,e)=>if (e != 0) = true then some (.inr e) else allR f l (acc ++ [⟨a,b,c⟩])
def upR {α β:Type} (g:List V → β) (k:Nat → α):Option (List V ⊕ Nat) → Option (β ⊕ α)
 | none=>none
 | some (.inl a)=>some (.inl (g a))
 | some (.inr e)=>some (.inr (k e))
theorem row_loop {O:Type} {F:(Nat × List V) → Option ((Nat × List V) ⊕ (List V ⊕ O))} {f:Qm → Option Say} {l:List Qm} {k:Nat → O}
   (hstep : ∀ i acc x,l[i]? = some x → acc.length = i → F (i,acc) = Qc (f x) fun (a,b,c,e)=>if (e != 0) = true then some (.inr (.inr (k e))) else some (.inl (i + 1,acc ++ [⟨a,b,c⟩])))
   (hstop : ∀ i acc,l.length ≤ i → F (i,acc) = some (.inr (.inl acc))) :
   ∀ (m i n:Nat) (acc:List V),l.length - i = m → i ≤ l.length → acc.length = i → m < n → Q1h F n (i,acc) = upR id k (allR f (l.drop i) acc)
 | 0,i,n + 1,acc,hm,hi,ha,hn=>by
   have hle:l.length ≤ i:=by omega
   rw [Q2u (hstop i acc hle),List.drop_of_length_le hle]; rfl
 | m + 1,i,n + 1,acc,hm,hi,ha,hn=>by
   have hlt:i < l.length:=by omega
   have hx:=List.getElem?_eq_getElem hlt
   have hd:l.drop i = l[i] :: l.drop (i + 1):=List.drop_eq_getElem_cons hlt
   rw [hd]
   show Q2I (F (i,acc)) (Q1h F n) = _
   rw [hstep i acc _ hx ha]
   unfold allR
   cases hf:f l[i] with
   | none=>rfl
   | some r =>
     obtain ⟨a,b,c,e⟩:=r
     simp only [Q7]
     cases he:e != 0 with
     | true=>simp only [if_true]; rfl
     | false =>
       simp only [Bool.false_eq_true,if_false,Q1W]
       exact row_loop hstep hstop m (i + 1) n _ (by omega) (by omega) (by simp [ha]) (by omega)
theorem row_loop0 {O:Type} {F:(Nat × List V) → Option ((Nat × List V) ⊕ (List V ⊕ O))} {f:Qm → Option Say} {l:List Qm} {k:Nat → O} {n:Nat}
  (hstep : ∀ i acc x,l[i]? = some x → acc.length = i → F (i,acc) = Qc (f x) fun (a,b,c,e)=>if (e != 0) = true then some (.inr (.inr (k e))) else some (.inl (i + 1,acc ++ [⟨a,b,c⟩])))
  (hstop : ∀ i acc,l.length ≤ i → F (i,acc) = some (.inr (.inl acc))) (hn:l.length < n):Q1h F n (0,[]) = upR id k (allR f l []):=by
 have:=row_loop hstep hstop l.length 0 n [] (by omega) (by omega) rfl (by omega)
 simpa using this
def at_ (rc:Int → Int → Int → ByteArray → Int → Int → List Qm → List V → Option Say) (vars:List V) (x:Qm):Option Say:=rc x.kind x.value.k x.value.n x.value.s x.var x.op x.kids vars
theorem lrow {N:Nat} {l:List Qm} {vars:List V} {rc:Int → Int → Int → ByteArray → Int → Int → List Qm → List V → Option Say} (hN : 9223372036854775808 ≤ N) (hl:l.length ≤ 1000000):Q1h (Q5a N l rc vars) N (0,[]) = upR id (fun e=>([],e)) (allR (at_ rc vars) l []):=by
 refine row_loop0 (fun i acc x hx ha=>?_) (fun i acc hi=>?_) (by omega)
 ·have hlt:=(List.getElem?_eq_some_iff.1 hx).1
  unfold Q5a
  simp only
  rw [if_pos (by simpa using hlt),hx,Q7]
  unfold at_
  congr 1
  funext ⟨a,b,c,e⟩
  simp only
  rw [QY (by simp only [List.length_cons,List.length_nil]; omega),QY (by omega)]
 ·unfold Q5a
  simp only
  rw [if_neg (by simpa using hi)]
theorem lrowR {N:Nat} {l:List Qm} {vars:List V} {rc:Int → Int → Int → ByteArray → Int → Int → List Qm → List V → Option Say} (hN : 9223372036854775808 ≤ N) (hl:l.length ≤ 1000000):Q1h (Q4E N l rc vars) N (0,[]) = upR id (fun e=>(.inr (0,0,(⟨#[]⟩ : ByteArray),e):(Int × Int × ByteArray) ⊕ Say)) (allR (at_ rc vars) l []):=by
 refine row_loop0 (fun i acc x hx ha=>?_) (fun i acc hi=>?_) (by omega)
 ·have hlt:=(List.getElem?_eq_some_iff.1 hx).1
  unfold Q4E
  simp only
  rw [if_pos (by simpa using hlt),hx,Q7]
  unfold at_
  congr 1
  funext ⟨a,b,c,e⟩
  simp only
  rw [QY (by simp only [List.length_cons,List.length_nil]; omega),QY (by omega)]
 ·unfold Q4E
  simp only
  rw [if_neg (by simpa using hi)]
end Go.Proofs.YtbgodclhmgmcgaaGreatDoor
