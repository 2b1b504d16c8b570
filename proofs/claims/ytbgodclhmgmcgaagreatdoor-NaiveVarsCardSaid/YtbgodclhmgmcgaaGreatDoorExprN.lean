import Derived.Test.YtbgodclhmgmcgaaGreatDoorExDoP
import Derived.Test.YtbgodclhmgmcgaaGreatDoorExP
import Derived.Test.YtbgodclhmgmcgaaGreatDoorXM
namespace Go.Proofs.YtbgodclhmgmcgaaGreatDoor
open Go Go.RowKit
theorem wrap_in (x:Int):Q1L (IntKind.wrap .i64 x):=by
 have e:IntKind.wrap .i64 x = if (9223372036854775808:Int) ≤ x % 18446744073709551616 then x % 18446744073709551616 - 18446744073709551616 else x % 18446744073709551616:=by
  by_cases h:(9223372036854775808:Int) ≤ x % 18446744073709551616 <;> simp [IntKind.wrap,IntKind.bits,IntKind.signed,h]
 rw [e]
 unfold Q1L
 split <;> omega
theorem Qav {N:Nat} {b:Bool} {v:Int} (h:Q1A N b = some v):Q1L v:=by
 unfold Q1A at h
 rw [Q7m,Q6] at h
 cases h
 unfold Q1L
 split <;> omega
theorem prod_in {N:Nat} {a b n:Int} {c:Bool} (h:Q4t N a b = some (n,c)):Q1L n:=by
 unfold Q4t at h
 obtain ⟨x,_,h⟩:=Q7 h
 obtain ⟨y,_,h⟩:=Q7 h
 obtain ⟨_,h⟩:=Qz h
 obtain ⟨_,h⟩:=Qz h
 rcases Q14 h with ⟨_,h⟩ | ⟨_,h⟩ <;> rcases Q14 h with ⟨_,h⟩ | ⟨_,h⟩ <;> (cases h; exact wrap_in _)
theorem c7_in {N:Nat} {op:Int} {v w:V} {n:Int} {c:Bool} (h:QV N op v w = some (n,c)):Q1L n:=by
 unfold QV at h
 obtain ⟨x,_,h⟩:=Q7 h
 rcases x with _ | _ | _ | _ | _ | _ | _ | _ | _ | _
 · obtain ⟨_,_,h⟩:=Q7 h; cases h; exact wrap_in _
 · obtain ⟨_,_,h⟩:=Q7 h; cases h; exact wrap_in _
 · obtain ⟨⟨a,b⟩,h1,h⟩:=Q7 h; cases h; exact prod_in h1
 · obtain ⟨_,_,h⟩:=Q7 h; cases h; exact wrap_in _
 · obtain ⟨a,h1,h⟩:=Q7 h; cases h; obtain ⟨b,h2,h3⟩:=Q7 h1; cases h3; exact Qav h2
 · obtain ⟨a,h1,h⟩:=Q7 h; cases h; obtain ⟨b,h2,h3⟩:=Q7 h1; cases h3; exact Qav h2
 ·obtain ⟨a,h1,h⟩:=Q7 h; cases h
  rcases Q14 h1 with ⟨_,h1⟩ | ⟨_,h1⟩ <;> (obtain ⟨b,h2,h3⟩:=Q7 h1; cases h3; exact Qav h2)
 ·obtain ⟨a,h1,h⟩:=Q7 h; cases h
  rcases Q14 h1 with ⟨_,h1⟩ | ⟨_,h1⟩ <;> (obtain ⟨b,h2,h3⟩:=Q7 h1; cases h3; exact Qav h2)
 · obtain ⟨a,h1,h⟩:=Q7 h; cases h; obtain ⟨b,h2,h3⟩:=Q7 h1; cases h3; exact Qav h2
 · cases h
theorem vtruth_in {N:Nat} {b:Bool} {v:Int} (h:Q5o N b = some v):Q1L v:=by
 rw [Q7m] at h; cases h; unfold Q1L; split <;> omega
theorem do_res {N:Nat} {op:Int} {l:List V} {k:Nat} {n:Int} {e:Nat} (hN : 9223372036854775808 ≤ N) (h:Q2Y N op l = some (k,n,e)):(k = 1 ∧ e = 0 ∧ Q1L n) ∨ (k = 0 ∧ n = 0 ∧ e ≠ 0):=by
 unfold Q2Y at h
 obtain ⟨c1,_⟩:=c1_is N op
 rw [c1,Q6,bad_is,Q6] at h
 rcases Q14 h with ⟨_,h⟩ | ⟨hb,h⟩
 · cases h; exact .inr ⟨rfl,rfl,by decide⟩
 ·have hb:=of_decide_eq_false hb
  have hlen:l.length ≤ 2:=by
   have:l.length = (if op = 4 ∨ op = 11 then 1 else 2):=by omega
   rw [this]; split <;> omega
  rcases loop_tot (N:=N) hN hlen with ⟨b,hlp⟩ | hlp
  ·rw [hlp,Q18] at h
   obtain ⟨x,_,h⟩:=Q7 h
   obtain ⟨_,h⟩:=Qz h
   obtain ⟨_,h⟩:=Qz h
   obtain ⟨y,_,h⟩:=Q7 h
   rcases Q14 h with ⟨_,h⟩ | ⟨_,h⟩
   ·obtain ⟨t,h1,h⟩:=Q7 h
    cases h; exact .inl ⟨rfl,rfl,vtruth_in h1⟩
   ·rcases Q14 h with ⟨_,h⟩ | ⟨_,h⟩
    ·obtain ⟨t,h1,h⟩:=Q7 h
     cases h; exact .inl ⟨rfl,rfl,vtruth_in h1⟩
    ·rcases Q14 h with ⟨_,h⟩ | ⟨_,h⟩
     · cases h; exact .inr ⟨rfl,rfl,by decide⟩
     ·obtain ⟨⟨a,c⟩,h1,h⟩:=Q7 h
      rcases Q14 h with ⟨_,h⟩ | ⟨_,h⟩
      · cases h; exact .inr ⟨rfl,rfl,by decide⟩
      ·obtain ⟨_,_,h⟩:=Q7 h
       cases h; exact .inl ⟨rfl,rfl,c7_in h1⟩
  ·rw [hlp,Q1t] at h
   cases h; exact .inr ⟨rfl,rfl,by decide⟩
abbrev Say:=Int × Int × ByteArray × Nat
def allR (f:Qe → Option Say):List Qe → List V → Option (List V ⊕ Nat)
 | [],acc=>some (.inl acc)
 | x :: l,acc=>Qp (f x) fun (a,b,c,e)=>if (e != 0) = true then some (.inr e) else allR f l (acc ++ [⟨a,b,c⟩])
def upR {α β:Type} (g:List V → β) (k:Nat → α):Option (List V ⊕ Nat) → Option (β ⊕ α)
 | none=>none
 | some (.inl a)=>some (.inl (g a))
 | some (.inr e)=>some (.inr (k e))
theorem row_loop {O:Type} {F:(Nat × List V) → Option ((Nat × List V) ⊕ (List V ⊕ O))} {f:Qe → Option Say} {l:List Qe} {k:Nat → O}
   (hstep : ∀ i acc x,l[i]? = some x → acc.length = i → F (i,acc) = Qp (f x) fun (a,b,c,e)=>if (e != 0) = true then some (.inr (.inr (k e))) else some (.inl (i + 1,acc ++ [⟨a,b,c⟩])))
   (hstop : ∀ i acc,l.length ≤ i → F (i,acc) = some (.inr (.inl acc))) :
   ∀ (m i n:Nat) (acc:List V),l.length - i = m → i ≤ l.length → acc.length = i → m < n → Q19 F n (i,acc) = upR id k (allR f (l.drop i) acc)
 | 0,i,n + 1,acc,hm,hi,ha,hn=>by
   have hle:l.length ≤ i:=by omega
   rw [Q1a (hstop i acc hle),List.drop_of_length_le hle]; rfl
 | m + 1,i,n + 1,acc,hm,hi,ha,hn=>by
   have hlt:i < l.length:=by omega
   have hx:=List.getElem?_eq_getElem hlt
   have hd:l.drop i = l[i] :: l.drop (i + 1):=List.drop_eq_getElem_cons hlt
   rw [hd]
   show Q1O (F (i,acc)) (Q19 F n) = _
   rw [hstep i acc _ hx ha]
   unfold allR
   cases hf:f l[i] with
   | none=>rfl
   | some r =>
     obtain ⟨a,b,c,e⟩:=r
     simp only [Q6]
     cases he:e != 0 with
     | true=>simp only [if_true]; rfl
     | false =>
       simp only [Bool.false_eq_true,if_false,Q18]
       exact row_loop hstep hstop m (i + 1) n _ (by omega) (by omega) (by simp [ha]) (by omega)
theorem row_loop0 {O:Type} {F:(Nat × List V) → Option ((Nat × List V) ⊕ (List V ⊕ O))} {f:Qe → Option Say} {l:List Qe} {k:Nat → O} {n:Nat}
  (hstep : ∀ i acc x,l[i]? = some x → acc.length = i → F (i,acc) = Qp (f x) fun (a,b,c,e)=>if (e != 0) = true then some (.inr (.inr (k e))) else some (.inl (i + 1,acc ++ [⟨a,b,c⟩])))
  (hstop : ∀ i acc,l.length ≤ i → F (i,acc) = some (.inr (.inl acc))) (hn:l.length < n):Q19 F n (0,[]) = upR id k (allR f l []):=by
 have:=row_loop hstep hstop l.length 0 n [] (by omega) (by omega) rfl (by omega)
 simpa using this
def at_ (rc:Int → Int → Int → ByteArray → Int → Int → List Qe → List V → Option Say) (vars:List V) (x:Qe):Option Say:=rc x.kind x.value.k x.value.n x.value.s x.var x.op x.kids vars
theorem lrow {N:Nat} {l:List Qe} {vars:List V} {rc:Int → Int → Int → ByteArray → Int → Int → List Qe → List V → Option Say} (hN : 9223372036854775808 ≤ N) (hl:l.length ≤ 1000000):Q19 (Q4K N l rc vars) N (0,[]) = upR id (fun e=>([],e)) (allR (at_ rc vars) l []):=by
 refine row_loop0 (fun i acc x hx ha=>?_) (fun i acc hi=>?_) (by omega)
 ·have hlt:=(List.getElem?_eq_some_iff.1 hx).1
  unfold Q4K
  simp only
  rw [if_pos (by simpa using hlt),hx,Q6]
  unfold at_
  congr 1
  funext ⟨a,b,c,e⟩
  simp only
  rw [QC (by simp only [List.length_cons,List.length_nil]; omega),QC (by omega)]
 ·unfold Q4K
  simp only
  rw [if_neg (by simpa using hi)]
theorem lrowR {N:Nat} {l:List Qe} {vars:List V} {rc:Int → Int → Int → ByteArray → Int → Int → List Qe → List V → Option Say} (hN : 9223372036854775808 ≤ N) (hl:l.length ≤ 1000000):Q19 (Q2H N l rc vars) N (0,[]) = upR id (fun e=>(.inr (0,0,(⟨#[]⟩ : ByteArray),e):(Int × Int × ByteArray) ⊕ Say)) (allR (at_ rc vars) l []):=by
 refine row_loop0 (fun i acc x hx ha=>?_) (fun i acc hi=>?_) (by omega)
 ·have hlt:=(List.getElem?_eq_some_iff.1 hx).1
  unfold Q2H
  simp only
  rw [if_pos (by simpa using hlt),hx,Q6]
  unfold at_
  congr 1
  funext ⟨a,b,c,e⟩
  simp only
  rw [QC (by simp only [List.length_cons,List.length_nil]; omega),QC (by omega)]
 ·unfold Q2H
  simp only
  rw [if_neg (by simpa using hi)]
end Go.Proofs.YtbgodclhmgmcgaaGreatDoor
namespace Go.Proofs.YtbgodclhmgmcgaaGreatDoor
open Go Go.RowKit
theorem iter_two {σ τ ρ ρ' : Type} {f : σ → Option (σ ⊕ ρ)} {g : τ → Option (τ ⊕ ρ')} (R : σ → τ → Prop) (μ : σ → Nat) (Q : ρ → ρ' → Prop)
   (step : ∀ s t,R s t → (∃ s' t',f s = some (.inl s') ∧ g t = some (.inl t') ∧ R s' t' ∧ μ s' < μ s) ∨ (∃ r r',f s = some (.inr r) ∧ g t = some (.inr r') ∧ Q r r')) :
   ∀ (n:Nat) (s : σ) (t : τ),R s t → μ s < n → ∃ r r',Q19 f n s = some r ∧ Q19 g n t = some r' ∧ Q r r'
 | 0,_,_,_,h=>by omega
 | n + 1,s,t,hR,h=>by
   rcases step s t hR with ⟨s',t',h1,h2,h3,h4⟩ | ⟨r,r',h1,h2,h3⟩
   ·obtain ⟨r,r',h5,h6,h7⟩:=iter_two R μ Q step n s' t' h3 (by omega)
    exact ⟨r,r',by rw [Q2f h1]; exact h5,by rw [Q2f h2]; exact h6,h7⟩
   · exact ⟨r,r',Q1a h1,Q1a h2,h3⟩
end Go.Proofs.YtbgodclhmgmcgaaGreatDoor
namespace Go.Proofs.YtbgodclhmgmcgaaGreatDoor
open Go Go.RowKit
mutual
def Q7g:Qe → Nat
 | ⟨_,_,_,_,l⟩=>1 + Q3u l
def Q3u:List Qe → Nat
 | []=>0
 | e :: l=>Q7g e + Q3u l
end
theorem Q5Y (e:Qe):Q7g e = 1 + Q3u e.kids:=by cases e; simp [Q7g]
theorem nodesL_app : ∀ (a b:List Qe),Q3u (a ++ b) = Q3u a + Q3u b
 | [],b=>by simp [Q3u]
 | x :: a,b=>by simp only [List.cons_append,Q3u]; rw [nodesL_app a b]; omega
theorem Q6h {x:Qe} : ∀ {l:List Qe},x ∈ l → Q7g x ≤ Q3u l
 | y :: l,h=>by
   simp only [Q3u]
   rcases List.mem_cons.1 h with rfl | h
   · omega
   · have:=Q6h h; omega
theorem Q6g : ∀ (l:List Qe),l.length ≤ Q3u l
 | []=>by simp
 | x :: l=>by
   have:=Q6g l
   simp only [List.length_cons,Q3u,Q5Y]; omega
theorem nodesL_take {l:List Qe} {i:Nat} {x:Qe} (h:l[i]? = some x):Q3u (l.take (i + 1)) = Q3u (l.take i) + 1 + Q3u x.kids:=by
 rw [List.take_add_one,h,nodesL_app]
 simp [Q3u,Q5Y]; omega
theorem ok_kids {x:Qe} (h:ok_Api_ExprD x):x.kids.length ≤ 1759218604390 ∧ ∀ y ∈ x.kids,ok_Api_ExprD y:=by
 cases h with
 | mk _ _ _ _ _ h4 g4=>exact ⟨h4,g4⟩
theorem ok_val {x:Qe} (h:ok_Api_ExprD x):ok_V x.value:=by
 cases h with
 | mk _ _ h1 _ _ _ _=>exact h1
theorem exprsof_is : ∀ (m N:Nat) (l:List Qe) (most:Int),(∀ y ∈ l,ok_Api_ExprD y) → l.length ≤ 1759218604390 → 9223372036854775808 + m < N → -1 ≤ most → most + 1 ≤ m → most ≤ 1000000 →
   ∃ v,Q1q N l most = some v ∧ 0 ≤ v ∧ v ≤ most + 1 ∧ (v ≤ most → v = Q3u l):=by
 intro m
 induction m with
 | zero =>
   intro N l most hok hl hN h1 h2 h3
   obtain ⟨N,rfl⟩ : ∃ k,N = k + 1:=⟨N - 1,by omega⟩
   have hm:most = -1:=by omega
   subst hm
   show ∃ v,Q22 N (Q1q N) l (-1) = some v ∧ _
   unfold Q22
   obtain ⟨k,hk⟩ : ∃ k,N = k + 1:=⟨N - 1,by omega⟩
   have hs:Q1D N l (-1) (Q1q N) (0,0) = some (.inr 0):=by
    unfold Q1D
    by_cases h : 0 < l.length
    · simp only [h,decide_true,if_true]; rfl
    · simp only [h,decide_false,Bool.false_eq_true,if_false]; rfl
   have hi:Q19 (Q1D N l (-1) (Q1q N)) N (0,0) = some 0:=by
    have:=Q1a (n:=N - 1) hs
    rwa [show N - 1 + 1 = N by omega] at this
   rw [hi,Q6,QC (by omega)]
   exact ⟨_,rfl,by decide,by decide,fun h=>by exact absurd h (by decide)⟩
 | succ m ih =>
   intro N l most hok hl hN h1 h2 h3
   obtain ⟨N,rfl⟩ : ∃ k,N = k + 1:=⟨N - 1,by omega⟩
   show ∃ v,Q22 N (Q1q N) l most = some v ∧ _
   unfold Q22
   obtain ⟨o, e1, e2, e3, e4⟩ := Q5u (f := Q1D N l most (Q1q N)) (fun s => s.1 ≤ l.length ∧ 0 ≤ s.2 ∧ s.2 ≤ most + 1 ∧ (s.2 ≤ most → s.2 = Q3u (l.take s.1))) (fun s => l.length - s.1)
    (fun o=>0 ≤ o ∧ o ≤ most + 1 ∧ (o ≤ most → o = Q3u l)) (fun s hs=>by
     obtain ⟨i,c⟩:=s
     obtain ⟨g1,g2,g3,g4⟩:=hs
     simp only at g1 g2 g3 g4
     unfold Q1D
     simp only
     by_cases hlt:i < l.length
     ·have hx:=List.getElem?_eq_getElem hlt
      rw [if_pos (by simpa using hlt),Q6]
      by_cases hc:c ≤ most
      ·    rw [if_pos (by simpa using hc),QC (by omega),hx,Q6,QC (by omega),QC (by omega)]
           have hmem:=List.getElem_mem hlt
           obtain ⟨k1,k2⟩:=ok_kids (hok _ hmem)
           obtain ⟨v,v1,v2,v3,v4⟩:=ih N l[i].kids (most - c - 1) k2 k1 (by omega) (by omega) (by omega) (by omega)
           rw [v1,Q6,QC (by omega),QC (by omega)]
           left
           refine ⟨_,rfl,⟨by simp only; omega,by simp only; omega,by simp only; omega,fun hle=>?_⟩,by simp only; omega⟩
           simp only at hle ⊢
           rw [nodesL_take hx]
           have a1:=g4 hc
           have a2:=v4 (by omega)
           omega
      ·    rw [if_neg (by simpa using hc)]
           right
           exact ⟨c,rfl,g2,g3,fun h=>absurd h hc⟩
     ·rw [if_neg (by simpa using hlt),Q6,if_neg (by simp)]
      right
      refine ⟨c,rfl,g2,g3,fun h=>?_⟩
      have:=g4 h
      rwa [List.take_of_length_le (by omega)] at this) N (0,0) ⟨by simp,by simp,by simp only; omega,fun _=>by simp [Q3u]⟩ (by simp only; omega)
   rw [e1,Q6,QC (by omega)]
   refine ⟨_,rfl,?_,?_,?_⟩ <;> unfold minI
   · split <;> omega
   · split <;> omega
   ·intro h
    split at h
    · omega
    ·rename_i h5
     rw [if_neg h5]; exact e4 h
end Go.Proofs.YtbgodclhmgmcgaaGreatDoor
