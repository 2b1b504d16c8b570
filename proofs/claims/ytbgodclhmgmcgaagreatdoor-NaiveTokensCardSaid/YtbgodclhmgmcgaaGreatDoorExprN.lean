import Derived.Test.YtbgodclhmgmcgaaGreatDoorExDoP
import Derived.Test.YtbgodclhmgmcgaaGreatDoorExTP
import Derived.Test.YtbgodclhmgmcgaaGreatDoorXM
namespace Go.Proofs.YtbgodclhmgmcgaaGreatDoor
open Go Go.RowKit
theorem wrap_in (x:Int):Q20 (IntKind.wrap .i64 x):=by
 have e:IntKind.wrap .i64 x=if (9223372036854775808:Int)≤x % 18446744073709551616 then x % 18446744073709551616 - 18446744073709551616 else x % 18446744073709551616:=by
  by_cases h:(9223372036854775808:Int)≤x % 18446744073709551616 <;> simp [IntKind.wrap,IntKind.bits,IntKind.signed,h]
 rw [e]
 unfold Q20
 split <;> omega
theorem Qe9 {N:Nat} {b:Bool} {v:Int} (h:Q1N N b=some v):Q20 v:=by
 unfold Q1N at h
 rw [Qa3,Q0] at h
 cases h
 unfold Q20
 split <;> omega
theorem prod_in {N:Nat} {a b n:Int} {c:Bool} (h:Q6y N a b=some (n,c)):Q20 n:=by
 unfold Q6y at h
 obtain ⟨x,_,h⟩:=Qy h
 obtain ⟨y,_,h⟩:=Qy h
 obtain ⟨_,h⟩:=gd_some h
 obtain ⟨_,h⟩:=gd_some h
 rcases Q19 h with ⟨_,h⟩ | ⟨_,h⟩ <;> rcases Q19 h with ⟨_,h⟩ | ⟨_,h⟩ <;> (cases h;exact wrap_in _)
theorem c7_in {N:Nat} {op:Int} {v w:V} {n:Int} {c:Bool} (h:Q12 N op v w=some (n,c)):Q20 n:=by
 unfold Q12 at h
 obtain ⟨x,_,h⟩:=Qy h
 rcases x with _ | _ | _ | _ | _ | _ | _ | _ | _ | _
 · obtain ⟨_,_,h⟩:=Qy h;cases h;exact wrap_in _
 · obtain ⟨_,_,h⟩:=Qy h;cases h;exact wrap_in _
 · obtain ⟨⟨a,b⟩,h1,h⟩:=Qy h;cases h;exact prod_in h1
 · obtain ⟨_,_,h⟩:=Qy h;cases h;exact wrap_in _
 · obtain ⟨a,h1,h⟩:=Qy h;cases h;obtain ⟨b,h2,h3⟩:=Qy h1;cases h3;exact Qe9 h2
 · obtain ⟨a,h1,h⟩:=Qy h;cases h;obtain ⟨b,h2,h3⟩:=Qy h1;cases h3;exact Qe9 h2
 ·obtain ⟨a,h1,h⟩:=Qy h;cases h
  rcases Q19 h1 with ⟨_,h1⟩ | ⟨_,h1⟩ <;> (obtain ⟨b,h2,h3⟩:=Qy h1;cases h3;exact Qe9 h2)
 ·obtain ⟨a,h1,h⟩:=Qy h;cases h
  rcases Q19 h1 with ⟨_,h1⟩ | ⟨_,h1⟩ <;> (obtain ⟨b,h2,h3⟩:=Qy h1;cases h3;exact Qe9 h2)
 · obtain ⟨a,h1,h⟩:=Qy h;cases h;obtain ⟨b,h2,h3⟩:=Qy h1;cases h3;exact Qe9 h2
 · cases h
theorem vtruth_in {N:Nat} {b:Bool} {v:Int} (h:Q7E N b=some v):Q20 v:=by
 rw [Qa3] at h;cases h;unfold Q20;split <;> omega
theorem do_res {N:Nat} {op:Int} {l:List V} {k:Nat} {n:Int} {e:Nat} (hN : 9223372036854775808≤N)(h:Q3S N op l=some (k,n,e)):(k=1∧e=0∧Q20 n)∨(k=0∧n=0∧e≠0):=by
 unfold Q3S at h
 obtain ⟨c1,_⟩:=c1_is N op
 rw [c1,Q0,bad_is,Q0] at h
 rcases Q19 h with ⟨_,h⟩ | ⟨hb,h⟩
 · cases h;exact .inr ⟨rfl,rfl,by decide⟩
 ·have hb:=of_decide_eq_false hb
  have hlen:l.length≤2:=by
   have:l.length=(if op=4∨op=11 then 1 else 2):=by omega
   rw [this];split <;> omega
  rcases loop_tot (N:=N) hN hlen with ⟨b,hlp⟩ | hlp
  ·rw [hlp,Q1b] at h
   obtain ⟨x,_,h⟩:=Qy h
   obtain ⟨_,h⟩:=gd_some h
   obtain ⟨_,h⟩:=gd_some h
   obtain ⟨y,_,h⟩:=Qy h
   rcases Q19 h with ⟨_,h⟩ | ⟨_,h⟩
   ·obtain ⟨t,h1,h⟩:=Qy h
    cases h;exact .inl ⟨rfl,rfl,vtruth_in h1⟩
   ·rcases Q19 h with ⟨_,h⟩ | ⟨_,h⟩
    ·obtain ⟨t,h1,h⟩:=Qy h
     cases h;exact .inl ⟨rfl,rfl,vtruth_in h1⟩
    ·rcases Q19 h with ⟨_,h⟩ | ⟨_,h⟩
     · cases h;exact .inr ⟨rfl,rfl,by decide⟩
     ·obtain ⟨⟨a,c⟩,h1,h⟩:=Qy h
      rcases Q19 h with ⟨_,h⟩ | ⟨_,h⟩
      · cases h;exact .inr ⟨rfl,rfl,by decide⟩
      ·obtain ⟨_,_,h⟩:=Qy h
       cases h;exact .inl ⟨rfl,rfl,c7_in h1⟩
  ·rw [hlp,Q1K] at h
   cases h;exact .inr ⟨rfl,rfl,by decide⟩
abbrev Say:=Int×Int×ByteArray×Nat
def allR (f:Q4→Option Say):List Q4→List V→Option (List V⊕Nat)
 | [],acc=>some (.inl acc)
 | x :: l,acc=>Qa (f x) fun (a,b,c,e)=>if (e !=0)=true then some (.inr e) else allR f l (acc++[⟨a,b,c⟩])
def upR {α β:Type} (g:List V→β)(k:Nat→α):Option (List V⊕Nat)→Option (β⊕α)
 | none=>none
 | some (.inl a)=>some (.inl (g a))
 | some (.inr e)=>some (.inr (k e))
theorem row_loop {O:Type} {F:(Nat×List V)→Option ((Nat×List V)⊕(List V⊕O))} {f:Q4→Option Say} {l:List Q4} {k:Nat→O}
   (hstep : ∀ i acc x,l[i]? =some x→acc.length=i→F (i,acc)=Qa (f x) fun (a,b,c,e)=>if (e !=0)=true then some (.inr (.inr (k e))) else some (.inl (i+1,acc++[⟨a,b,c⟩])))
   (hstop : ∀ i acc,l.length≤i→F (i,acc)=some (.inr (.inl acc))) :
   ∀ (m i n:Nat) (acc:List V),l.length - i=m→i≤l.length→acc.length=i→m < n→Q1e F n (i,acc)=upR id k (allR f (l.drop i) acc)
 | 0,i,n + 1,acc,hm,hi,ha,hn=>by
   have hle:l.length≤i:=by omega
   rw [Q1c (hstop i acc hle),List.drop_of_length_le hle];rfl
 | m + 1,i,n + 1,acc,hm,hi,ha,hn=>by
   have hlt:i < l.length:=by omega
   have hx:=List.getElem?_eq_getElem hlt
   have hd:l.drop i=l[i] :: l.drop (i+1):=List.drop_eq_getElem_cons hlt
   rw [hd]
   show Q1x (F (i,acc)) (Q1e F n)=_
   rw [hstep i acc _ hx ha]
   unfold allR
   cases hf:f l[i] with
   | none=>rfl
   | some r =>
     obtain ⟨a,b,c,e⟩:=r
     simp only [Q0]
     cases he:e !=0 with
     | true=>simp only [if_true];rfl
     | false =>
       simp only [Bool.false_eq_true,if_false,Q1b]
       exact row_loop hstep hstop m (i+1) n _ (by omega) (by omega) (by simp [ha]) (by omega)
theorem row_loop0 {O:Type} {F:(Nat×List V)→Option ((Nat×List V)⊕(List V⊕O))} {f:Q4→Option Say} {l:List Q4} {k:Nat→O} {n:Nat}
  (hstep : ∀ i acc x,l[i]? =some x→acc.length=i→F (i,acc)=Qa (f x) fun (a,b,c,e)=>if (e !=0)=true then some (.inr (.inr (k e))) else some (.inl (i+1,acc++[⟨a,b,c⟩])))
  (hstop : ∀ i acc,l.length≤i→F (i,acc)=some (.inr (.inl acc))) (hn:l.length < n):Q1e F n (0,[])=upR id k (allR f l []):=by
 have:=row_loop hstep hstop l.length 0 n [] (by omega) (by omega) rfl (by omega)
 simpa using this
def at_ (rc:Int→Int→Int→ByteArray→Int→Int→List Q4→List V→Option Say)(vars:List V)(x:Q4):Option Say:=rc x.kind x.value.k x.value.n x.value.s x.var x.op x.kids vars
theorem lrow {N:Nat} {l:List Q4} {vars:List V} {rc:Int→Int→Int→ByteArray→Int→Int→List Q4→List V→Option Say} (hN : 9223372036854775808≤N)(hl:l.length≤1000000):Q1e (Q71 N l rc vars) N (0,[])=upR id (fun e=>([],e)) (allR (at_ rc vars) l []):=by
 refine row_loop0 (fun i acc x hx ha=>?_) (fun i acc hi=>?_) (by omega)
 ·have hlt:=(List.getElem?_eq_some_iff.1 hx).1
  unfold Q71
  simp only
  rw [if_pos (by simpa using hlt),hx,Q0]
  unfold at_
  congr 1
  funext ⟨a,b,c,e⟩
  simp only
  rw [Qr (by simp only [List.length_cons,List.length_nil];omega),Qr (by omega)]
 ·unfold Q71
  simp only
  rw [if_neg (by simpa using hi)]
theorem lrowR {N:Nat} {l:List Q4} {vars:List V} {rc:Int→Int→Int→ByteArray→Int→Int→List Q4→List V→Option Say} (hN : 9223372036854775808≤N)(hl:l.length≤1000000):Q1e (Q3c N l rc vars) N (0,[])=upR id (fun e=>(.inr (0,0,(⟨#[]⟩ : ByteArray),e):(Int×Int×ByteArray)⊕Say)) (allR (at_ rc vars) l []):=by
 refine row_loop0 (fun i acc x hx ha=>?_) (fun i acc hi=>?_) (by omega)
 ·have hlt:=(List.getElem?_eq_some_iff.1 hx).1
  unfold Q3c
  simp only
  rw [if_pos (by simpa using hlt),hx,Q0]
  unfold at_
  congr 1
  funext ⟨a,b,c,e⟩
  simp only
  rw [Qr (by simp only [List.length_cons,List.length_nil];omega),Qr (by omega)]
 ·unfold Q3c
  simp only
  rw [if_neg (by simpa using hi)]
end Go.Proofs.YtbgodclhmgmcgaaGreatDoor
namespace Go.Proofs.YtbgodclhmgmcgaaGreatDoor
open Go Go.RowKit
theorem iter_push {β:Type} {f:Nat×List β→Option ((Nat×List β)⊕List β)} (n:Nat)(g:Nat→β)(l0:List β)
  (step : ∀ i,i < n→f (i,l0++(List.range i).map g)=some (.inl (i+1,l0++(List.range i).map g++[g i])))
  (stop:f (n,l0++(List.range n).map g)=some (.inr (l0++(List.range n).map g))) {N:Nat} (hN:n < N):Q1e f N (0,l0)=some (l0++(List.range n).map g):=by
 obtain ⟨o,h1,h2⟩:=Q7Q (f:=f) (fun s=>s.1≤n∧s.2=l0++(List.range s.1).map g) (fun s=>n - s.1) (fun o=>o=l0++(List.range n).map g) (fun s hs=>by
  obtain ⟨i,m⟩:=s
  obtain ⟨hi,hm⟩:=hs
  simp only at hi hm
  subst hm
  by_cases h:i < n
  ·left
   exact ⟨_,step i h,⟨by simp only;omega,by simp [List.range_succ]⟩,by simp only;omega⟩
  ·right
   obtain rfl:i=n:=by omega
   exact ⟨_,stop,rfl⟩) N (0,l0) ⟨Nat.zero_le _,by simp⟩ (by simp only;omega)
 rw [h1,h2]
theorem iter_look {ε:Type} {f:Nat→Option (Nat⊕(Unit⊕ε))} (n:Nat)(step : ∀ i,i < n→f i=some (.inl (i+1)))(stop:f n=some (.inr (.inl ()))) {N:Nat} (hN:n < N):Q1e f N 0=some (.inl ()):=by
 obtain ⟨o,h1,h2⟩:=Q7Q (f:=f) (fun i=>i≤n) (fun i=>n - i) (fun o=>o=.inl ()) (fun i hi=>by
  by_cases h:i < n
  · exact .inl ⟨_,step i h,by omega,by omega⟩
  ·obtain rfl:i=n:=by omega
   exact .inr ⟨_,stop,rfl⟩) N 0 (Nat.zero_le _) (by omega)
 rw [h1,h2]
end Go.Proofs.YtbgodclhmgmcgaaGreatDoor
namespace Go.Proofs.YtbgodclhmgmcgaaGreatDoor
open Go Go.RowKit
mutual
def Q8a:Q4→Nat
 | ⟨_,_,_,_,l⟩=>1+Q2r l
def Q2r:List Q4→Nat
 | []=>0
 | e :: l=>Q8a e+Q2r l
end
theorem Q56 (e:Q4):Q8a e=1+Q2r e.kids:=by cases e;simp [Q8a]
theorem nodesL_app : ∀ (a b:List Q4),Q2r (a++b)=Q2r a+Q2r b
 | [],b=>by simp [Q2r]
 | x :: a,b=>by simp only [List.cons_append,Q2r];rw [nodesL_app a b];omega
theorem Q55 {x:Q4} : ∀ {l:List Q4},x∈l→Q8a x≤Q2r l
 | y :: l,h=>by
   simp only [Q2r]
   rcases List.mem_cons.1 h with rfl | h
   · omega
   · have:=Q55 h;omega
theorem Q4o : ∀ (l:List Q4),l.length≤Q2r l
 | []=>by simp
 | x :: l=>by
   have:=Q4o l
   simp only [List.length_cons,Q2r,Q56];omega
theorem nodesL_take {l:List Q4} {i:Nat} {x:Q4} (h:l[i]? =some x):Q2r (l.take (i+1))=Q2r (l.take i)+1+Q2r x.kids:=by
 rw [List.take_add_one,h,nodesL_app]
 simp [Q2r,Q56];omega
theorem ok_kids {x:Q4} (h:ok_Api_ExprD x):x.kids.length≤1759218604390∧∀ y∈x.kids,ok_Api_ExprD y:=by
 cases h with
 | mk _ _ _ _ _ h4 g4=>exact ⟨h4,g4⟩
theorem ok_val {x:Q4} (h:ok_Api_ExprD x):ok_V x.value:=by
 cases h with
 | mk _ _ h1 _ _ _ _=>exact h1
theorem exprsof_is : ∀ (m N:Nat)(l:List Q4)(most:Int),(∀ y∈l,ok_Api_ExprD y)→l.length≤1759218604390→9223372036854775808+m < N→-1≤most→most+1≤m→most≤1000000→
   ∃ v,Q1C N l most=some v∧0≤v∧v≤most+1∧(v≤most→v=Q2r l):=by
 intro m
 induction m with
 | zero =>
   intro N l most hok hl hN h1 h2 h3
   obtain ⟨N,rfl⟩ : ∃ k,N=k+1:=⟨N - 1,by omega⟩
   have hm:most=-1:=by omega
   subst hm
   show ∃ v,Q2i N (Q1C N) l (-1)=some v∧_
   unfold Q2i
   obtain ⟨k,hk⟩ : ∃ k,N=k+1:=⟨N - 1,by omega⟩
   have hs:Q1Q N l (-1) (Q1C N) (0,0)=some (.inr 0):=by
    unfold Q1Q
    by_cases h : 0 < l.length
    · simp only [h,decide_true,if_true];rfl
    · simp only [h,decide_false,Bool.false_eq_true,if_false];rfl
   have hi:Q1e (Q1Q N l (-1) (Q1C N)) N (0,0)=some 0:=by
    have:=Q1c (n:=N - 1) hs
    rwa [show N - 1+1=N by omega] at this
   rw [hi,Q0,Qr (by omega)]
   exact ⟨_,rfl,by decide,by decide,fun h=>by exact absurd h (by decide)⟩
 | succ m ih =>
   intro N l most hok hl hN h1 h2 h3
   obtain ⟨N,rfl⟩ : ∃ k,N=k+1:=⟨N - 1,by omega⟩
   show ∃ v,Q2i N (Q1C N) l most=some v∧_
   unfold Q2i
   obtain ⟨o, e1, e2, e3, e4⟩ := Q7Q (f := Q1Q N l most (Q1C N)) (fun s => s.1 ≤ l.length ∧ 0 ≤ s.2 ∧ s.2 ≤ most + 1 ∧ (s.2 ≤ most → s.2 = Q2r (l.take s.1))) (fun s => l.length - s.1)
    (fun o=>0 ≤ o ∧ o ≤ most + 1 ∧ (o ≤ most → o = Q2r l)) (fun s hs=>by
     obtain ⟨i,c⟩:=s
     obtain ⟨g1,g2,g3,g4⟩:=hs
     simp only at g1 g2 g3 g4
     unfold Q1Q
     simp only
     by_cases hlt:i < l.length
     ·have hx:=List.getElem?_eq_getElem hlt
      rw [if_pos (by simpa using hlt),Q0]
      by_cases hc:c≤most
      ·    rw [if_pos (by simpa using hc),Qr (by omega),hx,Q0,Qr (by omega),Qr (by omega)]
           have hmem:=List.getElem_mem hlt
           obtain ⟨k1,k2⟩:=ok_kids (hok _ hmem)
           obtain ⟨v,v1,v2,v3,v4⟩:=ih N l[i].kids (most - c - 1) k2 k1 (by omega) (by omega) (by omega) (by omega)
           rw [v1,Q0,Qr (by omega),Qr (by omega)]
           left
           refine ⟨_,rfl,⟨by simp only;omega,by simp only;omega,by simp only;omega,fun hle=>?_⟩,by simp only;omega⟩
           simp only at hle ⊢
           rw [nodesL_take hx]
           have a1:=g4 hc
           have a2:=v4 (by omega)
           omega
      ·    rw [if_neg (by simpa using hc)]
           right
           exact ⟨c,rfl,g2,g3,fun h=>absurd h hc⟩
     ·rw [if_neg (by simpa using hlt),Q0,if_neg (by simp)]
      right
      refine ⟨c,rfl,g2,g3,fun h=>?_⟩
      have:=g4 h
      rwa [List.take_of_length_le (by omega)] at this) N (0,0) ⟨by simp,by simp,by simp only;omega,fun _=>by simp [Q2r]⟩ (by simp only;omega)
   rw [e1,Q0,Qr (by omega)]
   refine ⟨_,rfl,?_,?_,?_⟩ <;> unfold minI
   · split <;> omega
   · split <;> omega
   ·intro h
    split at h
    · omega
    ·rename_i h5
     rw [if_neg h5];exact e4 h
end Go.Proofs.YtbgodclhmgmcgaaGreatDoor
