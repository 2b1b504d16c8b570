import Derived.Test.YtbgodclhmgmcgaaGreatDoorNaivP
import Derived.KernelRfl
namespace Go.Proofs.YtbgodclhmgmcgaaGreatDoor
open Go Go.RowKit
theorem aw_k:Q4v 9223372036854776808 = some true:=by kernel_rfl
def anyA:Q3B:=⟨1,0,⟨0,0,⟨#[]⟩⟩⟩
def cnd:QN:=⟨1,0,[anyA,anyA],⟨0,⟨0,0,⟨#[]⟩⟩,0,0,[]⟩⟩
def fct (i:Nat):QU:=⟨((i + 1:Nat):Int),0,[⟨1,((i:Nat):Int),⟨#[]⟩⟩,⟨1,0,⟨#[]⟩⟩]⟩
def tyP:List Qn:=[⟨⟨#[112]⟩,2⟩]
def rlR (n:Nat):List Qp:=[⟨⟨#[114]⟩,0,0,List.replicate n cnd,[]⟩]
theorem right_all:(List.range 131).all (fun k=>Q6g 9223372036854776808 tyP [] ((List.range k).map fct) == some true) = true:=by kernel_rfl
theorem right_k {k:Nat} (hk:k ≤ 130) (r:List Qp):Q6g 9223372036854776808 tyP r ((List.range k).map fct) = some true:=by
 have h:=List.all_eq_true.1 right_all k (List.mem_range.2 (by omega))
 exact eq_of_beq h
theorem rules_k:(List.range 5).all (fun n=>Q6e 9223372036854776808 tyP (rlR n) == some true) = true:=by kernel_rfl
theorem rules_n {n:Nat} (hn:n ≤ 4):Q6e 9223372036854776808 tyP (rlR n) = some true:=eq_of_beq (List.all_eq_true.1 rules_k n (List.mem_range.2 (by omega)))
theorem conds_is : ∀ {n:Nat},n < 4 → Q1M (Q2P 9223372036854776808 ((n:Nat):Int)) 9223372036854776808 (0,[]) = some (List.replicate (n + 1) cnd)
 | 0,_=>by kernel_rfl
 | 1,_=>by kernel_rfl
 | 2,_=>by kernel_rfl
 | 3,_=>by kernel_rfl
 | n + 4,h=>by omega
theorem facts_is {k:Nat} (hk:k < 130):Q1M (Q25 9223372036854776808 ((k:Nat):Int)) 9223372036854776808 (0,[]) = some ((List.range (k + 1)).map fct):=by
 have h:=iter_push (f:=Q25 9223372036854776808 ((k:Nat):Int)) (k + 1) fct [] (fun i hi=>by
  unfold Q25 Q2q
  simp only [List.nil_append]
  rw [if_pos (by simp; omega),Q3Z (by omega),Q1L,Q3Z (by simp; omega),Q3Z (by omega)]
  rfl) (by
  unfold Q25
  simp only [List.nil_append]
  rw [if_neg (by simp; omega)]) (N:=9223372036854776808) (by omega)
 simpa using h
def allT (k:Nat):Nat → Nat
 | 0=>0
 | n + 1=>k * (1 + allT k n)
theorem allT_add (k:Nat) : ∀ n,allT k (n + 1) = allT k n + k ^ (n + 1)
 | 0=>by simp [allT]
 | n + 1=>by
   have h1:=allT_add k n
   have h3:k * (1 + allT k (n + 1)) = k * (1 + allT k n) + k * k ^ (n + 1):=by rw [h1,← Nat.mul_add]; congr 1; omega
   show k * (1 + allT k (n + 1)) = allT k (n + 1) + k ^ (n + 1 + 1)
   rw [h3,Nat.pow_succ k (n + 1),Nat.mul_comm (k ^ (n + 1)) k]
   rfl
theorem pow_le {k:Nat} (hk:k ≤ 130) : ∀ i,i ≤ 5 → k ^ i ≤ 130 ^ 5:=fun i hi=>Nat.le_trans (Nat.pow_le_pow_left hk i) (Nat.pow_le_pow_right (by omega) hi)
theorem allT_le {k:Nat} (hk:k ≤ 130) : ∀ n,n ≤ 5 → allT k n ≤ n * 130 ^ 5
 | 0,_=>by simp [allT]
 | n + 1,h=>by
   rw [allT_add]
   have:=allT_le hk n (by omega)
   have:=pow_le hk (n + 1) h
   rw [Nat.succ_mul]; omega
theorem sums_is {n k:Nat} (hn:n < 4) (hk:k < 130):Q1M (Q26 9223372036854776808 ((n:Nat):Int) ((k:Nat):Int)) 9223372036854776808 (0,1,0) = some (((allT (k + 1) (n + 1):Nat):Int),(((k + 1) ^ (n + 1):Nat):Int)):=by
 obtain ⟨o, h1, h2⟩ := iter_inv (f := Q26 9223372036854776808 ((n : Nat) : Int) ((k : Nat) : Int)) (fun s => s.1 ≤ n + 1 ∧ s.2.1 = (((k + 1) ^ s.1 : Nat) : Int) ∧ s.2.2 = ((allT (k + 1) s.1 : Nat) : Int)) (fun s => n + 1 - s.1)
  (fun o=>o = (((allT (k + 1) (n + 1):Nat):Int),(((k + 1) ^ (n + 1):Nat):Int))) (fun s hs=>by
  obtain ⟨i,a,b⟩:=s
  obtain ⟨hi,ha,hb⟩:=hs
  simp only at hi ha hb
  subst ha; subst hb
  by_cases h:i < n + 1
  ·left
   have e1:(((k + 1) ^ i:Nat):Int) * (1 + ((k:Nat):Int)) = (((k + 1) ^ (i + 1):Nat):Int):=by
    rw [show (1 + ((k:Nat):Int)) = ((k + 1:Nat):Int) from by omega,← Int.natCast_mul,← Nat.pow_succ]
   have p1:=pow_le (k:=k + 1) (by omega) (i + 1) (by omega)
   have p2:=allT_le (k:=k + 1) (by omega) (i + 1) (by omega)
   have e2:((allT (k + 1) i:Nat):Int) + (((k + 1) ^ (i + 1):Nat):Int) = ((allT (k + 1) (i + 1):Nat):Int):=by rw [allT_add]; omega
   have b5:(130:Nat) ^ 5 = 37129300000:=by decide
   refine ⟨(i + 1,(((k + 1) ^ (i + 1):Nat):Int),((allT (k + 1) (i + 1):Nat):Int)),?_,⟨by simp only; omega,rfl,rfl⟩,by simp only; omega⟩
   unfold Q26
   simp only
   have p3:allT (k + 1) (i + 1) ≤ 5 * 37129300000:=by rw [b5] at p2; exact Nat.le_trans p2 (Nat.mul_le_mul_right _ (by omega))
   rw [b5] at p1
   rw [if_pos (by simp; omega),e1,Q3Z (by omega),e2,Q3Z (by omega),Q3Z (by omega)]
  ·right
   obtain rfl:i = n + 1:=by omega
   exact ⟨_,by unfold Q26; simp only; rw [if_neg (by simp; omega)],rfl⟩) 9223372036854776808 (0,1,0) ⟨Nat.zero_le _,by simp,by simp [allT]⟩ (by simp only; omega)
 rw [h1,h2]
def Q9o:Tells:=⟨fun _ hs vs _=>some (hs,vs),fun _ _=>false,fun _ _ _=>false⟩
theorem cost_n {facts:List QU} : ∀ n,Q3l Q9o facts (List.replicate n cnd) [] [] = allT facts.length n
 | 0=>rfl
 | n + 1=>by
   rw [List.replicate_succ,cost1 (by decide) (by decide)]
   have : ∀ l:List QU,(l.map (cosF Q9o facts cnd (List.replicate n cnd) [] [])).sum = l.length * (1 + allT facts.length n):=by
    intro l
    induction l with
    | nil=>simp
    | cons x l ih =>
      rw [List.map_cons,List.sum_cons,ih,List.length_cons,Nat.succ_mul,Nat.add_comm]
      congr 1
      unfold cosF Q9o
      simp only
      rw [← cost_n n]; rfl
   rw [this]; rfl
theorem go_n {facts:List QU} : ∀ n ids,(goN Q9o facts (List.replicate n cnd) [] [] ids).length = facts.length ^ n
 | 0,ids=>by simp [goN]
 | n + 1,ids=>by
   rw [List.replicate_succ,go1 (by decide) (by decide)]
   have : ∀ l:List QU,(l.flatMap (resF Q9o facts cnd (List.replicate n cnd) [] [] ids)).length = l.length * facts.length ^ n:=by
    intro l
    induction l with
    | nil=>simp
    | cons x l ih =>
      rw [List.flatMap_cons,List.length_append,ih,List.length_cons,Nat.succ_mul,Nat.add_comm]
      congr 1
      exact go_n n _
   rw [this,Nat.pow_succ,Nat.mul_comm]
theorem okPlain {n : Nat} {facts : List QU} (hf : ∀ f ∈ facts, ∃ i, f = fct i) : OkS Q9o (fun hs vs => hs = [] ∧ vs = []) (List.replicate n cnd) facts := {
 mt:=fun N hN c hc _ _ f hfm hs vs hI=>by
  obtain rfl:=List.eq_of_mem_replicate hc
  obtain ⟨i,rfl⟩:=hf f hfm
  obtain ⟨rfl,rfl⟩:=hI
  obtain ⟨M,rfl⟩ : ∃ q,N = q + 3:=⟨N - 3,by omega⟩
  refine ⟨[],[],?_,fun p hp=>⟨(Option.some.inj hp).symm,rfl,rfl⟩⟩
  kernel_rfl
 ev:=fun N hN c hc h3=>by
  obtain rfl:=List.eq_of_mem_replicate hc
  exact absurd h3 (by decide)
 sm:=fun N hN c hc h2=>by
  obtain rfl:=List.eq_of_mem_replicate hc
  exact absurd h2 (by decide)
 len:=fun hs vs hI=>by rw [hI.2]; simp }
theorem tokens_is {n k:Nat} (hn:n < 4) (hk:k < 130) : ∃ l,Q3U 9223372036854776808 tyP (rlR (n + 1)) ((List.range (k + 1)).map fct) = some (if allT (k + 1) (n + 1) ≤ 4096 then (l,0) else ([],204)) ∧ l.length = (k + 1) ^ (n + 1):=by
 have hlen:((List.range (k + 1)).map fct).length = k + 1:=by simp
 have hon:=on_is (okPlain (n:=n + 1) (facts:=(List.range (k + 1)).map fct) (fun f hf=>by
  obtain ⟨i,_,rfl⟩:=List.mem_map.1 hf
  exact ⟨i,rfl⟩)) (by simp; omega) (by simp; omega) [] ⟨#[114]⟩ 0 0 0 (n + 1) 9223372036854776808 0 [] [] [] 4096 [] (by simp) (by omega) ⟨rfl,rfl⟩ (by simp) (by simp)
 simp only [Nat.lt_irrefl,if_false,Nat.zero_add,List.drop_zero] at hon
 rw [cost_n,hlen] at hon
 have hon2:Q24 9223372036854776808 [] [] ⟨#[114]⟩ 0 0 (List.replicate (n + 1) cnd) [] ((List.range (k + 1)).map fct) ([] : List Int) 4096 [] ((0:Nat):Int) 0 = some (if allT (k + 1) (n + 1) ≤ 4096 then .inl (((4096 - allT (k + 1) (n + 1):Nat):Int),[] ++ (goN Q9o ((List.range (k + 1)).map fct) (List.replicate (n + 1) cnd) [] [] []).map (tokOf 0)) else .inr ()):=hon
 clear hon
 have hon:=hon2
 refine ⟨(goN Q9o ((List.range (k + 1)).map fct) (List.replicate (n + 1) cnd) [] [] []).map (tokOf 0),?_,by rw [List.length_map,go_n,hlen]⟩
 unfold Q3U
 rw [rules_n (by omega),Q1L]
 simp only [Bool.not_true,Bool.false_eq_true,if_false]
 rw [right_k (by omega),Q1L,Q1L]
 simp only [Bool.not_true,Bool.false_eq_true,if_false]
 unfold Q5j
 have hnew:Q77 9223372036854776808 0 = some ([],[]):=by kernel_rfl
 by_cases hle:allT (k + 1) (n + 1) ≤ 4096
 ·rw [if_pos hle] at hon ⊢
  have h1:Q1M (Q2o 9223372036854776808 (rlR (n + 1)) ((List.range (k + 1)).map fct)) 9223372036854776808 (0,4096,[]) = some (.inl ((goN Q9o ((List.range (k + 1)).map fct) (List.replicate (n + 1) cnd) [] [] []).map (tokOf 0))):=by
   rw [show (9223372036854776808:Nat) = 9223372036854776806 + 1 + 1 from rfl]
   rw [Qbp (s':=(1,((4096 - allT (k + 1) (n + 1):Nat):Int),(goN Q9o ((List.range (k + 1)).map fct) (List.replicate (n + 1) cnd) [] [] []).map (tokOf 0)))]
   ·rw [Qah (o:=.inl ((goN Q9o ((List.range (k + 1)).map fct) (List.replicate (n + 1) cnd) [] [] []).map (tokOf 0)))]
    unfold Q2o rlR
    simp
   ·unfold Q2o rlR
    simp only
    rw [if_pos (by simp),List.getElem?_cons_zero,Q1L]
    simp only
    rw [show (9223372036854776806 + 1 + 1:Nat) = 9223372036854776808 from rfl,hnew,Q1L]
    simp only
    rw [hon,Q1L]
    simp only
    rw [Q3Z (by omega)]
    simp
  rw [h1,Q9c,Q1L]
 ·rw [if_neg hle] at hon ⊢
  have h1:Q1M (Q2o 9223372036854776808 (rlR (n + 1)) ((List.range (k + 1)).map fct)) 9223372036854776808 (0,4096,[]) = some (.inr (.inl ())):=by
   rw [show (9223372036854776808:Nat) = 9223372036854776807 + 1 from rfl]
   rw [Qah (o:=.inr (.inl ()))]
   unfold Q2o rlR
   simp only
   rw [if_pos (by simp),List.getElem?_cons_zero,Q1L]
   simp only
   rw [show (9223372036854776807 + 1:Nat) = 9223372036854776808 from rfl,hnew,Q1L]
   simp only
   rw [hon,Q1L]
  rw [h1,Qad,Q1L]
theorem pick_is {N:Nat} {o k:Int} (hk : 0 < k) (hk2:k ≤ 1000) : ∃ v:Nat,Q3o N o k = some ((v:Nat):Int) ∧ ((v:Nat):Int) < k:=by
 unfold Q3o
 have h1:=Int.tmod_lt_of_pos o hk
 rw [if_neg (by simp; omega),Q3Z (by omega)]
 by_cases hm:Int.tmod o k < 0
 ·have h2 : -k < Int.tmod o k:=Int.lt_tmod_of_pos o hk
  rw [if_pos (by simpa using hm),Q3Z (by omega),Q1L]
  exact ⟨(Int.tmod o k + k).toNat,by rw [Int.toNat_of_nonneg (by omega)],by omega⟩
 ·rw [if_neg (by simpa using hm),Q1L]
  exact ⟨(Int.tmod o k).toNat,by rw [Int.toNat_of_nonneg (by omega)],by omega⟩
theorem naivmany_arg (a0:Int) (_ : -9223372036854775808 ≤ a0 ∧ a0 ≤ 9223372036854775807) (a1:Int) (_ : -9223372036854775808 ≤ a1 ∧ a1 ≤ 9223372036854775807):Q3k 9223372036854776808 a0 a1 = some true:=by
 obtain ⟨n,hn,hn2⟩:=pick_is (N:=9223372036854776808) (o:=a0) (k:=4) (by decide) (by decide)
 obtain ⟨k,hk,hk2⟩:=pick_is (N:=9223372036854776808) (o:=a1) (k:=130) (by decide) (by decide)
 have hn3:n < 4:=by omega
 have hk3:k < 130:=by omega
 unfold Q3k
 rw [aw_k,Q1L,if_neg (by simp),hn,Q1L,Q3Z (by omega),hk,Q1L,Q3Z (by omega)]
 rw [conds_is hn3,Q1L,facts_is hk3,Q1L,sums_is hn3 hk3,Q1L]
 obtain ⟨l,hl,hlen⟩:=tokens_is hn3 hk3
 unfold tyP rlR at hl
 simp only
 rw [hl,Q1L]
 rw [Q3Z (by simp),Q3Z (by simp)]
 by_cases hle:allT (k + 1) (n + 1) ≤ 4096
 · rw [if_pos hle,if_neg (by simp; omega),if_pos (by simp),hlen]; simp
 · rw [if_neg hle,if_pos (by simp; omega),if_pos (by simp)]; simp
end Go.Proofs.YtbgodclhmgmcgaaGreatDoor
