import Derived.Test.YtbgodclhmgmcgaaGreatDoorNaivU
namespace Go.Proofs.YtbgodclhmgmcgaaGreatDoor
open Go Go.RowKit
def ownF (k:Int) (t:Qu):Option Qu:=if t.rule = k then some ⟨0,t.ids⟩ else none
theorem own_iter {N:Nat} {l:List Qu} {k:Int} (hl:l.length ≤ 1000000) : ∀ (m i fuel:Nat) (out:List Qu),i + m = l.length → m < fuel → out.length ≤ i →
   Q1g (Q1U N l k) fuel (i,out) = some (out ++ (l.drop i).filterMap (ownF k)):=by
 intro m
 induction m with
 | zero =>
   intro i fuel out hi hf _
   obtain ⟨fuel,rfl⟩ : ∃ q,fuel = q + 1:=⟨fuel - 1,by omega⟩
   obtain rfl:i = l.length:=by omega
   rw [Q2k (o:=out) (by unfold Q1U; simp only; rw [if_neg (by simp)]),List.drop_length]
   simp
 | succ m ih =>
   intro i fuel out hi hf ho
   obtain ⟨fuel,rfl⟩ : ∃ q,fuel = q + 1:=⟨fuel - 1,by omega⟩
   have h:i < l.length:=by omega
   rw [List.drop_eq_getElem_cons h,List.filterMap_cons]
   by_cases hb:l[i].rule = k
   ·rw [Q4s (s':=(i + 1,out ++ [⟨0,l[i].ids⟩])) (by
     unfold Q1U
     simp only
     rw [if_pos (by simpa using h),List.getElem?_eq_getElem h,Q7,if_pos (by simpa using hb),Q7,Q15 (by simp; omega),Q7,Q15 (by omega)]),ih (i + 1) fuel _ (by omega) (by omega) (by simp; omega)]
    have:ownF k l[i] = some ⟨0,l[i].ids⟩:=if_pos hb
    rw [this,List.append_assoc]; rfl
   ·rw [Q4s (s':=(i + 1,out)) (by
     unfold Q1U
     simp only
     rw [if_pos (by simpa using h),List.getElem?_eq_getElem h,Q7,if_neg (by simpa using hb),Q7,Q15 (by omega)]),ih (i + 1) fuel _ (by omega) (by omega) (by omega)]
    have:ownF k l[i] = none:=if_neg hb
    rw [this]
theorem own_none {facts:List QE} {l:List Qh} {i:Nat} {k:Nat} (h:k < i):(Q8D facts l i).filterMap (ownF ((k:Nat):Int)) = []:=by
 rw [List.filterMap_eq_nil_iff]
 intro t ht
 have:=flatR_rule ht
 exact if_neg (by omega)
theorem own_all {i:Nat} : ∀ x:List (List Int × List V),(x.map (Q85 ((i:Nat):Int))).filterMap (ownF ((i:Nat):Int)) = x.map (Q85 0)
 | []=>rfl
 | y :: x=>by
   rw [List.map_cons,List.filterMap_cons]
   have:ownF ((i:Nat):Int) (Q85 ((i:Nat):Int) y) = some (Q85 0 y):=if_pos rfl
   rw [this,own_all x]; rfl
theorem own_off {i k:Nat} (h:i ≠ k) (x:List (List Int × List V)):(x.map (Q85 ((i:Nat):Int))).filterMap (ownF ((k:Nat):Int)) = []:=by
 rw [List.filterMap_eq_nil_iff]
 intro t ht
 obtain ⟨y,_,rfl⟩:=List.mem_map.1 ht
 exact if_neg (by simp only [Q85]; omega)
theorem own_is {facts:List QE} : ∀ {l:List Qh} {i k:Nat} (hk:k < l.length),(Q8D facts l i).filterMap (ownF ((i + k:Nat):Int)) = (goR facts l[k]).map (Q85 0)
 | r :: l,i,0,_=>by
   rw [Q8D,List.filterMap_append,Nat.add_zero,own_all,own_none (by omega),List.append_nil]; rfl
 | r :: l,i,k + 1,h=>by
   rw [Q8D,List.filterMap_append,own_off (by omega),List.nil_append]
   have:=own_is (facts:=facts) (l:=l) (i:=i + 1) (k:=k) (by simpa using h)
   rw [show i + (k + 1) = i + 1 + k from by omega,this]; rfl
theorem naivrules_arg (R:Q7V) (hR:QaD R) (l:List QE) (hl:l.length ≤ 140737488351232 ∧ ∀ y ∈ l,ok_FactD y) (k:Int) (_:inK .i64 k):Q2L 9223372036860000000 R.types R.rules l k = some true:=by
 have hN : 9223372036854775808 + 2000000 ≤ NF:=by decide
 show Q2L NF R.types R.rules l k = some true
 unfold Q2L
 rw [aw_f,Q7,if_neg (by simp)]
 obtain ⟨b,hb,hL⟩:=light_is (N:=NF) (by omega) hR hl.1
 rw [hb,Q7]
 cases b with
 | false=>rfl
 | true =>
   obtain ⟨hq,h40⟩:=hL rfl
   have hall : ∀ r ∈ R.rules,LightQ r ∧ LightC r.conds l:=fun r hr=>⟨hq r hr,lightC_of (hq r hr) (hR.2.2 r hr) h40 hl.2⟩
   have hargs : ∀ f ∈ l,f.args.length ≤ 4398046510976:=fun f hf=>(hl.2 f hf).2.2.1
   rw [if_neg (by simp),Q7]
   by_cases h0:R.rules.length = 0
   · rw [if_pos (by simpa using h0)]
   ·rw [if_neg (by simpa using h0),tokens_is hN hall (by omega) hargs,Q7]
    by_cases hT:rightT R.types R.rules l = true
    ·rw [if_pos hT]
     have hT2:=hT
     unfold rightT at hT2
     simp only [Bool.and_eq_true] at hT2
     obtain ⟨hr1,hr2⟩:=hT2
     obtain ⟨h64,h8⟩:=right_conds hr1
     by_cases hs:sumR l R.rules ≤ 4096
     ·rw [if_pos hs]
      simp only
      rw [if_neg (by simp)]
      obtain ⟨v,hv,hvk⟩:=pick_is (N:=NF) (o:=k) (k:=((R.rules.length:Nat):Int)) (by omega) (by omega)
      have hvl:v < R.rules.length:=by omega
      have hmem:=List.getElem_mem hvl
      rw [hv,Q7,Q15 (by omega),Int.toNat_natCast,List.getElem?_eq_getElem hvl,Q7]
      have h1:=tokens_is (N:=NF) hN (types:=R.types) (rules:=[R.rules[v]]) (facts:=l) (fun r hr=>by rw [List.mem_singleton.1 hr]; exact hall _ hmem) (by omega) hargs
      have hr3:rightT R.types [R.rules[v]] l = true:=by unfold rightT; rw [right_one hvl hr1,hr2]; rfl
      have hs1:sumR l [R.rules[v]] ≤ 4096:=by have:=sumR_mem (facts:=l) hmem; simp only [sumR]; omega
      rw [if_pos hr3,if_pos hs1] at h1
      rw [h1,Q7]
      simp only
      have hlen:=flatR_len l R.rules 0
      rw [own_iter (by omega) (Q8D l R.rules 0).length 0 NF [] (by omega) (by omega) (by simp),Q7,List.drop_zero,List.nil_append]
      have ho:=own_is (facts:=l) (i:=0) hvl
      rw [Nat.zero_add] at ho
      rw [ho,if_pos (by rfl)]
      have e1:Q8D l [R.rules[v]] 0 = (goR l R.rules[v]).map (Q85 0):=by simp [Q8D]
      rw [e1]
      have hg:=goR_len l R.rules[v]
      have hc:=sumR_mem (facts:=l) hmem
      rw [(sameToks_is (N:=NF) (by omega) (by simp; omega) (fun t ht=>by
       obtain ⟨x,hx,rfl⟩:=List.mem_map.1 ht
       have:=(goN_ids hx).1
       have:=h8 _ hmem
       simp [Q85] at *
       omega)).eq_true rfl,Q7]
     · rw [if_neg hs]; rfl
    · rw [if_neg hT]; rfl
end Go.Proofs.YtbgodclhmgmcgaaGreatDoor
