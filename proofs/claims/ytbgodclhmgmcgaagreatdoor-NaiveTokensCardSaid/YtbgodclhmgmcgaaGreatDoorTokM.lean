import Derived.Test.YtbgodclhmgmcgaaGreatDoorNaivUD
import Derived.Test.YtbgodclhmgmcgaaGreatDoorNaivP
import Derived.KernelRfl
import Derived.Test.YtbgodclhmgmcgaaGreatDoorExprN
namespace Go.Proofs.YtbgodclhmgmcgaaGreatDoor
open Go Go.RowKit
theorem all_is {N:Nat} (hN : 9223372036854775808+2000000≤N) {types:List Q8} {rules:List Qf} {facts:List QP} (hr : ∀ r∈rules,LightC r.conds facts∧r.conds.length≤1000)(hf:facts.length≤1000)(hrl:rules.length≤1000) :
  Q8Q N types rules facts []=some (if sumR facts rules≤4096 then .inr (Qa8 facts rules 0) else .inl ()):=by
 have key : ∀ (m i fuel left:Nat) (out:List Ql),i + m = rules.length → m < fuel → left ≤ 4096 → out.length ≤ 4096 + i →
    out.length+left≤4096+i→Q1e (Q4S N rules facts) fuel (i,((left:Nat):Int),out)=some (if sumR facts (rules.drop i)≤left then .inl (out++Qa8 facts (rules.drop i) i) else .inr (.inl ())):=by
  intro m
  induction m with
  | zero =>
    intro i fuel left out hi hfu h1 h2 h3
    obtain ⟨fuel,rfl⟩ : ∃ q,fuel=q+1:=⟨fuel - 1,by omega⟩
    obtain rfl:i=rules.length:=by omega
    rw [Q1c (o:=.inl out) (by unfold Q4S;simp only;rw [if_neg (by simp)]),List.drop_length]
    simp [sumR,Qa8]
  | succ m ih =>
    intro i fuel left out hi hfu h1 h2 h3
    obtain ⟨fuel,rfl⟩ : ∃ q,fuel=q+1:=⟨fuel - 1,by omega⟩
    have h:i < rules.length:=by omega
    obtain ⟨hL,hcl⟩:=hr _ (List.getElem_mem h)
    obtain ⟨hn,hI⟩:=newE_is N rules[i].vars
    have hon:=on_is (okTells hL) hcl (by omega) rules[i].acts rules[i].name rules[i].salience rules[i].vars ((i:Nat):Int) rules[i].conds.length N 0 (newE rules[i].vars).1 (newE rules[i].vars).2 [] left out (by omega) (by omega) hI (by simp) (by omega)
    simp only [Nat.lt_irrefl,if_false,Nat.zero_add,List.drop_zero] at hon
    have hon2:Q35 N (newE rules[i].vars).1 (newE rules[i].vars).2 rules[i].name rules[i].salience rules[i].vars rules[i].conds rules[i].acts facts ([] : List Int) ((left:Nat):Int) out ((i:Nat):Int) 0=some (if costR facts rules[i]≤left then .inl (((left - costR facts rules[i] : Nat):Int),out++(goR facts rules[i]).map (tokOf ((i:Nat):Int))) else .inr ()):=hon
    rw [List.drop_eq_getElem_cons h,sumR,Qa8]
    have hg:=goR_len facts rules[i]
    by_cases hc:costR facts rules[i]≤left
    ·rw [if_pos hc] at hon2
     rw [Q2c (s':=(i+1,((left - costR facts rules[i] : Nat):Int),out++(goR facts rules[i]).map (tokOf ((i:Nat):Int)))) (by
      unfold Q4S
      simp only
      rw [if_pos (by simpa using h),List.getElem?_eq_getElem h,Q0,hn,Q0,hon2,Q0]
      simp only
      rw [Qr (by omega)]),ih (i+1) fuel (left - costR facts rules[i]) _ (by omega) (by omega) (by omega) (by simp;omega) (by simp;omega)]
     by_cases h4:sumR facts (rules.drop (i+1))≤left - costR facts rules[i]
     · rw [if_pos h4,if_pos (by omega),List.append_assoc]
     · rw [if_neg h4,if_neg (by omega)]
    ·rw [if_neg hc] at hon2
     rw [Q1c (o:=.inr (.inl ())) (by
      unfold Q4S
      simp only
      rw [if_pos (by simpa using h),List.getElem?_eq_getElem h,Q0,hn,Q0,hon2,Q0]),if_neg (by omega)]
 unfold Q8Q
 have hk:=key rules.length 0 N 4096 [] (by omega) (by omega) (by omega) (by simp) (by simp)
 rw [List.drop_zero,List.nil_append] at hk
 rw [show ((4096:Nat):Int)=(4096:Int) from rfl] at hk
 rw [hk]
 by_cases h4:sumR facts rules≤4096
 · rw [if_pos h4,if_pos h4,Q1b]
 · rw [if_neg h4,if_neg h4,Q1K]
theorem tokens_is {N:Nat} (hN : 9223372036854775808+2000000≤N) {types:List Q8} {rules:List Qf} {facts:List QP} (hr : ∀ r∈rules,LightQ r∧LightC r.conds facts)(hf:facts.length≤1000)(ha : ∀ f∈facts,f.args.length≤4398046510976) :
   Q8P N types rules facts=some (if rightT types rules facts=true then (if sumR facts rules≤4096 then (Qa8 facts rules 0,0) else ([],204)) else ([],2)):=by
 unfold Q8P rightT
 rw [rightRules_is (by omega) (fun r h=>lightR_of (hr r h).1),Q0]
 cases hR:Q79 types rules with
 | false=>rfl
 | true =>
   rw [if_neg (by simp),facts_is (by omega) (by omega) ha,Q0,Q0,Bool.true_and]
   cases hF:Q9v types 0 facts with
   | false=>rfl
   | true =>
     obtain ⟨h64,h8⟩:=Qe3 hR
     rw [if_neg (by simp),if_pos rfl,all_is hN (fun r h=>⟨(hr r h).2,by have:=h8 r h;omega⟩) hf (by omega),Q0]
     by_cases h4:sumR facts rules≤4096
     · rw [if_pos h4,if_pos h4]
     · rw [if_neg h4,if_neg h4]
theorem sameInts_is {N:Nat} (hN : 9223372036854775808≤N) {l m:List Int} (hl:l.length≤1000000):Q9M (Q4Y N l m) (l=m):=by
 unfold Q4Y
 refine Q9M.same hN (by omega) (fun hlen i x y hi hx hy=>⟨x==y,by simp,?_⟩) (fun i hi=>?_)
 ·unfold Q3O
  rw [if_pos (by simpa using hi),hx,Q0,hy,Q0]
  by_cases h:x=y
  · rw [if_neg (by simpa using h),if_pos (by simpa using h),Qr (by omega)]
  · rw [if_pos (by simpa using h),if_neg (by simpa using h)]
 ·unfold Q3O
  rw [if_neg (by simpa using hi)]
theorem sameTok_is {N:Nat} (hN : 9223372036854775808≤N) {a b:Int} {l m:List Int} (hl:l.length≤1000000):Q9M (Q4z N a l b m) (a=b∧l=m):=by
 unfold Q4z
 exact Q9M.and (sameInts_is hN hl).id (by simp)
theorem sameToks_is {N:Nat} (hN : 9223372036854775808≤N) {l m:List Ql} (hl:l.length≤1000000)(ht : ∀ t∈l,t.ids.length≤1000000):Q9M (Q49 N l m) (l=m):=by
 unfold Q49
 refine Q9M.same hN (by omega) (fun hlen i x y hi hx hy=>?_) (fun i hi=>?_)
 ·have hxm:x∈l:=List.mem_of_getElem? hx
  obtain ⟨b,h1,h2⟩:=sameTok_is (N:=N) hN (a:=x.rule) (b:=y.rule) (m:=y.ids) (ht x hxm)
  refine ⟨b,h2.trans ⟨fun h=>?_,fun h=>by rw [h];exact ⟨rfl,rfl⟩⟩,?_⟩
  · cases x;cases y;simp only at h;rw [h.1,h.2]
  ·unfold Q37
   rw [if_pos (by simpa using hi),hx,Q0,hy,Q0,h1,Q0]
   cases b with
   | true=>rw [if_neg (by simp),if_pos rfl,Qr (by omega)]
   | false=>rw [if_pos (by rfl),if_neg (by simp)]
 ·unfold Q37
  rw [if_neg (by simpa using hi)]
end Go.Proofs.YtbgodclhmgmcgaaGreatDoor
namespace Go.Proofs.YtbgodclhmgmcgaaGreatDoor
open Go Go.RowKit
section rows
variable {α β:Type} {s : α → β} {k:Int → β} {l:List α} {N:Nat}
def tlM (k:Int→β):List β:=(List.range 12).map fun i=>k ((i:Nat):Int)
def Q9x (s : α→β)(k:Int→β)(l:List α):List β:=l.map s++tlM k
theorem tlM_len:(tlM k).length=12:=by simp [tlM]
theorem Q8r:(Q9x s k l).length=l.length+12:=by simp [Q9x,tlM_len]
theorem map_at {t:List β} {i:Nat} (h:i < l.length):(l.map s++t)[i]? =some (s l[i]):=by rw [List.getElem?_append_left (by simpa using h)];simp [h]
theorem rowM_tail {i:Nat} (h:l.length≤i)(h2:i < l.length+12):(Q9x s k l)[i]? =some (k (((i:Nat):Int) - ((l.length:Nat):Int))):=by
 unfold Q9x
 rw [List.getElem?_append_right (by simpa using h),List.length_map]
 simp only [tlM]
 rw [List.getElem?_map,List.getElem?_range (by omega)]
 simp only [Option.map_some]
 congr 2;omega
theorem rowM_all:(Q9x s k l).take (l.length+12)=Q9x s k l:=List.take_of_length_le (by rw [Q8r];omega)
theorem Qd4 {t:List β}:(l.map s++t).take l.length=l.map s:=List.take_left' (by simp)
theorem Qbt {t:List β}:(l.map s++t).drop l.length=t:=List.drop_left' (by simp)
theorem Qbc {f:Nat×List β→Option ((Nat×List β)⊕List β)} {l0:List β} (hN : 100≤N)(h : ∀ i acc,i < 12→acc.length=l0.length+i→f (i,acc)=some (.inl (i+1,acc++[k ((i:Nat):Int)])))(he : ∀ acc,f (12,acc)=some (.inr acc)) :
 Q1e f N (0,l0)=some (l0++tlM k):=iter_push 12 (fun i=>k ((i:Nat):Int)) l0 (fun i hi=>h i _ hi (by simp)) (he _) (by omega)
theorem head_is {f:Nat×List β→Option ((Nat×List β)⊕List β)} (hN:l.length < N)(h : ∀ i acc (hi:i < l.length),acc.length=i→f (i,acc)=some (.inl (i+1,acc++[s l[i]])))(he : ∀ acc,f (l.length,acc)=some (.inr acc)) :
  Q1e f N (0,[])=some (l.map s):=by
 have : ∀ m i fuel,i+m=l.length→m < fuel→Q1e f fuel (i,(l.take i).map s)=some (l.map s):=by
  intro m
  induction m with
  | zero =>
    intro i fuel hi hf
    obtain ⟨fuel,rfl⟩ : ∃ q,fuel=q+1:=⟨fuel - 1,by omega⟩
    obtain rfl:i=l.length:=by omega
    rw [Q1c (he _),List.take_length]
  | succ m ih =>
    intro i fuel hi hf
    obtain ⟨fuel,rfl⟩ : ∃ q,fuel=q+1:=⟨fuel - 1,by omega⟩
    have hlt:i < l.length:=by omega
    rw [Q2c (h i _ hlt (by simp;omega)),← ih (i+1) fuel (by omega) (by omega),List.take_add_one,List.getElem?_eq_getElem hlt,List.map_append]
    rfl
 have h0:=this l.length 0 N (by omega) hN
 simpa using h0
def kD (l0:List β)(n:Nat)(mk:Int→Option Unit)(M : β→Int→Option Bool)(u:Nat):Option Bool :=
 if (decide (n≤u))=true then (
  Qa ((l0.take (n+12))[u]?) fun x=>
  gd (-9223372036854775808≤((u:Nat):Int) - ((n:Nat):Int)∧((u:Nat):Int) - ((n:Nat):Int)≤9223372036854775807) <|
  Qa (mk (((u:Nat):Int) - ((n:Nat):Int))) fun _=>
  Qa (M x (((u:Nat):Int) - ((n:Nat):Int))) fun v=>
  some (!v)
 ) else some false
def kC (l0:List β)(l2:List α)(E : β→α→Option Bool)(mk:Int→Option Unit)(M : β→Int→Option Bool)(u:Nat):Option Bool :=
 if (decide (u < l2.length))=true then (
  Qa ((l0.take (l2.length+12))[u]?) fun x=>
  Qa (l2[u]?) fun y=>
  Qa (E x y) fun v=>
  if (!v)=true then some true else kD l0 l2.length mk M u
 ) else kD l0 l2.length mk M u
def kK (N:Nat) (l0:List β) (k1:Nat) (l2:List α) (E : β → α → Option Bool) (mk:Int → Option Unit) (M : β → Int → Option Bool):Option Bool :=
 if (k1 != l2.length) = true then some false else (
  gd (l2.length+12≤9223372036854775807) <|
  gd (l2.length+12≤l0.length) <|
  Q1x (Q1e (fun u=>if (decide (u < ((l0.take (l2.length+12)).length)))=true then (
    Qa (kC l0 l2 E mk M u) fun j=>
    if j=true then some (.inr (.inr false)) else (
     gd (u+1≤9223372036854775807) <|
     some (.inl (u+1)))
   ) else some (.inr (.inl ()))) N 0:Option (Unit⊕Bool)) fun _=>some true)
theorem Q9Q {E : β→α→Option Bool} {mk:Int→Option Unit} {M : β→Int→Option Bool} (hl:l.length≤9223372036854770000)(hN : 9223372036854775808≤N)(hE : ∀ x∈l,E (s x) x=some true)(hk : ∀ z,mk z=some ())(hM : ∀ z,M (k z) z=some true) :
  kK N (Q9x s k l) l.length l E mk M=some true:=by
 unfold kK
 rw [if_neg (by simp),Qr (by omega),Qr (by rw [Q8r];omega),iter_look (l.length+12) (fun i hi=>by
  rw [rowM_all,if_pos (by rw [Q8r];simpa using hi)]
  unfold kC kD
  rw [rowM_all]
  by_cases h:i < l.length
  · rw [if_pos (by simpa using h),show (Q9x s k l)[i]? =some (s l[i]) from map_at h,Q0,List.getElem?_eq_getElem h,Q0,hE _ (List.getElem_mem h),Q0,if_neg (by simp),if_neg (by simp;omega),Q0,if_neg (by simp),Qr (by omega)]
  · rw [if_neg (by simpa using h),if_pos (by simp;omega),rowM_tail (by omega) hi,Q0,Qr (by omega),hk,Q0,hM,Q0,Q0,if_neg (by simp),Qr (by omega)])
  (by rw [rowM_all,if_neg (by rw [Q8r];simp)]) (by omega)]
 rfl
def sK (N:Nat) (l0:List β) (k1:Nat) (l2:List α) (E : β → α → Option Bool):Option Bool :=
 if (k1 != l2.length) = true then some false else (
  Q1x (Q1e (fun u=>if (decide (u < k1))=true then (
    gd (u < k1) <|
    Qa (l0[u]?) fun x=>
    Qa (l2[u]?) fun y=>
    Qa (E x y) fun v=>
    if (!v)=true then some (.inr (.inr false)) else (
     gd (u+1≤9223372036854775807) <|
     some (.inl (u+1)))
   ) else some (.inr (.inl ()))) N 0:Option (Unit⊕Bool)) fun _=>some true)
theorem QaC {t:List β} {E : β→α→Option Bool} (hl:l.length≤9223372036854770000)(hN : 9223372036854775808≤N)(hE : ∀ x∈l,E (s x) x=some true):sK N (l.map s++t) l.length l E=some true:=by
 unfold sK
 rw [if_neg (by simp),iter_look l.length (fun i hi=>by
  rw [if_pos (by simpa using hi),Qr hi,map_at hi,Q0,List.getElem?_eq_getElem hi,Q0,hE _ (List.getElem_mem hi),Q0,if_neg (by simp),Qr (by omega)])
  (by rw [if_neg (by simp)]) (by omega)]
 rfl
end rows
def mkd (z:Int):Int:=IntKind.wrap .i64 ((IntKind.wrap .i64 (1000003 * (IntKind.wrap .i64 (1+7))))+z)
section plain
variable {N:Nat}
def kV (z:Int):V:=⟨0,mkd z,(⟨#[]⟩ : ByteArray)⟩
def kA (z:Int):Q1n:=⟨0,mkd z,(⟨0,0,(⟨#[]⟩ : ByteArray)⟩ : V)⟩
def kT (z:Int):Q8:=⟨(⟨#[]⟩ : ByteArray),mkd z⟩
theorem LentValues_row {l:List V} (hl:l.length≤4398046510976)(hN : 9223372036854775808≤N):Q46 N l=some (l++tlM kV):=by
 unfold Q46
 rw [Qr (by omega),Qr (by omega),Qr (by simp;omega),Qbc (k:=kV) (by omega) (fun i acc hi ha=>by
  unfold Q36
  simp only
  rw [if_pos (by simpa using hi),show Q2j N 1 ((i:Nat):Int)=some () from rfl,Q0,Qr (by simp;omega),Qr (by omega)]
  rfl) (fun acc=>by unfold Q36;simp only;rw [if_neg (by simp)]),Q0,Qr (by simp)]
theorem LentArgs_row {l:List Q1n} (hl:l.length≤2932031007300)(hN : 9223372036854775808≤N):Q4V N l=some (l++tlM kA):=by
 unfold Q4V
 rw [Qr (by omega),Qr (by omega),Qr (by simp;omega),Qbc (k:=kA) (by omega) (fun i acc hi ha=>by
  unfold Q3K
  simp only
  rw [if_pos (by simpa using hi),show Q31 N 1 ((i:Nat):Int)=some () from rfl,Q0,Qr (by simp;omega),Qr (by omega)]
  rfl) (fun acc=>by unfold Q3K;simp only;rw [if_neg (by simp)]),Q0,Qr (by simp)]
theorem LentTypes_row {l:List Q8} (hl:l.length≤5864062014700)(hN : 9223372036854775808≤N):Q4y N l=some (l++tlM kT):=by
 unfold Q4y
 rw [Qr (by omega),Qr (by omega),Qr (by simp;omega),Qbc (k:=kT) (by omega) (fun i acc hi ha=>by
  unfold Q3r
  simp only
  rw [if_pos (by simpa using hi),show Q2G N 1 ((i:Nat):Int)=some () from rfl,Q0,Qr (by simp;omega),Qr (by omega)]
  rfl) (fun acc=>by unfold Q3r;simp only;rw [if_neg (by simp)]),Q0,Qr (by simp)]
theorem sameVals_row {l t:List V} (hl:l.length≤9223372036854770000)(hN : 9223372036854775808≤N):Q3t N (l++t) l.length l=some true:=by
 have:=QaC (s:=id) (l:=l) (t:=t) (N:=N) (E:=fun x y=>some (decide (x=y))) hl hN (fun x _=>by simp)
 rw [List.map_id] at this
 exact this
theorem sameArgs_row {l t:List Q1n} (hl:l.length≤9223372036854770000)(hN : 9223372036854775808≤N):Q48 N (l++t) l.length l=some true:=by
 have:=QaC (s:=id) (l:=l) (t:=t) (N:=N) (E:=fun x y=>some (decide (x=y))) hl hN (fun x _=>by simp)
 rw [List.map_id] at this
 exact this
theorem sameTypes_row {l t:List Q8} (hl:l.length≤9223372036854770000)(hN : 9223372036854775808≤N):Q5n N (l++t) l.length l=some true:=by
 have:=QaC (s:=id) (l:=l) (t:=t) (N:=N) (E:=fun x y=>some ((x.name.toList==y.name.toList) && (x.fields==y.fields))) hl hN (fun x _=>by simp)
 rw [List.map_id] at this
 exact this
theorem keptVals_row {l:List V} (hl:l.length≤9223372036854770000)(hN : 9223372036854775808≤N):Q4T N (l++tlM kV) l.length l=some true:=by
 have:=Q9Q (s:=id) (l:=l) (k:=kV) (N:=N) (E:=fun x y=>some (decide (x=y))) (mk:=Q2j N 1) (M:=fun x z=>some (decide (x=kV z))) hl hN (fun x _=>by simp) (fun _=>rfl) (fun z=>by simp)
 unfold Q9x at this
 rw [List.map_id] at this
 exact this
theorem keptArgs_row {l:List Q1n} (hl:l.length≤9223372036854770000)(hN : 9223372036854775808≤N):Q5S N (l++tlM kA) l.length l=some true:=by
 have:=Q9Q (s:=id) (l:=l) (k:=kA) (N:=N) (E:=fun x y=>some (decide (x=y))) (mk:=Q31 N 1) (M:=fun x z=>some (decide (x=kA z))) hl hN (fun x _=>by simp) (fun _=>rfl) (fun z=>by simp)
 unfold Q9x at this
 rw [List.map_id] at this
 exact this
theorem keptTypes_row {l:List Q8} (hl:l.length≤9223372036854770000)(hN : 9223372036854775808≤N):Q5l N (l++tlM kT) l.length l=some true:=by
 have:=Q9Q (s:=id) (l:=l) (k:=kT) (N:=N) (E:=fun x y=>some ((x.name.toList==y.name.toList) && (x.fields==y.fields))) (mk:=Q2G N 1) (M:=fun x z=>some ((x.name.toList==(⟨#[]⟩ : ByteArray).toList) && (x.fields==mkd z))) hl hN (fun x _=>by simp) (fun _=>rfl) (fun z=>by simp [kT])
 unfold Q9x at this
 rw [List.map_id] at this
 exact this
def sFt (f:QP):Q1u:=⟨f.id,f.ty,f.args,tlM kV⟩
def kFt (z:Int):Q1u:=⟨mkd z,0,[],[]⟩
theorem lentFacts_row {l:List QP} (hN : 9223372036854775808≤N)(hl:l.length≤1000)(ha : ∀ f∈l,f.args.length≤4398046510976):Q4w N l=some (Q9x sFt kFt l):=by
 unfold Q4w
 rw [Qr (by omega),Qr (by omega),head_is (s:=sFt) (l:=l) (by omega) (fun i acc hi hacc=>by
  unfold Q3p Q6K
  simp only
  have h1:=ha _ (List.getElem_mem hi)
  rw [if_pos (by simpa using hi),List.getElem?_eq_getElem hi,Q0,LentValues_row (by omega) (by omega),Q0,Q0,Qr (by simp),Qr (by simp;omega),Qr (by omega),List.take_left' rfl,List.drop_left' rfl]
  rfl) (fun acc=>by unfold Q3p;simp only;rw [if_neg (by simp)]),Q0,Qbc (k:=kFt) (by omega) (fun i acc hi hacc=>by
  unfold Q3q
  simp only
  simp at hacc
  rw [if_pos (by simpa using hi),show Q2E N 1 ((i:Nat):Int)=some () from rfl,Q0,Qr (by simp;omega),Qr (by omega)]
  rfl) (fun acc=>by unfold Q3q;simp only;rw [if_neg (by simp)]),Q0,Qr (by simp)]
 rfl
theorem keptFacts_row {l:List QP} (hN : 9223372036854775808≤N)(hl:l.length≤1000)(ha : ∀ f∈l,f.args.length≤4398046510976):Q5k N (Q9x sFt kFt l) l.length l=some true :=
 Q9Q (s:=sFt) (k:=kFt) (E:=fun x y=>Q2M N x.id x.ty (x.args++x.argsT) x.args.length y.id y.ty y.args) (mk:=Q2E N 1) (M:=fun x z=>Q1R N x.id x.ty (x.args++x.argsT) x.args.length (mkd z) 0 ([] : List V)) (by omega) hN (fun x hx=>by
  have h1:=ha _ hx
  show Q2M N x.id x.ty (x.args++tlM kV) x.args.length x.id x.ty x.args=some true
  unfold Q2M Q1R
  rw [if_pos (by simp),if_pos (by simp),sameVals_row (by omega) hN,Q0,Q0,if_pos rfl,keptVals_row (by omega) hN,Q0]) (fun _=>rfl) (fun z=>by
  unfold Q1R
  rw [if_pos (by simp [kFt]),if_pos (by simp [kFt]),show Q3t N ((kFt z).args++(kFt z).argsT) (kFt z).args.length []=some true from sameVals_row (l:=[]) (t:=[]) (by simp) hN,Q0])
theorem toFacts_row {l:List QP}:((Q9x sFt kFt l).map QaF).take l.length=l:=by
 unfold Q9x
 rw [List.map_append,List.map_map,show (QaF ∘ sFt)=id from rfl,List.map_id]
 exact List.take_left' rfl
end plain
end Go.Proofs.YtbgodclhmgmcgaaGreatDoor
