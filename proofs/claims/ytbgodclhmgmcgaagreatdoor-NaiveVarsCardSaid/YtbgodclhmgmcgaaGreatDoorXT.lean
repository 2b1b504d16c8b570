import Derived.Test.YtbgodclhmgmcgaaGreatDoorProg
import Derived.Laws.BytesArg
import Derived.Laws.BytesString
import Derived.Laws.IdiomStrings
import Derived.Lib.LaidTab
import Derived.Lib.ItoaNum
import Derived.LaidSub
import Derived.Lib.AppendZeros
import Derived.Test.YtbgodclhmgmcgaaGreatDoorOpenA
import Derived.Test.YtbgodclhmgmcgaaGreatDoorTree
import Derived.Test.YtbgodclhmgmcgaaGreatDoorEq
namespace Go.Proofs.YtbgodclhmgmcgaaGreatDoor
open Go Go.RowKit Go.Deep
section
variable {α Λ:Type} (C : α → Option Addr × Nat → List Value) (kids : α → List α) (sz:Nat) (one : ∀ x r,∀ u ∈ C x r,u.oneCell' = true)
def recN:Nat → Rep α
 | 0=>⟨fun _ _ _ _=>False,fun _ _ h=>h,fun h=>h.elim⟩
 | n + 1=>Q7L C (fun x r=>[.sli sz (recN n) r.1 r.2 (kids x)]) one
def recR:Rep α:=⟨fun F w cs x=>∃ n,(recN C kids sz one n).p F w cs x,fun hF ha ⟨n,h⟩=>⟨n,(recN C kids sz one n).good hF ha h⟩,fun ⟨n,h⟩=>(recN C kids sz one n).one h⟩
end
section
variable {α:Type} {C : α → Option Addr × Nat → List Value} {kids : α → List α} {sz:Nat} {one : ∀ x r,∀ u ∈ C x r,u.oneCell' = true}
theorem recN_mono : ∀ {n m:Nat} {F:Q2b} {w:World} {cs:List Value} {x : α},n ≤ m → (recN C kids sz one n).p F w cs x → (recN C kids sz one m).p F w cs x
 | 0,_,_,_,_,_,_,h=>h.elim
 | n + 1,0,_,_,_,_,hm,_=>by omega
 | n + 1,m + 1,F,w,cs,x,hm,⟨r,h1,h2⟩=>⟨r,h1,fun φ hφ=>by
     simp only [List.mem_cons,List.not_mem_nil,or_false] at hφ
     subst hφ
     exact sli_rel (R:=recN C kids sz one n) (h2 _ (List.mem_cons_self)) (fun cs x hr=>recN_mono (by omega) hr)⟩
theorem rec_opens:Q6T (recR C kids sz one) C (fun _ _=>True) (fun x r=>[.sli sz (recR C kids sz one) r.1 r.2 (kids x)]):=fun F w cs x ⟨n,h⟩=>by
 cases n with
 | zero=>exact h.elim
 | succ n =>
   obtain ⟨r,h1,h2⟩:=h
   exact ⟨r,h1,trivial,Q1j (sli_rel (R:=recN C kids sz one n) (h2 _ (List.mem_cons_self)) (fun cs x hr=>⟨n,hr⟩)) Q1n⟩
theorem chunks_rec {F:Q2b} {w:World} : ∀ {l:List α} {ys:List Value},Q1C sz ((recR C kids sz one).p F w) ys l → ∃ n,Q1C sz ((recN C kids sz one n).p F w) ys l
 | [],ys,h=>⟨0,h⟩
 | x :: l,ys,⟨cs,rest,e1,e2,⟨n,e3⟩,e4⟩=>by
   obtain ⟨m,hm⟩:=chunks_rec e4
   exact ⟨max n m,cs,rest,e1,e2,recN_mono (Nat.le_max_left _ _) e3,hm.mono fun cs x _ hr=>recN_mono (Nat.le_max_right _ _) hr⟩
theorem rec_shut {F:Q2b} {w:World} {x : α} {cs:List Value} (r:Option Addr × Nat) (hcs:cs = C x r) (h : ∀ φ ∈ ([.sli sz (recR C kids sz one) r.1 r.2 (kids x)] : List Fact),φ.p F w):(recR C kids sz one).p F w cs x:=by
 obtain ⟨p,n,c,xs,hv,hn,hc,hm,hx,hrow⟩:=(h (.sli sz (recR C kids sz one) r.1 r.2 (kids x)) List.mem_cons_self:Sli F w sz ((recR C kids sz one).p F w) (.slice r.1 (kids x).length r.2) (kids x))
 obtain ⟨m,hx⟩:=chunks_rec hx
 exact ⟨m + 1,r,hcs,Q1j (⟨p,n,c,xs,hv,hn,hc,hm,hx,hrow⟩ : Sli F w sz ((recN C kids sz one m).p F w) (.slice r.1 (kids x).length r.2) (kids x)) Q1n⟩
end
section
variable {H:Type} {enc:TypeId × Value → H} {P:Program} {w:World} {base:Nat} {spare:Nat → Bool} {held:Bool} {fuel:Nat} {cs:List Value} {y:DataW H × List MemPlace}
theorem trod_fieldsN {t:TypeId} {fs:Array Field} (ht:P.underlying t = some (.struct fs)) (h:DataW.trod enc P w base spare held fuel t cs = some y) (hw:Q2U P t y.1) :
  ∃ n,fuel = n + 1 ∧ cs.length = P.cellsOf t ∧ ∀ (i:Nat) (f:Field),fs[i]? = some f → ∃ z,DataW.trod enc P w base spare held n f.type ((cs.drop f.offset).take (P.cellsOf f.type)) = some z ∧ Q2U P f.type z.1:=by
 obtain ⟨xs,n,hn,rfl,hl,hlen,hf⟩:=DataW.trod_struct ht h
 refine ⟨n,hn,hl,fun i f hi=>?_⟩
 have hlt:i < xs.length:=by rw [hlen]; exact (Array.getElem?_eq_some_iff.1 hi).1
 refine ⟨xs[i],by have:=hf i f hi; simpa [List.getElem?_eq_getElem hlt] using this,fun k hk=>hw k ?_⟩
 simp only [DataW.weights,ht]
 refine DataW.weights_mem_each (j:=i) (t:=f.type) (d:=xs[i].1) ?_ ?_ k hk
 · rw [List.getElem?_map,Array.getElem?_toList,hi]; rfl
 · rw [List.getElem?_map,List.getElem?_eq_getElem hlt]; rfl
theorem open_sliR {α:Type} {t e sz:Nat} {R:List Value → α → Prop} (ht:P.underlying t = some (.slice e)) (hC:P.cellsOf e = sz) (hz : 0 < sz)
  (hel : ∀ n,n < fuel → ∀ cs y,DataW.trod enc P w base spare held n e cs = some y → Q2U P e y.1 → ∃ a,R cs a) (h:DataW.trod enc P w base spare held fuel t cs = some y) (hw:Q2U P t y.1) :
  ∃ v l,cs = [v] ∧ Sli (fun k=>k < w.heap.size) w sz R v l ∧ l.length * P.bytesOf e ≤ reachBytes:=by
 rcases DataW.trod_slice ht h with ⟨rfl,_⟩ | ⟨a,len,cap,elems,rest,n,hfu,rfl,rfl,hb,hl,hm,hlen,hi,_,_⟩
 · exact ⟨_,[],rfl,Sli.nil,by simp⟩
 ·subst hC
  have hD : ∀ d ∈ elems,Q2U P e d.1:=fun d hd k hk=>hw k (by
   simp only [DataW.weights,ht,List.mem_cons,List.mem_append]
   exact .inr (.inl (Q8q (d:=d.1) (List.mem_map.2 ⟨d,hd,rfl⟩) hk)))
  have hsz:len * P.bytesOf e ≤ reachBytes:=by
   have:=hw _ (by simp only [DataW.weights,ht]; exact List.mem_cons_self)
   simp only [List.length_map] at this
   exact Nat.le_trans (Nat.mul_le_mul_right _ (by omega)) this
  have key : ∀ k,k ≤ len → ∃ xs l,l.length = k ∧ Q1C (P.cellsOf e) R xs l ∧ ∀ j u,xs[j]? = some u → w.cell? (a.add j) = some u:=by
   intro k
   induction k with
   | zero=>intro _; exact ⟨[],[],rfl,rfl,by simp⟩
   | succ k ih =>
     intro hk
     obtain ⟨xs,l,hl',hx,hc⟩:=ih (by omega)
     have hki:=hi k (by omega)
     rw [List.getElem?_eq_getElem (by omega:k < elems.length)] at hki
     obtain ⟨cs',h1,h2⟩:=Option.bind_eq_some_iff.1 hki
     obtain ⟨_,hlen2,hat⟩:=World.cells?_some h1
     obtain ⟨y,hy⟩:=hel n (by omega) _ _ h2 (hD _ (List.getElem_mem _))
     refine ⟨xs ++ cs',l ++ [y],by simp [hl'],hx.append (Q1C.one hy hlen2),fun j u hj=>?_⟩
     have hxl:=hx.length
     rw [hl'] at hxl
     by_cases hjl:j < xs.length
     · rw [List.getElem?_append_left hjl] at hj; exact hc j u hj
     ·rw [List.getElem?_append_right (by omega)] at hj
      have h3:=(List.getElem?_eq_some_iff.1 hj).1
      have:=hat (j - xs.length) (by omega)
      rw [hj,Go.Deep.add_add] at this
      rw [← this]; congr 2; omega
  obtain ⟨xs,l,hl',hx,hc⟩:=key len (Nat.le_refl _)
  refine ⟨_,l,rfl,⟨some a,len,cap,xs,rfl,hl'.symm,hl,hm,hx,fun h0=>?_⟩,by rw [hl']; exact hsz⟩
  have h1 : 0 < xs.length:=by rw [hx.length,hl']; exact Nat.mul_pos h0 hz
  have h2:=hc 0 _ (List.getElem?_eq_getElem h1)
  have h3:a.add 0 = a:=rfl
  rw [h3] at h2
  have hsp:a = ⟨a.block,a.off,none⟩:=by
   rcases a with ⟨b,o,s⟩
   cases s with
   | none=>rfl
   | some s =>
     exfalso
     simp only [World.cell?] at h2
     split at h2 <;> simp at h2
  have hlt:=World.block_lt_of_cell? w a h2
  refine ⟨a.block,a.off,by rw [← hsp],hlt,fun j u hj=>?_⟩
  have:=hc j u hj
  rw [hsp,Q4v] at this
  exact this
theorem open_listR {α:Type} {t e sz:Nat} {R:Rep α} {q : α → Prop} (ht:P.underlying t = some (.slice e)) (hC:P.cellsOf e = sz) (hz : 0 < sz)
  (hel : ∀ n,n < fuel → ∀ cs y,DataW.trod enc P w base spare held n e cs = some y → Q2U P e y.1 → ∃ a,R.p (fun k=>k < w.heap.size) w cs a ∧ q a) {us:List Value} (h:DataW.trod enc P w base spare held fuel t us = some y) (hw:Q2U P t y.1) :
  ∃ (p:Option Addr) (c:Nat) (l:List α),us = [.slice p l.length c] ∧ (Fact.sli sz R p c l).p (fun k=>k < w.heap.size) w ∧ l.length * P.bytesOf e ≤ reachBytes ∧ ∀ x ∈ l,q x:=by
 obtain ⟨v,l,e1,hs,hsz⟩:=open_sliR (R:=fun cs x=>R.p (fun k=>k < w.heap.size) w cs x ∧ q x) ht hC hz hel h hw
 subst e1
 obtain ⟨p,n,c,xs,e2,hn,hc,hm,hch,hrow⟩:=hs
 subst hn; subst e2
 obtain ⟨h1,h2⟩:=Q1C.pure hch
 exact ⟨p,c,l,rfl,⟨p,l.length,c,xs,rfl,rfl,hc,hm,h1,hrow⟩,hsz,h2⟩
end
end Go.Proofs.YtbgodclhmgmcgaaGreatDoor
namespace Go.Proofs.YtbgodclhmgmcgaaGreatDoor
open Go.RowKit
structure Qg where
 name:ByteArray
 fields:Int
def Qae (x:Qg) (_:Unit):List Value:=[.string x.name,.int .i64 x.fields]
def F_Api_TypeD (_:Qg) (_:Unit):List Fact:=[]
def Qh:Rep Qg:=Q7L Qae F_Api_TypeD (by intro x r u hu; simp [Qae] at hu; rcases hu with rfl | rfl <;> rfl)
theorem Q2A:Q6T Qh Qae (fun _ _=>True) F_Api_TypeD:=Q4e
structure Qe where
 kind:Int
 value:V
 var:Int
 op:Int
 kids:List Qe
structure QE where
 kind:Int
 type:Int
 args:List Q3S
 test:Qe
structure Q20 where
 kind:Int
 type:Int
 which:Int
 exprs:List Qe
structure Qj where
 name:ByteArray
 salience:Int
 vars:Int
 conds:List QE
 acts:List Q20
def C_ArgD (x:Q3S) (_:Unit):List Value:=[.int .u8 x.k,.int .i64 x.var,.int .u8 x.v.k,.int .i64 x.v.n,.string x.v.s]
def F_ArgD (_:Q3S) (_:Unit):List Fact:=[]
def Q2w:Rep Q3S:=Q7L C_ArgD F_ArgD (by intro x r u hu; simp [C_ArgD] at hu; rcases hu with rfl | rfl | rfl | rfl | rfl <;> rfl)
theorem Q89:Q6T Q2w C_ArgD (fun _ _=>True) F_ArgD:=Q4e
def Q8P (x:Qe) (r:Option Addr × Nat):List Value:=[.int .u8 x.kind,.int .u8 x.value.k,.int .i64 x.value.n,.string x.value.s,.int .i64 x.var,.int .u8 x.op,.slice r.1 x.kids.length r.2]
def Qs:Rep Qe:=recR Q8P (fun x=>x.kids) 7 (by intro x r u hu; simp [Q8P] at hu; rcases hu with rfl | rfl | rfl | rfl | rfl | rfl | rfl <;> rfl)
def F_Api_ExprD (x:Qe) (r:Option Addr × Nat):List Fact:=[.sli 7 Qs r.1 r.2 x.kids]
theorem Q30:Q6T Qs Q8P (fun _ _=>True) F_Api_ExprD:=rec_opens
def Qac (x:QE) (r:(Option Addr × Nat) × (Option Addr × Nat)):List Value:=[.int .u8 x.kind,.int .i64 x.type,.slice r.1.1 x.args.length r.1.2,.int .u8 x.test.kind,.int .u8 x.test.value.k,.int .i64 x.test.value.n,.string x.test.value.s,.int .i64 x.test.var,.int .u8 x.test.op,.slice r.2.1 x.test.kids.length r.2.2]
def F_Api_CondD (x:QE) (r:(Option Addr × Nat) × (Option Addr × Nat)):List Fact:=[.sli 5 Q2w r.1.1 r.1.2 x.args,.sli 7 Qs r.2.1 r.2.2 x.test.kids]
def Q11:Rep QE:=Q7L Qac F_Api_CondD (by intro x r u hu; simp [Qac] at hu; rcases hu with rfl | rfl | rfl | rfl | rfl | rfl | rfl | rfl | rfl | rfl <;> rfl)
theorem Q3v:Q6T Q11 Qac (fun _ _=>True) F_Api_CondD:=Q4e
def C_Api_ActD (x:Q20) (r:Option Addr × Nat):List Value:=[.int .u8 x.kind,.int .i64 x.type,.int .i64 x.which,.slice r.1 x.exprs.length r.2]
def F_Api_ActD (x:Q20) (r:Option Addr × Nat):List Fact:=[.sli 7 Qs r.1 r.2 x.exprs]
def Q1c:Rep Q20:=Q7L C_Api_ActD F_Api_ActD (by intro x r u hu; simp [C_Api_ActD] at hu; rcases hu with rfl | rfl | rfl | rfl <;> rfl)
theorem Q7w:Q6T Q1c C_Api_ActD (fun _ _=>True) F_Api_ActD:=Q4e
def Qad (x:Qj) (r:(Option Addr × Nat) × (Option Addr × Nat)):List Value:=[.string x.name,.int .i64 x.salience,.int .i64 x.vars,.slice r.1.1 x.conds.length r.1.2,.slice r.2.1 x.acts.length r.2.2]
def F_Api_RuleD (x:Qj) (r:(Option Addr × Nat) × (Option Addr × Nat)):List Fact:=[.sli 10 Q11 r.1.1 r.1.2 x.conds,.sli 4 Q1c r.2.1 r.2.2 x.acts]
def Qi:Rep Qj:=Q7L Qad F_Api_RuleD (by intro x r u hu; simp [Qad] at hu; rcases hu with rfl | rfl | rfl | rfl | rfl <;> rfl)
theorem Q28:Q6T Qi Qad (fun _ _=>True) F_Api_RuleD:=Q4e
def Q85 (x:Int) (_:Unit):List Value:=[.int .i64 x]
def F_i64 (_:Int) (_:Unit):List Fact:=[]
def Q2v:Rep Int:=Q7L Q85 F_i64 (by intro x r u hu; simp [Q85] at hu; subst hu; rfl)
theorem Q8Q:Q6T Q2v Q85 (fun _ _=>True) F_i64:=Q4e
def C_V (x:V) (_:Unit):List Value:=[.int .u8 x.k,.int .i64 x.n,.string x.s]
def F_V (_:V) (_:Unit):List Fact:=[]
def R_V:Rep V:=Q7L C_V F_V (by intro x r u hu; simp [C_V] at hu; rcases hu with rfl | rfl | rfl <;> rfl)
theorem Q2l:Q6T R_V C_V (fun _ _=>True) F_V:=Q4e
def C_FactD (x:QP) (r:Option Addr × Nat):List Value:=[.int .i64 x.id,.int .i64 x.ty,.slice r.1 x.args.length r.2]
def F_FactD (x:QP) (r:Option Addr × Nat):List Fact:=[.sli 3 R_V r.1 r.2 x.args]
def QW:Rep QP:=Q7L C_FactD F_FactD (by intro x r u hu; simp [C_FactD] at hu; rcases hu with rfl | rfl | rfl <;> rfl)
theorem Q2k:Q6T QW C_FactD (fun _ _=>True) F_FactD:=Q4e
structure Qc where
 ids:List Int
 vars:List V
def Q49 (x:Qc) (r:(Option Addr × Nat) × (Option Addr × Nat)):List Value:=[.slice r.1.1 x.ids.length r.1.2,.slice r.2.1 x.vars.length r.2.2]
def Q7K (x:Qc) (r:(Option Addr × Nat) × (Option Addr × Nat)):List Fact:=[.sli 1 Q2v r.1.1 r.1.2 x.ids,.sli 3 R_V r.2.1 r.2.2 x.vars]
def QK:Rep Qc:=Q7L Q49 Q7K (by intro x r u hu; simp [Q49] at hu; rcases hu with rfl | rfl <;> rfl)
theorem Q4M:Q6T QK Q49 (fun _ _=>True) Q7K:=Q4e
def Qaf (x:Qc) (r:(Option Addr × Nat) × (Option Addr × Nat)):List Fact:=[.own 3 1 Q2v (.slice r.1.1 x.ids.length r.1.2) x.ids,.own 57 3 R_V (.slice r.2.1 x.vars.length r.2.2) x.vars]
def QQ:Tre Qc ((Option Addr × Nat) × (Option Addr × Nat)):=⟨Q49,Qaf,by intro x r u hu; simp [Q49] at hu; rcases hu with rfl | rfl <;> rfl⟩
theorem Q6q : ∀ x r N F w,Star (QQ.G x r) N F w → QK.p (fun q=>N q ∨ F q) w (QQ.C x r) x:=by
 rintro x r N F w ⟨A0,B0,a0,b0,h0,A1,B1,a1,b1,h1,_⟩
 exact ⟨r,rfl,Q1j (op_sli h0 (fun q hq=>.inl (a0 q hq)) (fun _ hq=>.inr hq)) (Q1j (op_sli h1 (fun q hq=>.inl ((b0 q (a1 q hq)).1)) (fun _ hq=>.inr hq)) (Q1n))⟩
structure QU where
 rule:Int
 ids:List Int
def Q88 (x:QU) (r:Option Addr × Nat):List Value:=[.int .i64 x.rule,.slice r.1 x.ids.length r.2]
def F_Api_TokenD (x:QU) (r:Option Addr × Nat):List Fact:=[.sli 1 Q2v r.1 r.2 x.ids]
def Q3d:Rep QU:=Q7L Q88 F_Api_TokenD (by intro x r u hu; simp [Q88] at hu; rcases hu with rfl | rfl <;> rfl)
theorem QaS:Q6T Q3d Q88 (fun _ _=>True) F_Api_TokenD:=Q4e
def C_bool (x:Bool) (_:Unit):List Value:=[.bool x]
def F_bool (_:Bool) (_:Unit):List Fact:=[]
def Q1R:Rep Bool:=Q7L C_bool F_bool (by intro x r u hu; simp [C_bool] at hu; subst hu; rfl)
theorem Q9D:Q6T Q1R C_bool (fun _ _=>True) F_bool:=Q4e
structure Q6M where
 types:List Qg
 rules:List Qj
def Q9A (x:Q6M) (r:(Option Addr × Nat) × (Option Addr × Nat)):List Value:=[.slice r.1.1 x.types.length r.1.2,.slice r.2.1 x.rules.length r.2.2]
def F_Api_RulesD (x:Q6M) (r:(Option Addr × Nat) × (Option Addr × Nat)):List Fact:=[.sli 2 Qh r.1.1 r.1.2 x.types,.sli 5 Qi r.2.1 r.2.2 x.rules]
def R_Api_RulesD:Rep Q6M:=Q7L Q9A F_Api_RulesD (by intro x r u hu; simp [Q9A] at hu; rcases hu with rfl | rfl <;> rfl)
def C_str (x:ByteArray) (_:Unit):List Value:=[.string x]
def F_str (_:ByteArray) (_:Unit):List Fact:=[]
def R_str:Rep ByteArray:=Q7L C_str F_str (by intro x r u hu; simp [C_str] at hu; subst hu; rfl)
def C_u8 (x:Int) (_:Unit):List Value:=[.int .u8 x]
def F_u8 (_:Int) (_:Unit):List Fact:=[]
def R_u8:Rep Int:=Q7L C_u8 F_u8 (by intro x r u hu; simp [C_u8] at hu; subst hu; rfl)
def Q8c (x:Qg):Prop:=x.name.size ≤ 140737488351232 ∧ inK .i64 x.fields
def ok_V (x:V):Prop:=inK .u8 x.k ∧ inK .i64 x.n ∧ x.s.size ≤ 140737488351232
def ok_ArgD (x:Q3S):Prop:=inK .u8 x.k ∧ inK .i64 x.var ∧ ok_V x.v
inductive ok_Api_ExprD:Qe → Prop
 | mk (x:Qe) (h0:inK .u8 x.kind) (h1:ok_V x.value) (h2:inK .i64 x.var) (h3:inK .u8 x.op) (h4:x.kids.length ≤ 1759218604390) (g4 : ∀ y ∈ x.kids,ok_Api_ExprD y):ok_Api_ExprD x
def Q9I (x:QE):Prop:=inK .u8 x.kind ∧ inK .i64 x.type ∧ (x.args.length ≤ 2932031007317 ∧ ∀ y ∈ x.args,ok_ArgD y) ∧ ok_Api_ExprD x.test
def Qap (x:Q20):Prop:=inK .u8 x.kind ∧ inK .i64 x.type ∧ inK .i64 x.which ∧ (x.exprs.length ≤ 1759218604390 ∧ ∀ y ∈ x.exprs,ok_Api_ExprD y)
def Q5P (x:Qj):Prop:=x.name.size ≤ 140737488351232 ∧ inK .i64 x.salience ∧ inK .i64 x.vars ∧ (x.conds.length ≤ 1172812402926 ∧ ∀ y ∈ x.conds,Q9I y) ∧ (x.acts.length ≤ 2932031007317 ∧ ∀ y ∈ x.acts,Qap y)
def Q9b (x:Q6M):Prop:=(x.types.length ≤ 5864062014634 ∧ ∀ y ∈ x.types,Q8c y) ∧ (x.rules.length ≤ 1759218604390 ∧ ∀ y ∈ x.rules,Q5P y)
def QaP (x:QU):Prop:=inK .i64 x.rule ∧ (x.ids.length ≤ 17592186043904 ∧ ∀ y ∈ x.ids,inK .i64 y)
def ok_FactD (x:QP):Prop:=inK .i64 x.id ∧ inK .i64 x.ty ∧ (x.args.length ≤ 4398046510976 ∧ ∀ y ∈ x.args,ok_V y)
end Go.Proofs.YtbgodclhmgmcgaaGreatDoor
