import Derived.Test.YtbgodclhmgmcgaaGreatDoorBase
namespace Go.Proofs.YtbgodclhmgmcgaaGreatDoor
open Go.RowKit
structure Rep (α:Type) where
 p:Q2b → World → List Value → α → Prop
 good : ∀ {F G:Q2b} {w w' : World} {cs:List Value} {x : α},(∀ k,F k → G k) → Q2P F w w' → p F w cs x → p G w' cs x
 one : ∀ {F:Q2b} {w:World} {cs:List Value} {x : α},p F w cs x → ∀ u ∈ cs,u.oneCell' = true
inductive Fact:Type 1
 | cells (b o:Nat) (cs:List Value)
 | sli {α:Type} (sz:Nat) (R:Rep α) (p:Option Addr) (c:Nat) (l:List α)
 | own {α:Type} (e sz:Nat) (R:Rep α) (v:Value) (l:List α)
 | blk (g:Nat) (cs:List Value) (t:Nat)
 | rep {α:Type} (R:Rep α) (cs:List Value) (x : α)
 | duo (p:Q2b → Q2b → World → Prop) (good : ∀ {N N' F G:Q2b} {w w' : World},(∀ k,N k → N' k) → Q2P N w w' → (∀ k,F k → G k) → Q2P F w w' → p N F w → p N' G w')
 | raw (p:Q2b → World → Prop) (good : ∀ {F G:Q2b} {w w' : World},(∀ k,F k → G k) → Q2P F w w' → p F w → p G w')
def Fact.op:Fact → Q2b → Q2b → World → Prop
 | .cells b o cs,N,_,w=>N b ∧ Q2I w b o cs
 | .sli sz R p c l,N,_,w=>Sli N w sz (R.p N w) (.slice p l.length c) l
 | .own e sz R v l,N,F,w=>(∀ k,v.ownBlock = some k → N k) ∧ OwnL 0 e sz (R.p F w) l v w
 | .blk g cs t,N,_,w=>N g ∧ w.heap[g]? = some (.cells cs.toArray t)
 | .rep R cs x,N,_,w=>R.p N w cs x
 | .duo p _,N,F,w=>p N F w
 | .raw p _,N,_,w=>p N w
def Fact.p (φ:Fact) (F:Q2b) (w:World):Prop:=φ.op F F w
theorem Q2I.agree {F:Q2b} {w w' : World} {b o:Nat} {cs:List Value} (h:Q2I w b o cs) (ha:Q2P F w w') (hb:F b):Q2I w' b o cs:=fun j u hu=>(ha.cell hb).trans (h j u hu)
theorem OwnL.rel {α:Type} {B e sz:Nat} {R R' : List Value → α → Prop} {l:List α} {v:Value} {w:World} (h:OwnL B e sz R l v w) (hR : ∀ cs x,R cs x → R' cs x):OwnL B e sz R' l v w:=by
 obtain ⟨xs,ho,hc⟩:=h
 exact ⟨xs,ho,hc.mono fun cs x _=>hR cs x⟩
theorem Fact.opgood (φ:Fact) {N N' F G:Q2b} {w w' : World} (hN : ∀ k,N k → N' k) (ha:Q2P N w w') (hF : ∀ k,F k → G k) (hb:Q2P F w w') (h : φ.op N F w) : φ.op N' G w':=by
 cases φ with
 | cells b o cs=>exact ⟨hN _ h.1,h.2.agree ha h.1⟩
 | sli sz R p c l=>exact Sli.foot (h.keep ha fun cs x _ hr=>R.good hN ha hr) hN
 | own e sz R v l=>exact ⟨fun k hk=>hN _ (h.1 k hk),(h.2.keep fun k hk=>ha k (h.1 k hk)).rel fun cs x hr=>R.good hF hb hr⟩
 | blk g cs t=>exact ⟨hN _ h.1,(ha g h.1).trans h.2⟩
 | rep R cs x=>exact R.good hN ha h
 | duo p g=>exact g hN ha hF hb h
 | raw p g=>exact g hN ha h
theorem Fact.good (φ:Fact) {F G:Q2b} {w w' : World} (hF : ∀ k,F k → G k) (ha:Q2P F w w') (h : φ.p F w) : φ.p G w':=φ.opgood hF ha hF ha h
structure Ctx where
 w0:World
 S0:Q2b
 F0:Q2b
structure MInv (C:Ctx) (Φ:List Fact) (H:List Fact) (F:Q2b) (N:Nat → Q2b) (w:World):Prop where
 flt : ∀ k,F k → k < w.heap.size
 fold : ∀ k,C.F0 k → F k
 fnew : ∀ k,F k → C.F0 k ∨ C.w0.heap.size ≤ k ∨ C.S0 k
 facts : ∀ φ ∈ Φ,φ.p F w
 owns : ∀ (i:Nat) (h:Fact),H[i]? = some h → h.op (N i) F w
 nlt : ∀ i k,i < H.length → N i k → k < w.heap.size ∧ (C.w0.heap.size ≤ k ∨ C.S0 k) ∧ ¬ F k
 apart : ∀ i j k,i < H.length → j < H.length → i ≠ j → N i k → ¬ N j k
 mod:Mod C.S0 C.w0 w
def QL (C:Ctx) (Φ:List Fact) (H:List Fact) (w:World):Prop:=∃ F N,MInv C Φ H F N w
structure FD where
 k:Nat
 D:List Deferred
instance:Coe FD Nat:=⟨FD.k⟩
structure Frm (n:FD) (S:List (Nat × Value)) (a:Act):Prop where
 size:a.tmps.size = n.k
 defers:a.defers = n.D
 at_ : ∀ x ∈ S,a.tmps[x.1]? = some x.2
def look:List (Nat × Value) → Nat → Option Value
 | [],_=>none
 | (k,v) :: r,t=>match Nat.beq k t with
   | true=>some v
   | false=>look r t
def evS (S:List (Nat × Value)):Operand → Option Value
 | .tmp t=>look S t
 | .const v=>some v
 | .func f=>some (.func (.func f) #[] #[])
 | .global g=>some (.pointer (some ⟨g,0,none⟩))
theorem Q79 : ∀ {S:List (Nat × Value)} {t:Nat} {v:Value},look S t = some v → (t,v) ∈ S
 | (k,u) :: r,t,v,h=>by
   unfold look at h
   split at h
   · rename_i hb; cases h; rw [Nat.eq_of_beq_eq_true hb]; simp
   · exact List.mem_cons_of_mem _ (Q79 h)
theorem Frm.eval {n:FD} {S:List (Nat × Value)} {a:Act} (h:Frm n S a) {x:Operand} {v:Value} (hx:evS S x = some v):a.eval x = v:=by
 cases x with
 | tmp t =>
   have:=h.at_ _ (Q79 hx)
   simp only [Act.eval,Array.getD_eq_getD_getElem?]
   rw [this]; rfl
 | const c=>cases hx; rfl
 | global g=>cases hx; rfl
 | func f=>cases hx; rfl
def Q3q (d:Nat):List (Nat × Value) → List (Nat × Value)
 | []=>[]
 | (k,v) :: r=>match Nat.beq k d with
   | true=>Q3q d r
   | false=>(k,v) :: Q3q d r
theorem Q7N {d:Nat} : ∀ {S:List (Nat × Value)} {x:Nat × Value},x ∈ Q3q d S → x ∈ S ∧ x.1 ≠ d
 | (k,v) :: r,x,h=>by
   unfold Q3q at h
   split at h
   · exact ⟨List.mem_cons_of_mem _ (Q7N h).1,(Q7N h).2⟩
   ·rename_i hb
    rcases List.mem_cons.1 h with rfl | h
    · exact ⟨by simp,fun e=>by rw [show k = d from e] at hb; exact absurd (Nat.beq_refl d) (by rw [hb]; simp)⟩
    · exact ⟨List.mem_cons_of_mem _ (Q7N h).1,(Q7N h).2⟩
theorem Frm.put {n:FD} {S S' : List (Nat × Value)} {a:Act} (h:Frm n S a) {d:Nat} {v:Value} (hd:d < n) (hS:Q3q d S = S'):Frm n ((d,v) :: S') (a.put (some d) v):=by
 subst hS
 refine ⟨by simp [Act.put,h.size],h.defers,fun x hx=>?_⟩
 rcases List.mem_cons.1 hx with rfl | hx
 · simp [Act.put,h.size,hd]
 ·obtain ⟨h1,h2⟩:=Q7N hx
  simp only [Act.put]
  rw [Array.getElem?_setIfInBounds_ne (Ne.symm h2)]
  exact h.at_ _ h1
theorem Frm.sub {n:FD} {S S' : List (Nat × Value)} {a:Act} (h:Frm n S a) (hs : ∀ x ∈ S',x ∈ S):Frm n S' a:=⟨h.size,h.defers,fun x hx=>h.at_ x (hs x hx)⟩
def keepS:List Nat → List (Nat × Value) → List (Nat × Value)
 | [],_=>[]
 | t :: l,S=>match look S t with
   | some v=>(t,v) :: keepS l S
   | none=>keepS l S
theorem QaI : ∀ {l:List Nat} {S:List (Nat × Value)} {x:Nat × Value},x ∈ keepS l S → x ∈ S
 | t :: l,S,x,h=>by
   unfold keepS at h
   split at h
   ·rename_i v hv
    rcases List.mem_cons.1 h with rfl | h
    · exact Q79 hv
    · exact QaI h
   · exact QaI h
section judgements
variable (P:Program) (C:Ctx) (n:FD) (Q:Exit → Act → World → Prop) (Φ:List Fact) (H:List Fact) (S:List (Nat × Value))
def WL (ops:Array Oper) (rest:List Oper):Prop:=∀ a w,Frm n S a → QL C Φ H w → wpList P ops Q rest a w
def WC (c:Code):Prop:=∀ a w,Frm n S a → QL C Φ H w → c.wp P Q a w
def WE (e:Exit):Prop:=∀ a w,Frm n S a → QL C Φ H w → Q e a w
end judgements
section structural
variable {P:Program} {C:Ctx} {n:FD} {Q:Exit → Act → World → Prop} {Φ Φ' : List Fact} {H H' : List Fact} {S S' : List (Nat × Value)} {ops:Array Oper} {rest:List Oper} {c x y:Code}
theorem Q5 (h:WC P C n (Exit.then (fun a w=>y.wp P Q a w) Q) Φ H S x):WC P C n Q Φ H S (.seq x y):=fun a w hf hw=>wp_seq (h a w hf hw)
theorem Q1 {id:Nat} {l:List Oper} (h:WL P C n Q Φ H S l.toArray l):WC P C n Q Φ H S (.region id l.toArray false):=fun a w hf hw=>wp_region_lit (h a w hf hw)
theorem Q4 (h:WE C n Q Φ H S .normal):WL P C n Q Φ H S ops []:=fun a w hf hw=>h a w hf hw
theorem Q3 (h:WC P C n Q Φ H S y):WE C n (Exit.then (fun a w=>y.wp P Q a w) Q) Φ H S .normal:=h
theorem Qo {id:Nat} {K:Act → World → Prop} (h:WE C n Q Φ H S (.exit id)):WE C n (Exit.then K Q) Φ H S (.exit id):=h
theorem Q8 {K:Act → World → Prop} (h:WE C n Q Φ H S .ret):WE C n (Exit.then K Q) Φ H S .ret:=h
theorem QG {id:Nat} (h:WE C n Q Φ H S .normal):WE C n (Exit.inBlock id Q) Φ H S (.exit id):=fun a w hf hw=>by
 show (if id = id then _ else _); rw [if_pos rfl]; exact h a w hf hw
theorem we_block_miss {id id' : Nat} (hne:id' ≠ id) (h:WE C n Q Φ H S (.exit id')):WE C n (Exit.inBlock id Q) Φ H S (.exit id'):=fun a w hf hw=>by
 show (if id' = id then _ else _); rw [if_neg hne]; exact h a w hf hw
theorem Qf {id:Nat} (h:WE C n Q Φ H S .normal):WE C n (Exit.inBlock id Q) Φ H S .normal:=h
theorem Qa {id:Nat} (h:WE C n Q Φ H S .ret):WE C n (Exit.inBlock id Q) Φ H S .ret:=h
theorem Qt (h:WE C n Q Φ H S .normal):WC P C n Q Φ H S .skip:=fun a w hf hw=>wp_skip (h a w hf hw)
theorem Qk (h:WE C n Q Φ H S .ret):WC P C n Q Φ H S .ret:=fun a w hf hw=>wp_ret (h a w hf hw)
theorem Q1k {id:Nat} (h:WE C n Q Φ H S (.exit id)):WC P C n Q Φ H S (.exit id):=fun a w hf hw=>wp_exit (h a w hf hw)
theorem Qx {id:Nat} (h:WC P C n (Exit.inBlock id Q) Φ H S c):WC P C n Q Φ H S (.block id c):=fun a w hf hw=>wp_block (h a w hf hw)
theorem Qm {o:Operand} {t:Bool} (hc:evS S o = some (.bool t)) (ht:t = true → WC P C n Q Φ H S x) (hf:t = false → WC P C n Q Φ H S y):WC P C n Q Φ H S (.cond o x y) :=
 fun a w hfr hw=>wp_cond_split (hfr.eval hc) (fun h=>ht h a w hfr hw) (fun h=>hf h a w hfr hw)
theorem wc_true {o:Operand} (hc:evS S o = some (.bool true)) (ht:WC P C n Q Φ H S x):WC P C n Q Φ H S (.cond o x y) :=
 fun a w hfr hw=>wp_cond_true (hfr.eval hc) (ht a w hfr hw)
theorem QaB {o:Operand} (hc:evS S o = some (.bool false)) (ht:WC P C n Q Φ H S y):WC P C n Q Φ H S (.cond o x y) :=
 fun a w hfr hw=>wp_cond_false (hfr.eval hc) (ht a w hfr hw)
theorem Q2 (l:List Nat) (hS:keepS l S = S') (h:WC P C n Q Φ H S' c):WC P C n Q Φ H S c :=
 fun a w hf hw=>h a w (hf.sub fun x hx=>QaI (by rw [hS]; exact hx)) hw
theorem Qr {d:Nat} {t:Bool} (hx:look S d = some (.bool t)) (hS:Q3q d S = S') (ht:t = true → WL P C n Q Φ H ((d,.bool true) :: S') ops rest) (hf:t = false → WL P C n Q Φ H ((d,.bool false) :: S') ops rest):WL P C n Q Φ H S ops rest:=by
 subst hS
 intro a w hfr hw
 have h1 : ∀ b,t = b → Frm n ((d,.bool b) :: Q3q d S) a:=fun b hb=>hfr.sub fun x hx'=>by
  rcases List.mem_cons.1 hx' with rfl | hx'
  · rw [← hb]; exact Q79 hx
  · exact (Q7N hx').1
 cases t
 · exact hf rfl a w (h1 _ rfl) hw
 · exact ht rfl a w (h1 _ rfl) hw
theorem QL.fact {w:World} {φ:Fact} (h:QL C Φ H w) (hφ : ∀ F,(∀ ψ ∈ Φ,ψ.p F w) → φ.p F w):QL C (φ :: Φ) H w:=by
 obtain ⟨F,N,hi⟩:=h
 refine ⟨F,N,{ hi with facts:=fun ψ hψ=>?_ }⟩
 rcases List.mem_cons.1 hψ with rfl | hψ
 · exact hφ F hi.facts
 · exact hi.facts _ hψ
theorem wc_fact (φ:Fact) (hφ : ∀ F w,(∀ ψ ∈ Φ,ψ.p F w) → φ.p F w) (h:WC P C n Q (φ :: Φ) H S c):WC P C n Q Φ H S c :=
 fun a w hf hw=>h a w hf (hw.fact fun F=>hφ F w)
theorem QL.sub {w:World} (h:QL C Φ H w) (hs : ∀ φ ∈ Φ',φ ∈ Φ):QL C Φ' H w:=by
 obtain ⟨F,N,hi⟩:=h
 exact ⟨F,N,{ hi with facts:=fun ψ hψ=>hi.facts _ (hs _ hψ) }⟩
end structural
section rules
variable {P:Program} {C:Ctx} {n:FD} {Q:Exit → Act → World → Prop} {Φ Φ' : List Fact} {H H' : List Fact} {S S' : List (Nat × Value)} {ops:Array Oper} {rest:List Oper} {o:Oper}
def Q1w (ops:Array Oper) (S:List (Nat × Value)) (o:Oper):Option Bool :=
 match o.guard with
 | none=>some true
 | some (j,want)=>match (ops[j]?).bind (·.dst) with
   | some d=>match look S d with
     | some (.bool true)=>some want
     | some (.bool false)=>some (!want)
     | some (.tuple _)=>some false
     | _=>none
   | none=>none
theorem Q4V {b:Bool} {a:Act} (hf:Frm n S a) (h:Q1w ops S o = some b):Region.wanted o (yielded ops a.tmps) = b:=by
 unfold Q1w at h
 unfold Region.wanted
 rcases hg:o.guard with _ | ⟨j,want⟩
 · simp only [hg] at h ⊢; exact Option.some.inj h
 ·simp only [hg] at h ⊢
  rcases hd:(ops[j]?).bind (·.dst) with _ | d
  · simp [hd] at h
  ·simp only [hd] at h
   simp only [yielded,hd,Option.bind_some]
   split at h
   ·rename_i hl
    have:=hf.at_ _ (Q79 hl)
    simp only at this
    rw [this]; cases want <;> (cases h; rfl)
   ·rename_i hl
    have:=hf.at_ _ (Q79 hl)
    simp only at this
    rw [this]; cases want <;> (cases h; rfl)
   ·rename_i hl
    have:=hf.at_ _ (Q79 hl)
    simp only at this
    rw [this]; cases want <;> (cases h; rfl)
   · cases h
theorem Q8G {d:Nat} (hg:Q1w ops S o = some true) (hd:o.dst = some d) (hn:Nat.blt d n = true) (hS:Q3q d S = S')
  (run : ∀ a w,Frm n S a → QL C Φ H w → ∃ v w',(execOp a.eval o).run P w = .ok (.value v) w' ∧ ∃ Φ' H',QL C Φ' H' w' ∧ WL P C n Q Φ' H' ((d,v) :: S') ops rest):WL P C n Q Φ H S ops (o :: rest):=by
 intro a w hf hw
 obtain ⟨v,w',hr,Φ',H',h1,h2⟩:=run a w hf hw
 refine wpList_step fun K hK=>?_
 rw [Q4V hf hg,if_pos rfl]
 unfold Oper.wp
 rw [hr,Oper.upon_value,hd]
 exact hK _ _ (h2 _ _ (hf.put (Nat.le_of_ble_eq_true hn) hS) h1)
theorem Qa8 {d:Nat} {v:Value} (hg:Q1w ops S o = some true) (hd:o.dst = some d) (hn:Nat.blt d n = true) (hS:Q3q d S = S')
  (run : ∀ a w,Frm n S a → QL C Φ H w → (execOp a.eval o).run P w = .ok (.value v) w) (next:WL P C n Q Φ H ((d,v) :: S') ops rest):WL P C n Q Φ H S ops (o :: rest) :=
 Q8G hg hd hn hS fun a w hf hw=>⟨v,w,run a w hf hw,Φ,H,hw,next⟩
theorem wl_off {d:Nat} (hg:Q1w ops S o = some false) (hd:o.dst = some d) (hn:Nat.blt d n = true) (hS:Q3q d S = S') (next:WL P C n Q Φ H ((d,undef) :: S') ops rest):WL P C n Q Φ H S ops (o :: rest):=by
 intro a w hf hw
 refine wpList_step fun K hK=>?_
 rw [Q4V hf hg,hd]
 exact hK _ _ (next _ _ (hf.put (Nat.le_of_ble_eq_true hn) hS) hw)
end rules
end Go.Proofs.YtbgodclhmgmcgaaGreatDoor
