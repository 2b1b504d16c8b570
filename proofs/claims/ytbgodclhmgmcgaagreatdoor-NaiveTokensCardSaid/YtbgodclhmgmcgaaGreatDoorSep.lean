import Derived.Test.YtbgodclhmgmcgaaGreatDoorBase
namespace Go.Proofs.YtbgodclhmgmcgaaGreatDoor
open Go.RowKit
structure Rep (α:Type) where
 p:Q1O→World→List Value→α→Prop
 good : ∀ {F G:Q1O} {w w' : World} {cs:List Value} {x : α},(∀ k,F k→G k)→Q2W F w w' →p F w cs x→p G w' cs x
 one : ∀ {F:Q1O} {w:World} {cs:List Value} {x : α},p F w cs x→∀ u∈cs,u.oneCell' =true
inductive Fact:Type 1
 | cells (b o:Nat) (cs:List Value)
 | sli {α:Type} (sz:Nat) (R:Rep α) (p:Option Addr) (c:Nat) (l:List α)
 | own {α:Type} (e sz:Nat) (R:Rep α) (v:Value) (l:List α)
 | blk (g:Nat) (cs:List Value) (t:Nat)
 | rep {α:Type} (R:Rep α) (cs:List Value) (x : α)
 | duo (p:Q1O→Q1O→World→Prop) (good : ∀ {N N' F G:Q1O} {w w' : World},(∀ k,N k→N' k)→Q2W N w w' →(∀ k,F k→G k)→Q2W F w w' →p N F w→p N' G w')
 | raw (p:Q1O→World→Prop) (good : ∀ {F G:Q1O} {w w' : World},(∀ k,F k→G k)→Q2W F w w' →p F w→p G w')
def Fact.op:Fact→Q1O→Q1O→World→Prop
 | .cells b o cs,N,_,w=>N b∧Q3D w b o cs
 | .sli sz R p c l,N,_,w=>Sli N w sz (R.p N w) (.slice p l.length c) l
 | .own e sz R v l,N,F,w=>(∀ k,v.ownBlock=some k→N k)∧OwnL 0 e sz (R.p F w) l v w
 | .blk g cs t,N,_,w=>N g∧w.heap[g]? =some (.cells cs.toArray t)
 | .rep R cs x,N,_,w=>R.p N w cs x
 | .duo p _,N,F,w=>p N F w
 | .raw p _,N,_,w=>p N w
def Fact.p (φ:Fact)(F:Q1O)(w:World):Prop:=φ.op F F w
theorem Q3D.agree {F:Q1O} {w w' : World} {b o:Nat} {cs:List Value} (h:Q3D w b o cs)(ha:Q2W F w w')(hb:F b):Q3D w' b o cs:=fun j u hu=>(ha.cell hb).trans (h j u hu)
theorem OwnL.rel {α:Type} {B e sz:Nat} {R R' : List Value→α→Prop} {l:List α} {v:Value} {w:World} (h:OwnL B e sz R l v w)(hR : ∀ cs x,R cs x→R' cs x):OwnL B e sz R' l v w:=by
 obtain ⟨xs,ho,hc⟩:=h
 exact ⟨xs,ho,hc.mono fun cs x _=>hR cs x⟩
theorem Fact.opgood (φ:Fact) {N N' F G:Q1O} {w w' : World} (hN : ∀ k,N k→N' k)(ha:Q2W N w w')(hF : ∀ k,F k→G k)(hb:Q2W F w w')(h : φ.op N F w) : φ.op N' G w':=by
 cases φ with
 | cells b o cs=>exact ⟨hN _ h.1,h.2.agree ha h.1⟩
 | sli sz R p c l=>exact Sli.foot (h.keep ha fun cs x _ hr=>R.good hN ha hr) hN
 | own e sz R v l=>exact ⟨fun k hk=>hN _ (h.1 k hk),(h.2.keep fun k hk=>ha k (h.1 k hk)).rel fun cs x hr=>R.good hF hb hr⟩
 | blk g cs t=>exact ⟨hN _ h.1,(ha g h.1).trans h.2⟩
 | rep R cs x=>exact R.good hN ha h
 | duo p g=>exact g hN ha hF hb h
 | raw p g=>exact g hN ha h
theorem Fact.good (φ:Fact) {F G:Q1O} {w w' : World} (hF : ∀ k,F k→G k)(ha:Q2W F w w')(h : φ.p F w) : φ.p G w':=φ.opgood hF ha hF ha h
structure Ctx where
 w0:World
 S0:Q1O
 F0:Q1O
structure MInv (C:Ctx) (Φ:List Fact) (H:List Fact) (F:Q1O) (N:Nat→Q1O) (w:World):Prop where
 flt : ∀ k,F k→k < w.heap.size
 fold : ∀ k,C.F0 k→F k
 fnew : ∀ k,F k→C.F0 k∨C.w0.heap.size≤k∨C.S0 k
 facts : ∀ φ∈Φ,φ.p F w
 owns : ∀ (i:Nat) (h:Fact),H[i]? =some h→h.op (N i) F w
 nlt : ∀ i k,i < H.length→N i k→k < w.heap.size∧(C.w0.heap.size≤k∨C.S0 k)∧¬ F k
 apart : ∀ i j k,i < H.length→j < H.length→i≠j→N i k→¬ N j k
 mod:Mod C.S0 C.w0 w
def QC (C:Ctx)(Φ:List Fact)(H:List Fact)(w:World):Prop:=∃ F N,MInv C Φ H F N w
structure FD where
 k:Nat
 D:List Deferred
instance:Coe FD Nat:=⟨FD.k⟩
structure Frm (n:FD) (S:List (Nat×Value)) (a:Act):Prop where
 size:a.tmps.size=n.k
 defers:a.defers=n.D
 at_ : ∀ x∈S,a.tmps[x.1]? =some x.2
def look:List (Nat×Value)→Nat→Option Value
 | [],_=>none
 | (k,v) :: r,t=>match Nat.beq k t with
   | true=>some v
   | false=>look r t
def evS (S:List (Nat×Value)):Operand→Option Value
 | .tmp t=>look S t
 | .const v=>some v
 | .func f=>some (.func (.func f) #[] #[])
 | .global g=>some (.pointer (some ⟨g,0,none⟩))
theorem QbB : ∀ {S:List (Nat×Value)} {t:Nat} {v:Value},look S t=some v→(t,v)∈S
 | (k,u) :: r,t,v,h=>by
   unfold look at h
   split at h
   · rename_i hb;cases h;rw [Nat.eq_of_beq_eq_true hb];simp
   · exact List.mem_cons_of_mem _ (QbB h)
theorem Frm.eval {n:FD} {S:List (Nat×Value)} {a:Act} (h:Frm n S a) {x:Operand} {v:Value} (hx:evS S x=some v):a.eval x=v:=by
 cases x with
 | tmp t =>
   have:=h.at_ _ (QbB hx)
   simp only [Act.eval,Array.getD_eq_getD_getElem?]
   rw [this];rfl
 | const c=>cases hx;rfl
 | global g=>cases hx;rfl
 | func f=>cases hx;rfl
def Q4p (d:Nat):List (Nat×Value)→List (Nat×Value)
 | []=>[]
 | (k,v) :: r=>match Nat.beq k d with
   | true=>Q4p d r
   | false=>(k,v) :: Q4p d r
theorem QcY {d:Nat} : ∀ {S:List (Nat×Value)} {x:Nat×Value},x∈Q4p d S→x∈S∧x.1≠d
 | (k,v) :: r,x,h=>by
   unfold Q4p at h
   split at h
   · exact ⟨List.mem_cons_of_mem _ (QcY h).1,(QcY h).2⟩
   ·rename_i hb
    rcases List.mem_cons.1 h with rfl | h
    · exact ⟨by simp,fun e=>by rw [show k=d from e] at hb;exact absurd (Nat.beq_refl d) (by rw [hb];simp)⟩
    · exact ⟨List.mem_cons_of_mem _ (QcY h).1,(QcY h).2⟩
theorem Frm.put {n:FD} {S S' : List (Nat×Value)} {a:Act} (h:Frm n S a) {d:Nat} {v:Value} (hd:d < n)(hS:Q4p d S=S'):Frm n ((d,v) :: S') (a.put (some d) v):=by
 subst hS
 refine ⟨by simp [Act.put,h.size],h.defers,fun x hx=>?_⟩
 rcases List.mem_cons.1 hx with rfl | hx
 · simp [Act.put,h.size,hd]
 ·obtain ⟨h1,h2⟩:=QcY hx
  simp only [Act.put]
  rw [Array.getElem?_setIfInBounds_ne (Ne.symm h2)]
  exact h.at_ _ h1
theorem Frm.sub {n:FD} {S S' : List (Nat×Value)} {a:Act} (h:Frm n S a)(hs : ∀ x∈S',x∈S):Frm n S' a:=⟨h.size,h.defers,fun x hx=>h.at_ x (hs x hx)⟩
def Q5d:List Nat→List (Nat×Value)→List (Nat×Value)
 | [],_=>[]
 | t :: l,S=>match look S t with
   | some v=>(t,v) :: Q5d l S
   | none=>Q5d l S
theorem Qem : ∀ {l:List Nat} {S:List (Nat×Value)} {x:Nat×Value},x∈Q5d l S→x∈S
 | t :: l,S,x,h=>by
   unfold Q5d at h
   split at h
   ·rename_i v hv
    rcases List.mem_cons.1 h with rfl | h
    · exact QbB hv
    · exact Qem h
   · exact Qem h
section judgements
variable (P:Program) (C:Ctx) (n:FD) (Q:Exit → Act → World → Prop) (Φ:List Fact) (H:List Fact) (S:List (Nat × Value))
def WL (ops:Array Oper)(rest:List Oper):Prop:=∀ a w,Frm n S a→QC C Φ H w→wpList P ops Q rest a w
def WC (c:Code):Prop:=∀ a w,Frm n S a→QC C Φ H w→c.wp P Q a w
def WE (e:Exit):Prop:=∀ a w,Frm n S a→QC C Φ H w→Q e a w
end judgements
section structural
variable {P:Program} {C:Ctx} {n:FD} {Q:Exit → Act → World → Prop} {Φ Φ' : List Fact} {H H' : List Fact} {S S' : List (Nat × Value)} {ops:Array Oper} {rest:List Oper} {c x y:Code}
theorem Q5 (h:WC P C n (Exit.then (fun a w=>y.wp P Q a w) Q) Φ H S x):WC P C n Q Φ H S (.seq x y):=fun a w hf hw=>wp_seq (h a w hf hw)
theorem Qe {id:Nat} {l:List Oper} (h:WL P C n Q Φ H S l.toArray l):WC P C n Q Φ H S (.region id l.toArray false):=fun a w hf hw=>wp_region_lit (h a w hf hw)
theorem Q2 (h:WE C n Q Φ H S .normal):WL P C n Q Φ H S ops []:=fun a w hf hw=>h a w hf hw
theorem Qv (h:WC P C n Q Φ H S y):WE C n (Exit.then (fun a w=>y.wp P Q a w) Q) Φ H S .normal:=h
theorem Q7 {id:Nat} {K:Act→World→Prop} (h:WE C n Q Φ H S (.exit id)):WE C n (Exit.then K Q) Φ H S (.exit id):=h
theorem Q3 {K:Act→World→Prop} (h:WE C n Q Φ H S .ret):WE C n (Exit.then K Q) Φ H S .ret:=h
theorem Qq {id:Nat} (h:WE C n Q Φ H S .normal):WE C n (Exit.inBlock id Q) Φ H S (.exit id):=fun a w hf hw=>by
 show (if id=id then _ else _);rw [if_pos rfl];exact h a w hf hw
theorem we_block_miss {id id' : Nat} (hne:id' ≠id)(h:WE C n Q Φ H S (.exit id')):WE C n (Exit.inBlock id Q) Φ H S (.exit id'):=fun a w hf hw=>by
 show (if id' =id then _ else _);rw [if_neg hne];exact h a w hf hw
theorem Q6 {id:Nat} (h:WE C n Q Φ H S .normal):WE C n (Exit.inBlock id Q) Φ H S .normal:=h
theorem Qg {id:Nat} (h:WE C n Q Φ H S .ret):WE C n (Exit.inBlock id Q) Φ H S .ret:=h
theorem QT (h:WE C n Q Φ H S .normal):WC P C n Q Φ H S .skip:=fun a w hf hw=>wp_skip (h a w hf hw)
theorem Qm (h:WE C n Q Φ H S .ret):WC P C n Q Φ H S .ret:=fun a w hf hw=>wp_ret (h a w hf hw)
theorem QQ {id:Nat} (h:WE C n Q Φ H S (.exit id)):WC P C n Q Φ H S (.exit id):=fun a w hf hw=>wp_exit (h a w hf hw)
theorem Qk {id:Nat} (h:WC P C n (Exit.inBlock id Q) Φ H S c):WC P C n Q Φ H S (.block id c):=fun a w hf hw=>wp_block (h a w hf hw)
theorem wc_cond {o:Operand} {t:Bool} (hc:evS S o=some (.bool t))(ht:t=true→WC P C n Q Φ H S x)(hf:t=false→WC P C n Q Φ H S y):WC P C n Q Φ H S (.cond o x y) :=
 fun a w hfr hw=>wp_cond_split (hfr.eval hc) (fun h=>ht h a w hfr hw) (fun h=>hf h a w hfr hw)
theorem wc_true {o:Operand} (hc:evS S o=some (.bool true))(ht:WC P C n Q Φ H S x):WC P C n Q Φ H S (.cond o x y) :=
 fun a w hfr hw=>wp_cond_true (hfr.eval hc) (ht a w hfr hw)
theorem Qde {o:Operand} (hc:evS S o=some (.bool false))(ht:WC P C n Q Φ H S y):WC P C n Q Φ H S (.cond o x y) :=
 fun a w hfr hw=>wp_cond_false (hfr.eval hc) (ht a w hfr hw)
theorem Q5r (l:List Nat)(hS:Q5d l S=S')(h:WC P C n Q Φ H S' c):WC P C n Q Φ H S c :=
 fun a w hf hw=>h a w (hf.sub fun x hx=>Qem (by rw [hS];exact hx)) hw
theorem QC.fact {w:World} {φ:Fact} (h:QC C Φ H w)(hφ : ∀ F,(∀ ψ∈Φ,ψ.p F w)→φ.p F w):QC C (φ :: Φ) H w:=by
 obtain ⟨F,N,hi⟩:=h
 refine ⟨F,N,{ hi with facts:=fun ψ hψ=>?_ }⟩
 rcases List.mem_cons.1 hψ with rfl | hψ
 · exact hφ F hi.facts
 · exact hi.facts _ hψ
theorem Q2q (φ:Fact)(hφ : ∀ F w,(∀ ψ∈Φ,ψ.p F w)→φ.p F w)(h:WL P C n Q (φ :: Φ) H S ops rest):WL P C n Q Φ H S ops rest :=
 fun a w hf hw=>h a w hf (hw.fact fun F=>hφ F w)
theorem wc_fact (φ:Fact)(hφ : ∀ F w,(∀ ψ∈Φ,ψ.p F w)→φ.p F w)(h:WC P C n Q (φ :: Φ) H S c):WC P C n Q Φ H S c :=
 fun a w hf hw=>h a w hf (hw.fact fun F=>hφ F w)
theorem QC.sub {w:World} (h:QC C Φ H w)(hs : ∀ φ∈Φ',φ∈Φ):QC C Φ' H w:=by
 obtain ⟨F,N,hi⟩:=h
 exact ⟨F,N,{ hi with facts:=fun ψ hψ=>hi.facts _ (hs _ hψ) }⟩
end structural
section rules
variable {P:Program} {C:Ctx} {n:FD} {Q:Exit → Act → World → Prop} {Φ Φ' : List Fact} {H H' : List Fact} {S S' : List (Nat × Value)} {ops:Array Oper} {rest:List Oper} {o:Oper}
def Q18 (ops:Array Oper)(S:List (Nat×Value))(o:Oper):Option Bool :=
 match o.guard with
 | none=>some true
 | some (j,want)=>match (ops[j]?).bind (·.dst) with
   | some d=>match look S d with
     | some (.bool true)=>some want
     | some (.bool false)=>some (!want)
     | some (.tuple _)=>some false
     | _=>none
   | none=>none
theorem Q5J {b:Bool} {a:Act} (hf:Frm n S a)(h:Q18 ops S o=some b):Region.wanted o (yielded ops a.tmps)=b:=by
 unfold Q18 at h
 unfold Region.wanted
 rcases hg:o.guard with _ | ⟨j,want⟩
 · simp only [hg] at h ⊢;exact Option.some.inj h
 ·simp only [hg] at h ⊢
  rcases hd:(ops[j]?).bind (·.dst) with _ | d
  · simp [hd] at h
  ·simp only [hd] at h
   simp only [yielded,hd,Option.bind_some]
   split at h
   ·rename_i hl
    have:=hf.at_ _ (QbB hl)
    simp only at this
    rw [this];cases want <;> (cases h;rfl)
   ·rename_i hl
    have:=hf.at_ _ (QbB hl)
    simp only at this
    rw [this];cases want <;> (cases h;rfl)
   ·rename_i hl
    have:=hf.at_ _ (QbB hl)
    simp only at this
    rw [this];cases want <;> (cases h;rfl)
   · cases h
theorem Qaq {d:Nat} (hg:Q18 ops S o=some true)(hd:o.dst=some d)(hn:Nat.blt d n=true)(hS:Q4p d S=S')
  (run : ∀ a w,Frm n S a→QC C Φ H w→∃ v w',(execOp a.eval o).run P w=.ok (.value v) w' ∧∃ Φ' H',QC C Φ' H' w' ∧WL P C n Q Φ' H' ((d,v) :: S') ops rest):WL P C n Q Φ H S ops (o :: rest):=by
 intro a w hf hw
 obtain ⟨v,w',hr,Φ',H',h1,h2⟩:=run a w hf hw
 refine wpList_step fun K hK=>?_
 rw [Q5J hf hg,if_pos rfl]
 unfold Oper.wp
 rw [hr,Oper.upon_value,hd]
 exact hK _ _ (h2 _ _ (hf.put (Nat.le_of_ble_eq_true hn) hS) h1)
theorem Qc5 {d:Nat} {v:Value} (hg:Q18 ops S o=some true)(hd:o.dst=some d)(hn:Nat.blt d n=true)(hS:Q4p d S=S')
  (run : ∀ a w,Frm n S a→QC C Φ H w→(execOp a.eval o).run P w=.ok (.value v) w) (next:WL P C n Q Φ H ((d,v) :: S') ops rest):WL P C n Q Φ H S ops (o :: rest) :=
 Qaq hg hd hn hS fun a w hf hw=>⟨v,w,run a w hf hw,Φ,H,hw,next⟩
theorem wl_off {d:Nat} (hg:Q18 ops S o=some false)(hd:o.dst=some d)(hn:Nat.blt d n=true)(hS:Q4p d S=S')(next:WL P C n Q Φ H ((d,undef) :: S') ops rest):WL P C n Q Φ H S ops (o :: rest):=by
 intro a w hf hw
 refine wpList_step fun K hK=>?_
 rw [Q5J hf hg,hd]
 exact hK _ _ (next _ _ (hf.put (Nat.le_of_ble_eq_true hn) hS) hw)
end rules
end Go.Proofs.YtbgodclhmgmcgaaGreatDoor
