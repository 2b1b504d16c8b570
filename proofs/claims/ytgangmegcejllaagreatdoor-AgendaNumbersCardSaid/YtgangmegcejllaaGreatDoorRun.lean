import Derived.Test.YtgangmegcejllaaGreatDoorFlat
namespace Go.Proofs.YtgangmegcejllaaGreatDoor
open Go Go.RowKit
def stepV (P:Program) (S:List (Nat × Value)) (op:Op):Option (Option Value) :=
 match pureOp S op with
 | some v=>some (some v)
 | none=>match op with
   | .call { callee:=.builtin .len,args:=a,argTypes:=ts }=>match a.toList,ts.toList with
     | [x],[t]=>match evS S x,Q2E P t with
       | some (.slice _ k _),some _=>some (some (.int .i64 (k:Int)))
       | _,_=>none
     | _,_=>none
   | .makeSlice t x y=>match evS S x,evS S y,Q2E P t with
     | some (.int _ 0),some (.int _ 0),some e=>match tRow P e with
       | some (z,sz,_)=>if Nat.beq z.cells.size sz && Nat.blt 0 sz && allOne z.cells.toList then some none else none
       | none=>none
     | _,_,_=>none
   | .move (.tmp _)=>some none
   | .assign (.tmp _)=>some none
   | _=>none
theorem wl_moved {P:Program} {C:Ctx} {n:Nat} {Q:Exit → Act → World → Prop} {Φ:List Fact} {H:List Fact} {S:List (Nat × Value)} {ops:Array Oper} {rest:List Oper} {o:Oper} {d:Nat} {x:Operand} (hg:Q1L ops S o = some true) (hd:o.dst = some d) (hn:Nat.blt d n = true) (ho:o.op = .move x ∨ o.op = .assign x)
  (next:WL P C n Q Φ H (Q2r d S) ops rest):WL P C n Q Φ H S ops (o :: rest) :=
 Q72 hg hd hn rfl fun a w hf hw=>⟨a.eval x,w,by rcases ho with ho | ho <;> simp [execOp,ho],Φ,H,hw,fun a' w' hf' hw'=>next a' w' (hf'.sub fun y hy=>List.mem_cons_of_mem _ hy) hw'⟩
def runO (P:Program) (n:Nat) (all:Array Oper):List Oper → List (Nat × Value) → Option (List (Nat × Value))
 | [],S=>some S
 | o :: r,S=>match Q1L all S o,o.dst with
   | some true, some d => if Nat.blt d n then match stepV P S o.op with
     | some (some v)=>runO P n all r ((d,v) :: Q2r d S)
     | some none=>runO P n all r (Q2r d S)
     | none=>none
    else none
   | some false,some d=>if Nat.blt d n then runO P n all r ((d,undef) :: Q2r d S) else none
   | _,_=>none
def runC (P:Program) (n:Nat):Nat → Code → List (Nat × Value) → Option (Exit × List (Nat × Value))
 | 0,_,_=>none
 | f + 1,c,S=>match c with
   | .skip=>some (.normal,S)
   | .region _ ops false=>(runO P n ops ops.toList S).map fun S'=>(.normal,S')
   | .seq x y=>match runC P n f x S with
     | some (.normal,S1)=>runC P n f y S1
     | some (.exit i,S1)=>some (.exit i,S1)
     | some (.ret,S1)=>some (.ret,S1)
     | _=>none
   | .cond o x y=>match evS S o with
     | some (.bool true)=>runC P n f x S
     | some (.bool false)=>runC P n f y S
     | _=>none
   | .block id x=>match runC P n f x S with
     | some (.normal,S1)=>some (.normal,S1)
     | some (.exit i,S1)=>some (if i = id then .normal else .exit i,S1)
     | some (.ret,S1)=>some (.ret,S1)
     | _=>none
   | .loop x=>match runC P n f x S with
     | some (.exit i,S1)=>some (.exit i,S1)
     | some (.ret,S1)=>some (.ret,S1)
     | _=>none
   | .exit i=>some (.exit i,S)
   | .ret=>some (.ret,S)
   | _=>none
section
variable {P:Program} {C:Ctx} {n:Nat} {Q:Exit → Act → World → Prop} {Φ:List Fact} {H:List Fact} {S S' : List (Nat × Value)} {all:Array Oper}
theorem wl_outS {d:Nat} {ops:Array Oper} {rest:List Oper} {v:Value} (h:WL P C n Q Φ H (Q2r d S) ops rest):WL P C n Q Φ H ((d,v) :: Q2r d S) ops rest:=fun a w hf hw=>h a w (hf.sub fun x hx=>List.mem_cons_of_mem _ hx) hw
theorem runO_ok : ∀ {l:List Oper} {S:List (Nat × Value)} {H:List Fact},runO P n all l S = some S' → (∀ H,WE C n Q Φ H S' .normal) → WL P C n Q Φ H S all l
 | [],S,H,h,next=>by cases h; exact Q2 (next H)
 | o :: r,S,H,h,next=>by
   unfold runO at h
   split at h
   ·rename_i d hg hd
    split at h
    ·rename_i hn
     split at h
     ·rename_i v hv
      have hrec:=fun H=>runO_ok (H:=H) h next
      unfold stepV at hv
      split at hv
      ·rename_i u hu
       obtain rfl:u = v:=by simpa using hv
       exact QM hg hd hn rfl hu (hrec H)
      ·split at hv
       ·rename_i a ts ho
        split at hv
        ·rename_i x t ha hts
         split at hv
         ·rename_i p k c e hx ht
          obtain rfl:=Option.some.inj (Option.some.inj hv)
          have ea:a = #[x]:=by rw [← Array.toList_inj]; simpa using ha
          have et:ts = #[t]:=by rw [← Array.toList_inj]; simpa using hts
          subst ea; subst et
          exact wl_len hg hd hn rfl ho hx ht (hrec H)
         · cases hv
        · cases hv
       ·split at hv
        ·split at hv
         · split at hv <;> cases hv
         · cases hv
        · cases hv
       · cases hv
       · cases hv
       · cases hv
     ·rename_i hv
      have hrec:=fun H=>runO_ok (H:=H) h next
      unfold stepV at hv
      split at hv
      · cases hv
      ·split at hv
       ·split at hv
        · split at hv <;> cases hv
        · cases hv
       ·rename_i t x y ho
        split at hv
        ·rename_i kx ky e hx hy he
         split at hv
         ·rename_i z sz by_ hr
          split at hv
          ·rename_i hc
           simp only [Bool.and_eq_true] at hc
           exact Q7y (m:=0) celR none hg hd hn rfl ho hx hy rfl rfl he hr hc.1.1 hc.1.2 (fun _ _=>cel_any hc.2) (by simp) (by decide) (fun g=>wl_outS (hrec _))
          · cases hv
         · cases hv
        · cases hv
       · rename_i ho; exact wl_moved hg hd hn (.inl ho) (hrec H)
       · rename_i ho; exact wl_moved hg hd hn (.inr ho) (hrec H)
       · cases hv
     · cases h
    · cases h
   ·rename_i d hg hd
    split at h
    ·rename_i hn
     exact wl_off hg hd hn rfl (runO_ok h next)
    · cases h
   · cases h
theorem wc_once {x:Code} (h:WC P C n (Exit.then (fun _ _=>False) Q) Φ H S x):WC P C n Q Φ H S (.loop x):=fun a w hf hw =>
 loop_idx (fun _ a w=>Frm n S a ∧ QU C Φ H w) (fun m a w hI=>wp_mono (h a w hI.1 hI.2) fun e a' w' hq=>by
  cases e with
  | normal=>exact hq.elim
  | _=>exact hq) 0 a w ⟨hf,hw⟩
theorem Q7x : ∀ {f:Nat} {c:Code} {S S' : List (Nat × Value)} {H:List Fact} {Q:Exit → Act → World → Prop} {e:Exit},runC P n f c S = some (e,S') → (∀ H,WE C n Q Φ H S' e) → WC P C n Q Φ H S c
 | 0,_,_,_,_,_,_,h,_=>by cases h
 | f + 1,c,S,S',H,Q,e,h,next=>by
   unfold runC at h
   split at h
   · cases h; exact Qt (next H)
   ·rename_i id ops
    cases ho:runO P n ops ops.toList S with
    | none=>rw [ho] at h; cases h
    | some S1 =>
      rw [ho] at h
      cases h
      have:=Q3 (id:=id) (runO_ok (C:=C) (Q:=Q) (Φ:=Φ) (H:=H) (all:=ops.toList.toArray) (by simpa using ho) next)
      simpa using this
   ·rename_i x y
    split at h
    · rename_i S1 hx
      exact Q6 (Q7x hx (fun H=>Q4 (Q7x h next)))
    · rename_i i S1 hx
      cases h
      exact Q6 (Q7x hx (fun H=>Qc (next H)))
    · rename_i S1 hx
      cases h
      exact Q6 (Q7x hx (fun H=>Qj (next H)))
    · cases h
   ·rename_i o x y
    split at h
    · rename_i hc; exact wc_true hc (Q7x h next)
    · rename_i hc; exact Q2X hc (Q7x h next)
    · cases h
   ·rename_i id x
    split at h
    · rename_i S1 hx
      cases h
      exact Qn (Q7x hx (fun H=>Qi (next H)))
    · rename_i i S1 hx
      by_cases hi:i = id
      ·subst hi
       rw [if_pos rfl] at h
       cases h
       exact Qn (Q7x hx (fun H=>Qu (next H)))
      ·rw [if_neg hi] at h
       cases h
       exact Qn (Q7x hx (fun H=>Q7a hi (next H)))
    · rename_i S1 hx
      cases h
      exact Qn (Q7x hx (fun H=>QR (next H)))
    · cases h
   ·rename_i x
    split at h
    · rename_i i S1 hx
      cases h
      exact wc_once (Q7x hx (fun H=>Qc (next H)))
    · rename_i S1 hx
      cases h
      exact wc_once (Q7x hx (fun H=>Qj (next H)))
    · cases h
   · cases h; exact Q19 (next H)
   · cases h; exact QJ (next H)
   · cases h
end
def nilTrue (P:Program) (n:Nat) (body:Code) (t:Nat):Bool:=match runC P n 200 body [(0,.slice none 0 0)] with
 | some (.ret,S)=>match look S t with
   | some (.bool true)=>true
   | _=>false
 | _=>false
theorem Q2D {P:Program} {fi:FuncId} {fn:Func} {body:Code} {n t:Nat} (hf:P.funcs[fi]? = some fn) (hb:fn.body = some body) (hn:fn.ntmps = n) (hres:fn.results = #[.tmp t]) (hle:Nat.ble 1 n = true) (hrun:nilTrue P n body t = true) :
  Q1z P fi [.slice none 0 0] [] [] (fun v Φr Hr=>v = .bool true ∧ Φr = [] ∧ Hr = []):=by
 unfold nilTrue at hrun
 split at hrun
 ·rename_i S hr
  split at hrun
  ·rename_i hl
   exact Q12 (S:=[(0,.slice none 0 0)]) hf hb hn hle rfl (fun C=>Q7x hr (fun H=>QA (Hr:=[]) [] hres (Qy hl) ⟨rfl,rfl,rfl⟩ (fun _ _ hφ=>ask [] rfl hφ) rfl rfl (.inl rfl)))
  · cases hrun
 · cases hrun
end Go.Proofs.YtgangmegcejllaaGreatDoor
