import Derived.Test.YtgangmegcejllaaGreatDoorFlat
namespace Go.Proofs.YtgangmegcejllaaGreatDoor
open Go Go.RowKit
def Bd (hs:List Hdr):Prop:=∀ h ∈ hs,h.2.1 ≤ 1073741824
theorem Bd.nil:Bd []:=fun _ h=>by cases h
theorem Bd.push {hs:List Hdr} {h:Hdr} (hb:Bd hs) (hn:h.2.1 ≤ 10000):Bd (hs ++ [h]):=fun x hx=>by
 rcases List.mem_append.1 hx with hx | hx
 · exact hb x hx
 · rw [List.mem_singleton.1 hx]; omega
theorem chunks_any {α:Type} {sz:Nat} {R:Rep α} {F:Q2O} {w:World} : ∀ {l:List α} {cs:List Value},Q1x sz (R.p F w) cs l → Q1x sz celO cs (List.replicate l.length (none:Cel))
 | [],_,h=>h
 | x :: l,cs,h=>by
   obtain ⟨a,b,e1,e2,e3,e4⟩:=h
   exact ⟨a,b,e1,e2,⟨R.one e3,fun _ h=>by cases h⟩,chunks_any e4⟩
theorem Q6u.any {α:Type} {e sz n c:Nat} {p:Option Addr} {R:Rep α} {F:Q2O} {l:List α} {w:World} (h:Q6u 0 e sz (R.p F w) l (.slice p n c) w):Q6u 0 e sz celO (List.replicate n (none:Cel)) (.slice p n c) w:=by
 obtain rfl:=h.len
 obtain ⟨xs,ho,hc⟩:=h
 exact ⟨xs,by rw [List.length_replicate]; exact ho,chunks_any hc⟩
section
variable {C:Ctx} {Φ H:List Fact} {w:World} {e sz n c:Nat} {p:Option Addr}
theorem FlatP.one {N F:Q2O} {α:Type} {R:Rep α} {l:List α} (h:(Fact.own e sz R (.slice p n c) l).op N F w):FlatP e sz [Q5P (p,n,c)] N w:=by
 obtain ⟨hN,ho⟩:=h
 refine ⟨fun i q=>i = 0 ∧ N q,fun i q hq=>hq.2,fun i j q hne hq hq'=>hne (hq.1.trans hq'.1.symm),fun i r hr=>?_⟩
 cases i with
 | succ i=>simp at hr
 | zero =>
   simp at hr; subst hr
   exact ⟨fun k hk=>⟨rfl,hN k hk⟩,fun k hk=>⟨rfl,hN k hk⟩,ho.any,ho.any,fun _=>Nat.le_refl _⟩
theorem QY.flOne {α:Type} {R:Rep α} {l:List α} (h:QY C Φ H w) (k:Nat) (hk:H[k]? = some (.own e sz R (.slice p n c) l)):QY C Φ (H.set k (Q1v e sz [Q5P (p,n,c)])) w :=
 h.as_ k hk (fun _ _ hf=>FlatP.one hf)
theorem QY.flNil (e sz:Nat) (h:QY C Φ H w):QY C Φ (Q1v e sz [] :: H) w:=by
 obtain ⟨F,N,hi⟩:=h
 exact ⟨F,_,hi.push (Q1v e sz []) (fun _=>False) ⟨fun _ _=>False,fun _ _ h=>h,fun _ _ _ _ h=>h.elim,fun i r hr=>by simp at hr⟩ (fun k hk=>hk.elim) (fun _ k _ hk=>hk.elim)⟩
theorem QY.flPush {hs:List Hdr} {h0:Hdr} (h:QY C Φ H w) (j k:Nat) (hne:Nat.beq j k = false) (hj:H[j]? = some (Q1v e sz (hs.map Q5P))) (hk:H[k]? = some (Q1v e sz [Q5P h0])):QY C Φ ((H.set j (Q1v e sz ((hs ++ [h0]).map Q5P))).eraseIdx k) w:=by
 refine h.join (φ:=Q1v e sz ((hs ++ [h0]).map Q5P)) j k (fun e=>by rw [e,Nat.beq_refl] at hne; cases hne) hj hk ?_
 intro A B F ha hb hd
 obtain ⟨Ns,a1,a2,a3⟩:=ha
 obtain ⟨Ms,b1,b2,b3⟩:=hb
 refine ⟨fun i q=>(i < hs.length ∧ Ns i q) ∨ (i = hs.length ∧ Ms 0 q),fun i q hq=>hq.elim (fun hq=>.inl (a1 i q hq.2)) (fun hq=>.inr (b1 0 q hq.2)),fun i i' q hne hq hq'=>?_,fun i r hr=>?_⟩
 ·rcases hq with hq | hq <;> rcases hq' with hq' | hq'
  · exact a2 i i' q hne hq.2 hq'.2
  · exact hd q (a1 i q hq.2) (b1 0 q hq'.2)
  · exact hd q (a1 i' q hq'.2) (b1 0 q hq.2)
  · exact hne (hq.1.trans hq'.1.symm)
 ·rw [List.map_append] at hr
  by_cases hi:i < hs.length
  ·rw [List.getElem?_append_left (by simpa using hi)] at hr
   exact (a3 i r hr).good (fun q hq=>.inl ⟨hi,hq⟩) (Q2P.refl _ _)
  ·rw [List.getElem?_append_right (by simpa using hi)] at hr
   have hil:i = hs.length:=by
    have:=(List.getElem?_eq_some_iff.1 hr).1
    simp at this; omega
   subst hil
   simp at hr
   exact (b3 0 r (by simpa using hr)).good (fun q hq=>.inr ⟨rfl,hq⟩) (Q2P.refl _ _)
theorem QY.bagUncons {α Λ:Type} {T:Tre α Λ} {zs:List (α × Λ)} {x : α × Λ} {i:Nat} (h:QY C Φ H w) (j:Nat) (hj:H[j]? = some (Q2j T (zs.drop i) none)) (hz:zs[i]? = some x):QY C Φ ((T.G x.1 x.2).reverse ++ H.set j (Q2j T (zs.drop (i + 1)) none)) w:=by
 obtain ⟨x,r⟩:=x
 have h0:(zs.drop i)[0]? = some (x,r):=by rw [List.getElem?_drop]; simpa using hz
 have h1:=h.bagOpen j 0 hj h0
 have hlt:=(List.getElem?_eq_some_iff.1 hj).1
 have h2:=h1.as_ (φ:=Q2j T (zs.drop i) (some 0)) (φ':=Q2j T (zs.drop (i + 1)) none) ((T.G x r).reverse.length + j) (by
  rw [List.getElem?_append_right (by omega)]
  simp [List.getElem?_set_self,hlt]) (fun N F hb=>by
   obtain ⟨Ns,a1,a2,a3⟩:=hb
   refine ⟨fun k=>Ns (k + 1),fun k q hq=>a1 _ q hq,fun k k' q hne hq hq'=>a2 _ _ q (by omega) hq hq',fun k z hk _=>a3 (k + 1) z ?_ (by simp)⟩
   rw [List.getElem?_drop] at hk ⊢
   rw [← hk]; congr 1; omega)
 rw [List.set_append_right _ _ (by omega),Nat.add_sub_cancel_left,List.set_set] at h2
 exact h2
end
end Go.Proofs.YtgangmegcejllaaGreatDoor
namespace Go.Proofs.YtgangmegcejllaaGreatDoor
open Go Go.RowKit
def stepV (P:Program) (S:List (Nat × Value)) (op:Op):Option (Option Value) :=
 match pureOp S op with
 | some v=>some (some v)
 | none=>match op with
   | .call { callee:=.builtin .len,args:=a,argTypes:=ts }=>match a.toList,ts.toList with
     | [x],[t]=>match evS S x,Q3A P t with
       | some (.slice _ k _),some _=>some (some (.int .i64 (k:Int)))
       | _,_=>none
     | _,_=>none
   | .makeSlice t x y=>match evS S x,evS S y,Q3A P t with
     | some (.int _ 0),some (.int _ 0),some e=>match tRow P e with
       | some (z,sz,_)=>if Nat.beq z.cells.size sz && Nat.blt 0 sz && allOne z.cells.toList then some none else none
       | none=>none
     | _,_,_=>none
   | .move (.tmp _)=>some none
   | .assign (.tmp _)=>some none
   | _=>none
theorem wl_moved {P:Program} {C:Ctx} {n:Nat} {Q:Exit → Act → World → Prop} {Φ:List Fact} {H:List Fact} {S:List (Nat × Value)} {ops:Array Oper} {rest:List Oper} {o:Oper} {d:Nat} {x:Operand} (hg:Q1J ops S o = some true) (hd:o.dst = some d) (hn:Nat.blt d n = true) (ho:o.op = .move x ∨ o.op = .assign x)
  (next:WL P C n Q Φ H (Q3b d S) ops rest):WL P C n Q Φ H S ops (o :: rest) :=
 Q6N hg hd hn rfl fun a w hf hw=>⟨a.eval x,w,by rcases ho with ho | ho <;> simp [execOp,ho],Φ,H,hw,fun a' w' hf' hw'=>next a' w' (hf'.sub fun y hy=>List.mem_cons_of_mem _ hy) hw'⟩
def runO (P:Program) (n:Nat) (all:Array Oper):List Oper → List (Nat × Value) → Option (List (Nat × Value))
 | [],S=>some S
 | o :: r,S=>match Q1J all S o,o.dst with
   | some true, some d => if Nat.blt d n then match stepV P S o.op with
     | some (some v)=>runO P n all r ((d,v) :: Q3b d S)
     | some none=>runO P n all r (Q3b d S)
     | none=>none
    else none
   | some false,some d=>if Nat.blt d n then runO P n all r ((d,undef) :: Q3b d S) else none
   | _,_=>none
def runC (P:Program) (n:Nat):Nat → Code → List (Nat × Value) → Option (Exit × List (Nat × Value))
 | 0,_,_=>none
 | f + 1,c,S=>match c with
   | .skip=>some (.normal,S)
   | .region _ ops false=>(runO P n ops ops.toList S).map fun S'=>(.normal,S')
   | .seq x y=>match runC P n f x S with
     | some (.normal,S1)=>runC P n f y S1
     | some (.exit i,S1)=>some (.exit i,S1)
     | some (.ret,S1)=>some (.ret,S1)
     | _=>none
   | .cond o x y=>match evS S o with
     | some (.bool true)=>runC P n f x S
     | some (.bool false)=>runC P n f y S
     | _=>none
   | .block id x=>match runC P n f x S with
     | some (.normal,S1)=>some (.normal,S1)
     | some (.exit i,S1)=>some (if i = id then .normal else .exit i,S1)
     | some (.ret,S1)=>some (.ret,S1)
     | _=>none
   | .loop x=>match runC P n f x S with
     | some (.exit i,S1)=>some (.exit i,S1)
     | some (.ret,S1)=>some (.ret,S1)
     | _=>none
   | .exit i=>some (.exit i,S)
   | .ret=>some (.ret,S)
   | _=>none
section
variable {P:Program} {C:Ctx} {n:Nat} {Q:Exit → Act → World → Prop} {Φ:List Fact} {H:List Fact} {S S' : List (Nat × Value)} {all:Array Oper}
theorem wl_outS {d:Nat} {ops:Array Oper} {rest:List Oper} {v:Value} (h:WL P C n Q Φ H (Q3b d S) ops rest):WL P C n Q Φ H ((d,v) :: Q3b d S) ops rest:=fun a w hf hw=>h a w (hf.sub fun x hx=>List.mem_cons_of_mem _ hx) hw
theorem runO_ok : ∀ {l:List Oper} {S:List (Nat × Value)} {H:List Fact},runO P n all l S = some S' → (∀ H,WE C n Q Φ H S' .normal) → WL P C n Q Φ H S all l
 | [],S,H,h,next=>by cases h; exact Q3 (next H)
 | o :: r,S,H,h,next=>by
   unfold runO at h
   split at h
   ·rename_i d hg hd
    split at h
    ·rename_i hn
     split at h
     ·rename_i v hv
      have hrec:=fun H=>runO_ok (H:=H) h next
      unfold stepV at hv
      split at hv
      ·rename_i u hu
       obtain rfl:u = v:=by simpa using hv
       exact QI hg hd hn rfl hu (hrec H)
      ·split at hv
       ·rename_i a ts ho
        split at hv
        ·rename_i x t ha hts
         split at hv
         ·rename_i p k c e hx ht
          obtain rfl:=Option.some.inj (Option.some.inj hv)
          have ea:a = #[x]:=by rw [← Array.toList_inj]; simpa using ha
          have et:ts = #[t]:=by rw [← Array.toList_inj]; simpa using hts
          subst ea; subst et
          exact wl_len hg hd hn rfl ho hx ht (hrec H)
         · cases hv
        · cases hv
       ·split at hv
        ·split at hv
         · split at hv <;> cases hv
         · cases hv
        · cases hv
       · cases hv
       · cases hv
       · cases hv
     ·rename_i hv
      have hrec:=fun H=>runO_ok (H:=H) h next
      unfold stepV at hv
      split at hv
      · cases hv
      ·split at hv
       ·split at hv
        · split at hv <;> cases hv
        · cases hv
       ·rename_i t x y ho
        split at hv
        ·rename_i kx ky e hx hy he
         split at hv
         ·rename_i z sz by_ hr
          split at hv
          ·rename_i hc
           simp only [Bool.and_eq_true] at hc
           exact Q7R (m:=0) celR none hg hd hn rfl ho hx hy rfl rfl he hr hc.1.1 hc.1.2 (fun _ _=>cel_any hc.2) (by simp) (by decide) (fun g=>wl_outS (hrec _))
          · cases hv
         · cases hv
        · cases hv
       · rename_i ho; exact wl_moved hg hd hn (.inl ho) (hrec H)
       · rename_i ho; exact wl_moved hg hd hn (.inr ho) (hrec H)
       · cases hv
     · cases h
    · cases h
   ·rename_i d hg hd
    split at h
    ·rename_i hn
     exact wl_off hg hd hn rfl (runO_ok h next)
    · cases h
   · cases h
theorem wc_once {x:Code} (h:WC P C n (Exit.then (fun _ _=>False) Q) Φ H S x):WC P C n Q Φ H S (.loop x):=fun a w hf hw =>
 loop_idx (fun _ a w=>Frm n S a ∧ QY C Φ H w) (fun m a w hI=>wp_mono (h a w hI.1 hI.2) fun e a' w' hq=>by
  cases e with
  | normal=>exact hq.elim
  | _=>exact hq) 0 a w ⟨hf,hw⟩
theorem Q7f : ∀ {f:Nat} {c:Code} {S S' : List (Nat × Value)} {H:List Fact} {Q:Exit → Act → World → Prop} {e:Exit},runC P n f c S = some (e,S') → (∀ H,WE C n Q Φ H S' e) → WC P C n Q Φ H S c
 | 0,_,_,_,_,_,_,h,_=>by cases h
 | f + 1,c,S,S',H,Q,e,h,next=>by
   unfold runC at h
   split at h
   · cases h; exact Qs (next H)
   ·rename_i id ops
    cases ho:runO P n ops ops.toList S with
    | none=>rw [ho] at h; cases h
    | some S1 =>
      rw [ho] at h
      cases h
      have:=Q2 (id:=id) (runO_ok (C:=C) (Q:=Q) (Φ:=Φ) (H:=H) (all:=ops.toList.toArray) (by simpa using ho) next)
      simpa using this
   ·rename_i x y
    split at h
    · rename_i S1 hx
      exact Q6 (Q7f hx (fun H=>Q4 (Q7f h next)))
    · rename_i i S1 hx
      cases h
      exact Q6 (Q7f hx (fun H=>Qc (next H)))
    · rename_i S1 hx
      cases h
      exact Q6 (Q7f hx (fun H=>Qn (next H)))
    · cases h
   ·rename_i o x y
    split at h
    · rename_i hc; exact wc_true hc (Q7f h next)
    · rename_i hc; exact Q4q hc (Q7f h next)
    · cases h
   ·rename_i id x
    split at h
    · rename_i S1 hx
      cases h
      exact Qm (Q7f hx (fun H=>Qj (next H)))
    · rename_i i S1 hx
      by_cases hi:i = id
      ·subst hi
       rw [if_pos rfl] at h
       cases h
       exact Qm (Q7f hx (fun H=>Qt (next H)))
      ·rw [if_neg hi] at h
       cases h
       exact Qm (Q7f hx (fun H=>Q6W hi (next H)))
    · rename_i S1 hx
      cases h
      exact Qm (Q7f hx (fun H=>Q11 (next H)))
    · cases h
   ·rename_i x
    split at h
    · rename_i i S1 hx
      cases h
      exact wc_once (Q7f hx (fun H=>Qc (next H)))
    · rename_i S1 hx
      cases h
      exact wc_once (Q7f hx (fun H=>Qn (next H)))
    · cases h
   · cases h; exact Q19 (next H)
   · cases h; exact QP (next H)
   · cases h
end
def nilTrue (P:Program) (n:Nat) (body:Code) (t:Nat):Bool:=match runC P n 200 body [(0,.slice none 0 0)] with
 | some (.ret,S)=>match look S t with
   | some (.bool true)=>true
   | _=>false
 | _=>false
theorem Q3y {P:Program} {fi:FuncId} {fn:Func} {body:Code} {n t:Nat} (hf:P.funcs[fi]? = some fn) (hb:fn.body = some body) (hn:fn.ntmps = n) (hres:fn.results = #[.tmp t]) (hle:Nat.ble 1 n = true) (hrun:nilTrue P n body t = true) :
  Q1R P fi [.slice none 0 0] [] [] (fun v Φr Hr=>v = .bool true ∧ Φr = [] ∧ Hr = []):=by
 unfold nilTrue at hrun
 split at hrun
 ·rename_i S hr
  split at hrun
  ·rename_i hl
   exact QZ (S:=[(0,.slice none 0 0)]) hf hb hn hle rfl (fun C=>Q7f hr (fun H=>QH (Hr:=[]) [] hres (QD hl) ⟨rfl,rfl,rfl⟩ (fun _ _ hφ=>ask [] rfl hφ) rfl rfl (.inl rfl)))
  · cases hrun
 · cases hrun
end Go.Proofs.YtgangmegcejllaaGreatDoor
