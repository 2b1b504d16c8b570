import Derived.Test.YtgangmegcejllaaGreatDoorDyn
import Derived.Deep.DeepAppendRoom
namespace Go.Proofs.YtgangmegcejllaaGreatDoor
open Go Go.RowKit
theorem putL_left {a b v:List Value} {i:Nat} (h:i + v.length ≤ a.length):putL (a ++ b) i v = putL a i v ++ b:=by
 unfold putL
 rw [List.take_append_of_le_length (by omega),List.drop_append_of_le_length (by omega)]
 simp [List.append_assoc]
theorem putL_right {a b v:List Value} {i j:Nat} (h:i = a.length + j):putL (a ++ b) i v = a ++ putL b j v:=by
 subst h
 unfold putL
 rw [List.take_length_add_append,Nat.add_assoc,List.drop_length_add_append]
 simp [List.append_assoc]
theorem putL_length {a v:List Value} {i:Nat} (h:i + v.length ≤ a.length):(putL a i v).length = a.length:=by
 unfold putL; simp; omega
theorem Q1F.part {α:Type} {sz:Nat} {R:List Value → α → Prop} {v:List Value} {i:Nat} {y u : α} (hR : ∀ cs,R cs y → cs.length = sz → R (putL cs i v) u) (hv:i + v.length ≤ sz) :
   ∀ {l:List α} {xs:List Value} {k:Nat},Q1F sz R xs l → l[k]? = some y → Q1F sz R (putL xs (k * sz + i) v) (l.set k u)
 | [],_,_,_,hx=>by simp at hx
 | z :: l,xs,0,h,hx=>by
   obtain ⟨cs,rest,rfl,h1,h3,h2⟩:=h
   simp at hx; subst hx
   refine ⟨putL cs i v,rest,?_,by rw [putL_length (by omega),h1],hR cs h3 h1,h2⟩
   rw [Nat.zero_mul,Nat.zero_add]; exact putL_left (by omega)
 | z :: l,xs,k + 1,h,hx=>by
   obtain ⟨cs,rest,rfl,h1,h3,h2⟩:=h
   refine ⟨cs,putL rest (k * sz + i) v,putL_right (by rw [h1,Nat.succ_mul]; omega),h1,h3,Q1F.part hR hv h2 (by simpa using hx)⟩
theorem Q6k.part {α:Type} {B:Nat} {w:World} {e:TypeId} {sz:Nat} {R:List Value → α → Prop} {l:List α} {g n c:Nat} (h:Q6k B e sz R l (.slice (some ⟨g,0,none⟩) n c) w) (hn:n = l.length) (k i:Nat) {y u : α} {v:List Value} (hk:l[k]? = some y)
  (hR : ∀ cs,R cs y → cs.length = sz → R (putL cs i v) u) (hv:i + v.length ≤ sz) :
  Q6k B e sz R (l.set k u) (.slice (some ⟨g,0,none⟩) n c) (Q3d w g (k * sz + i) v) ∧ Mod (fun i=>i = g) w (Q3d w g (k * sz + i) v):=by
 obtain ⟨xs,ho,hx⟩:=h
 have key : ∀ (cs:List Value) (xs:List Value) (w:World) (o:Nat),w.ownsRow B e sz (.slice (some ⟨g,0,none⟩) n c) l.length xs →
    (Q3d w g o cs).ownsRow B e sz (.slice (some ⟨g,0,none⟩) n c) l.length (Q9P xs o cs) ∧ Mod (fun i=>i = g) w (Q3d w g o cs):=by
  intro cs
  induction cs with
  | nil=>intro xs w o h; exact ⟨h,Mod.refl _ _⟩
  | cons d ds ih =>
    intro xs w o h
    subst hn
    have h1:=h.stored o d
    obtain ⟨i1,i2⟩:=ih _ _ (o + 1) h1.1
    exact ⟨i1,Mod.trans (S:=fun i=>i = g) (Mod.setCell (S:=fun i=>i = g) (Mod.refl _ w) (p:=⟨g,o,none⟩) (fun _=>rfl) d) i2⟩
 obtain ⟨k1,k2⟩:=key v xs w (k * sz + i) ho
 have hlen:=hx.length
 have hlt:=(List.getElem?_eq_some_iff.1 hk).1
 have hle:k * sz + sz ≤ l.length * sz:=by rw [← Nat.succ_mul]; exact Nat.mul_le_mul_right _ hlt
 rw [Q9J xs _ _ (by omega)] at k1
 exact ⟨⟨_,by rw [List.length_set]; exact k1,hx.part hR hv hk⟩,k2⟩
section
variable {P:Program} {C:Ctx} {n:Nat} {Q:Exit → Act → World → Prop} {Φ Φ' : List Fact} {H H' : List Fact} {S S' : List (Nat × Value)} {ops:Array Oper} {rest:List Oper} {o:Oper} {d:Nat}
theorem wl_storePart {α:Type} {t e sz st m g:Nat} {x z:Operand} {R:Rep α} {cp:Nat} {l:List α} {cs:List Value} {v:Value} {y u : α} (k j i:Nat)
  (hg:Q1L ops S o = some true) (hd:o.dst = none) (ho:o.op = .store t x z)
  (hφ:H[k]? = some (.own e sz R (.slice (some ⟨g,0,none⟩) m cp) l)) (hx:evS S x = some (.pointer (some ⟨g,j * sz + i,none⟩))) (hj:l[j]? = some y) (hy:evS S z = some v) (hv:v.cells.toList = cs) (hs:Q1G P t = some st) (hl:Nat.beq cs.length st = true) (hle:Nat.ble (i + st) sz = true)
  (hr : ∀ F w,(∀ ψ ∈ Φ,ψ.p F w) → ∀ ds,R.p F w ds y → R.p F w (putL ds i cs) u) {l' : List α} (hset:l.set j u = l') (hH:H.set k (.own e sz R (.slice (some ⟨g,0,none⟩) m cp) l') = H') (next:WL P C n Q Φ H' S ops rest):WL P C n Q Φ H S ops (o :: rest):=by
 have hl':=Nat.eq_of_beq_eq_true hl
 have hle':=Nat.le_of_ble_eq_true hle
 subst hset
 subst hH
 refine wl_do hg hd (fun a w hf hw=>?_) next
 obtain ⟨F,N,hi⟩:=hw
 have hlt:=(List.getElem?_eq_some_iff.1 hφ).1
 have hjl:=(List.getElem?_eq_some_iff.1 hj).1
 obtain ⟨hN,hown⟩:=hi.owns k _ hφ
 have hlen:m = l.length:=hown.len
 have hR:=hr F w hi.facts
 obtain ⟨h1,h2⟩:=hown.part hlen j i hj (fun cs' h _=>hR cs' h) (by omega)
 have hM:Mod (N k) w (Q3d w g (j * sz + i) cs):=h2.mono fun i _ e=>by rw [e]; exact hN g rfl
 refine ⟨Q3d w g (j * sz + i) cs,?_,⟨F,N,hi.set k hlt hM _ ⟨hN,h1.rel fun cs' x' h=>R.good (fun _ h=>h) (fun q hq=>hM.block q (hi.flt q hq) fun hn=>(hi.nlt k q hlt hn).2.2 hq) h⟩⟩⟩
 have hsz:v.cells.size = st:=by rw [← hl',← hv]; simp
 obtain ⟨xs,ho',hch⟩:=hown
 obtain ⟨ds,hd1,hd2,_⟩:=hch.at hj
 have hone : ∀ u ∈ cs,u.oneCell' = true:=fun c hc=>R.one (hR ds hd2) c (by unfold putL; simp [hc])
 rcases ho'.2 with ⟨h0,_⟩ | ⟨g',cap,cur,hv',_,hh,hnc,_,hcs,_⟩
 · cases h0
 ·cases hv'
  have hh' : w.heap[g]? = some (.cells cur.toList.toArray e):=by simpa using hh
  have hle:j * sz + sz ≤ l.length * sz:=by rw [← Nat.succ_mul]; exact Nat.mul_le_mul_right _ hjl
  have hle2:l.length * sz ≤ cp * sz:=Nat.mul_le_mul_right _ hnc
  have:=Q4v (P:=P) cs cur.toList (j * sz + i) 0 w hh' (by simp [hcs,hl']; omega) hone
  simp only [execOp,ho,hf.eval hx,hf.eval hy,Instr.storeAt,Instr.sureAddr,storeVar,Sem.run_bind,Sem.run_pure,Result.andThen_ok,Q2L hs,hsz,hv]
  simp [this]
theorem wl_appendSelf {α:Type} {t e sz by_ g m cp cx:Nat} {s x:Operand} {R:Rep α} {z:Value} {l:List α} {ad:Addr} (k i j:Nat) (hg:Q1L ops S o = some true) (hd:o.dst = some d) (hn:Nat.blt d n = true) (hS:Q2r d S = S')
  (ho:o.op = .call { callee:=.builtin .append,args:=#[s,x],argTypes:=#[t,t] }) (hφ:H[k]? = some (.own e sz R (.slice (some ⟨g,0,none⟩) m cp) l)) (hs:evS S s = some (.slice (some ⟨g,0,none⟩) i cp)) (hx:evS S x = some (.slice (some ad) (l.length - j) cx))
  (hi:i ≤ j) (hj:j ≤ l.length) (hq : 0 < l.length - j → ad = ⟨g,j * sz,none⟩)
  (he:Q2E P t = some e) (hr:tRow P e = some (z,sz,by_)) {H2:List Fact} (hH:H.set k (.own e sz R (.slice (some ⟨g,0,none⟩) (l.take i ++ l.drop j).length cp) (l.take i ++ l.drop j)) = H2) (next:l.length ≤ cp → WL P C n Q Φ H2 ((d,.slice (some ⟨g,0,none⟩) (l.take i ++ l.drop j).length cp) :: S') ops rest):WL P C n Q Φ H S ops (o :: rest):=by
 refine Q72 hg hd hn hS fun a w hf hw=>?_
 obtain ⟨F,N,hi'⟩:=hw
 have hlt:=(List.getElem?_eq_some_iff.1 hφ).1
 obtain ⟨hN,xs,hown,hch⟩:=hi'.owns k _ hφ
 have hcap:l.length ≤ cp:=by
  rcases hown.2 with ⟨h0,_⟩ | ⟨g',cap,cur,hv,hb,hh,hnc,_⟩
  · cases h0
  · cases hv; exact hnc
 obtain ⟨inf,hinfo,hz,hsize,hbytes⟩:=Qa4 hr
 have hti:(l.take i).length = i:=by simp; omega
 have hdj:(l.drop j).length = l.length - j:=by simp
 have hxl:=hch.length
 have hown1:w.ownsRow 0 e sz (.slice (some ⟨g,0,none⟩) i cp) i (xs.take (i * sz)):=by
  rcases hown.2 with ⟨h0,_⟩ | ⟨g',cap,cur,hv,hb,hh,hnc,hcm,hcs,htake⟩
  · cases h0
  ·cases hv
   have hle:i * sz ≤ l.length * sz:=Nat.mul_le_mul_right _ (Nat.le_trans hi hj)
   refine ⟨by simp; omega,.inr ⟨g,cp,cur,rfl,hb,hh,by omega,hcm,hcs,?_⟩⟩
   rw [← htake,List.take_take,Nat.min_eq_left hle]
 have hcd:=hch.drop j
 have hm:(xs.drop (j * sz)).length = (l.length - j) * sz:=by rw [hcd.length,hdj]
 have hnews : ∀ y u,(xs.drop (j * sz))[y]? = some u → w.cell? (ad.add y) = some u:=fun y u hy=>by
  have h0 : 0 < l.length - j:=by
   rcases Nat.eq_zero_or_pos (l.length - j) with h | h
   ·have h9:xs.drop (j * sz) = []:=List.eq_nil_of_length_eq_zero (by rw [hm,h,Nat.zero_mul])
    rw [h9] at hy; cases hy
   · exact h
  rw [hq h0]
  rw [List.getElem?_drop] at hy
  have:=hown.cells (g:=g) rfl _ u hy
  rw [Q5u] at this ⊢
  simpa using this
 obtain ⟨w',hrun,hown',hgrow⟩:=run_append_own_spare (P:=P) w 0 t o.type e inf sz (Q29 he) hinfo hsize g i cp _ hown1 ad (l.length - j) cx (xs.drop (j * sz)) hm hnews
  (fun u hu=>hch.all (p:=fun u=>u.oneCell' = true) (fun cs y hr=>R.one hr) u (List.mem_of_mem_drop hu)) (by omega)
 have hml:(l.take i ++ l.drop j).length = i + (l.length - j):=by rw [List.length_append,hti,hdj]
 have hM:Mod (N k) w w':=⟨hgrow.os,hgrow.tape,hgrow.output,hgrow.size,fun j hj hn=>hgrow.block j hj fun e=>hn (hN j e.symm)⟩
 have hF:Q2b F w w':=fun j hj=>hM.block j (hi'.flt j hj) (fun hn=>(hi'.nlt k j hlt hn).2.2 hj)
 have hOL:Q6k 0 e sz (R.p F w') (l.take i ++ l.drop j) (.slice (some ⟨g,0,none⟩) (l.take i ++ l.drop j).length cp) w':=⟨xs.take (i * sz) ++ xs.drop (j * sz),by rw [hml]; exact hown',((hch.take i).append hcd).mono fun cs y _ h=>R.good (fun _ h=>h) hF h⟩
 refine ⟨_,w',?_,Φ,_,⟨F,_,hi'.set k hlt hM (.own e sz R (.slice (some ⟨g,0,none⟩) (l.take i ++ l.drop j).length cp) (l.take i ++ l.drop j)) ⟨fun q hq=>hN q hq,hOL⟩⟩,by rw [hH]; exact next hcap⟩
 simp [execOp,ho,resolve,invoke,builtin,hf.eval hs,hf.eval hx,hrun,hml]
theorem wl_sliceFrom {t e sz c m j g:Nat} {x y:Operand} {z:Int} (hg:Q1L ops S o = some true) (hd:o.dst = some d) (hn:Nat.blt d n = true) (hS:Q2r d S = S') (ho:o.op = .slice t x (some y) none none)
  (hx:evS S x = some (.slice (some ⟨g,0,none⟩) m c)) (hy:evS S y = some (.int .i64 z)) (hz:z = (j:Int)) (ht:Q2E P t = some e) (hs:Q1G P e = some sz) (hj:j ≤ m) (hc:m ≤ c)
  (next : ∀ ad:Addr,(j < c → ad = ⟨g,j * sz,none⟩) → WL P C n Q Φ H ((d,.slice (some ad) (m - j) (c - j)) :: S') ops rest):WL P C n Q Φ H S ops (o :: rest):=by
 subst hz
 refine Q8l hg hd hn hS (fun a w hf hw=>?_) (next (if c = j then ⟨g,0,none⟩ else ⟨g,j * sz,none⟩) fun h=>if_neg (by omega))
 simp [execOp,ho,hf.eval hx,hf.eval hy,Instr.sliceAt,Instr.slice,run_underlying (Q29 ht),Instr.sliceBounds,Instr.sliceBound,asIntOf,hc,hj,Q2L hs]
 split <;> simp [Q5u]
theorem wl_sliceMid {t e sz c m i h g:Nat} {x y u:Operand} {z1 z2:Int} (hg:Q1L ops S o = some true) (hd:o.dst = some d) (hn:Nat.blt d n = true) (hS:Q2r d S = S') (ho:o.op = .slice t x (some y) (some u) none)
  (hx:evS S x = some (.slice (some ⟨g,0,none⟩) m c)) (hy:evS S y = some (.int .i64 z1)) (hz1:z1 = (i:Int)) (hu:evS S u = some (.int .i64 z2)) (hz2:z2 = (h:Int)) (ht:Q2E P t = some e) (hs:Q1G P e = some sz) (hj:i ≤ h) (hc:h ≤ c)
  (next : ∀ ad:Addr,(i < c → ad = ⟨g,i * sz,none⟩) → WL P C n Q Φ H ((d,.slice (some ad) (h - i) (c - i)) :: S') ops rest):WL P C n Q Φ H S ops (o :: rest):=by
 subst hz1; subst hz2
 refine Q8l hg hd hn hS (fun a w hf hw=>?_) (next (if c = i then ⟨g,0,none⟩ else ⟨g,i * sz,none⟩) fun h=>if_neg (by omega))
 simp [execOp,ho,hf.eval hx,hf.eval hy,hf.eval hu,Instr.sliceAt,Instr.slice,run_underlying (Q29 ht),Instr.sliceBounds,Instr.sliceBound,asIntOf,hc,hj,Q2L hs]
 split <;> simp [Q5u]
theorem wl_slice3 {t e sz c m i h k g:Nat} {x y u q:Operand} {z1 z2 z3:Int} (hg:Q1L ops S o = some true) (hd:o.dst = some d) (hn:Nat.blt d n = true) (hS:Q2r d S = S') (ho:o.op = .slice t x (some y) (some u) (some q))
  (hx:evS S x = some (.slice (some ⟨g,0,none⟩) m c)) (hy:evS S y = some (.int .i64 z1)) (hz1:z1 = (i:Int)) (hu:evS S u = some (.int .i64 z2)) (hz2:z2 = (h:Int)) (hq:evS S q = some (.int .i64 z3)) (hz3:z3 = (k:Int)) (ht:Q2E P t = some e) (hs:Q1G P e = some sz) (hj:i ≤ h) (hh:h ≤ k) (hc:k ≤ c)
  (next : ∀ ad:Addr,WL P C n Q Φ H ((d,.slice (some ad) (h - i) (k - i)) :: S') ops rest):WL P C n Q Φ H S ops (o :: rest):=by
 subst hz1; subst hz2; subst hz3
 refine Q8l hg hd hn hS (fun a w hf hw=>?_) (next (if k = i then ⟨g,0,none⟩ else ⟨g,i * sz,none⟩))
 simp [execOp,ho,hf.eval hx,hf.eval hy,hf.eval hu,hf.eval hq,Instr.sliceAt,Instr.slice,run_underlying (Q29 ht),Instr.sliceBounds,Instr.sliceBound,asIntOf,hc,hj,hh,Q2L hs]
 split <;> simp [Q5u]
theorem wl_doV (hg:Q1L ops S o = some true) (hd:o.dst = none) (run : ∀ a w,Frm n S a → QU C Φ H w → ∃ v w',(execOp a.eval o).run P w = .ok (.value v) w' ∧ QU C Φ' H' w') (next:WL P C n Q Φ' H' S ops rest):WL P C n Q Φ H S ops (o :: rest):=by
 intro a w hf hw
 obtain ⟨v,w',hr,h1⟩:=run a w hf hw
 refine wpList_step fun K hK=>?_
 rw [Q70 hf hg,if_pos rfl]
 unfold Oper.wp
 rw [hr]
 unfold Oper.upon
 rw [hd]
 exact hK _ _ (next _ _ hf h1)
theorem zeroCells_one {z:Value} {k:Nat} (h : ∀ u ∈ z.cells.toList,u.oneCell' = true) (h0 : 0 < z.cells.size) : ∀ u ∈ (Builtin.zeroCells z.cells k).toList,u.oneCell' = true:=by
 intro u hu
 simp only [Builtin.zeroCells,Array.toList_map,List.mem_map] at hu
 obtain ⟨i,_,rfl⟩:=hu
 have hlt:i % z.cells.size < z.cells.size:=Nat.mod_lt _ h0
 rw [getElem!_pos z.cells _ hlt]
 exact h _ (Array.getElem_mem_toList hlt)
theorem wl_clearTail {α:Type} {t e sz m cp k' cx g:Nat} {x:Operand} {R:Rep α} {z:Value} {l:List α} {ad:Addr} (k:Nat) (hg:Q1L ops S o = some true) (hd:o.dst = none)
  (ho:o.op = .call { callee:=.builtin .clear,args:=#[x],argTypes:=#[t] }) (hφ:H[k]? = some (.own e sz R (.slice (some ⟨g,0,none⟩) m cp) l)) (hx:evS S x = some (.slice (some ad) k' cx))
  (hq : 0 < k' → ad = ⟨g,m * sz,none⟩) (hfit:m + k' ≤ cp) (he:Q2E P t = some e) (hz:Q6I P e = some z) (hzs:Nat.beq z.cells.size sz = true) (hsz:Nat.blt 0 sz = true) (h1:z.cells.toList.all (·.oneCell') = true)
  (next:WL P C n Q Φ H S ops rest):WL P C n Q Φ H S ops (o :: rest):=by
 have hzs':=Nat.eq_of_beq_eq_true hzs
 have hsz' : 0 < sz:=Nat.le_of_ble_eq_true hsz
 refine wl_doV hg hd (fun a w hf hw=>?_) next
 rcases Nat.eq_zero_or_pos k' with rfl | h0
 ·refine ⟨.tuple #[],w,?_,hw⟩
  simp [execOp,ho,resolve,invoke,builtin,hf.eval hx,Builtin.clear_,run_underlying (Q29 he)]
 ·obtain rfl:=hq h0
  obtain ⟨F,N,hi⟩:=hw
  have hlt:=(List.getElem?_eq_some_iff.1 hφ).1
  obtain ⟨hN,hown⟩:=hi.owns k _ hφ
  have hlen:m = l.length:=hown.len
  subst hlen
  obtain ⟨xs,ho',hch⟩:=hown
  rcases ho'.2 with ⟨h00,_⟩ | ⟨g',cap,cur,hv',hb,hh,hnc,hcm,hcs,htake⟩
  · cases h00
  ·cases hv'
   let zs:=(Builtin.zeroCells z.cells k').toList
   have hzl:zs.length = k' * sz:=by simp [zs,Builtin.zeroCells,hzs']
   have hle:l.length * sz + k' * sz ≤ cur.toList.length:=by
    have q1:=Nat.mul_le_mul_right sz hfit
    have q2:cur.toList.length = cp * sz:=by rw [Array.length_toList,hcs]
    rw [Nat.add_mul] at q1
    omega
   have hh' : w.heap[g]? = some (.cells cur.toList.toArray e):=by simpa using hh
   have hst:=Q4v (P:=P) zs cur.toList (l.length * sz) 0 w hh' (by omega) (zeroCells_one (List.all_eq_true.1 h1) (by omega))
   have hM0:=Qah g zs (l.length * sz) w
   have hM:Mod (N k) w (Q3d w g (l.length * sz) zs):=hM0.mono fun i _ e=>by rw [e]; exact hN g rfl
   have hF:Q2b F w (Q3d w g (l.length * sz) zs):=fun j hj=>hM.block j (hi.flt j hj) (fun hn=>(hi.nlt k j hlt hn).2.2 hj)
   have hnew:=Qag zs cur.toList (l.length * sz) w hh'
   rw [Q9J _ _ _ (by omega)] at hnew
   have hOL:Q6k 0 e sz (R.p F (Q3d w g (l.length * sz) zs)) l (.slice (some ⟨g,0,none⟩) l.length cp) (Q3d w g (l.length * sz) zs) :=
    ⟨xs,⟨ho'.1,.inr ⟨g,cp,_,rfl,hb,hnew,hnc,hcm,by simp only [List.size_toArray]; rw [putL_length (by omega),Array.length_toList,hcs],by
     show (putL cur.toList (l.length * sz) zs).take (l.length * sz) = xs
     unfold putL
     rw [List.append_assoc,List.take_append_of_le_length (by rw [List.length_take]; omega),List.take_take,Nat.min_self,htake]⟩⟩,hch.mono fun cs y _ h=>R.good (fun _ h=>h) hF h⟩
   have hset:H.set k (.own e sz R (.slice (some ⟨g,0,none⟩) l.length cp) l) = H:=by
    obtain ⟨q1,q2⟩:=List.getElem?_eq_some_iff.1 hφ
    rw [← q2]; exact List.set_getElem_self q1
   refine ⟨.tuple #[],Q3d w g (l.length * sz) zs,?_,⟨F,N,by have:=hi.set k hlt hM (.own e sz R (.slice (some ⟨g,0,none⟩) l.length cp) l) ⟨hN,hOL⟩; rwa [hset] at this⟩⟩
   obtain ⟨q,rfl⟩ : ∃ q,k' = q + 1:=⟨k' - 1,by omega⟩
   simp [execOp,ho,resolve,invoke,builtin,hf.eval hx,Builtin.clear_,run_underlying (Q29 he),Qa5 hz,zs] at hst ⊢
   rw [hst]
   simp
theorem wc_ownSome {α:Type} {e sz m c:Nat} {R:Rep α} {p:Option Addr} {l:List α} {cd:Code} (k:Nat) (hφ:H[k]? = some (.own e sz R (.slice p m c) l)) (h0 : 0 < l.length) (next : ∀ g,p = some ⟨g,0,none⟩ → l.length ≤ c → c ≤ 9223372036854775807 → WC P C n Q Φ H S cd):WC P C n Q Φ H S cd:=fun a w hf hw=>by
 have hw':=hw
 obtain ⟨F,N,hi⟩:=hw
 obtain ⟨_,xs,ho,hch⟩:=hi.owns k _ hφ
 rcases ho.2 with ⟨h1,h2⟩ | ⟨g,cap,cur,hv,_,_,hnc,hcm,_⟩
 · omega
 · cases hv; exact next g rfl hnc hcm a w hf hw'
end
theorem set_get {α:Type} {l:List α} {k:Nat} {x : α} (h:l[k]? = some x):l.set k x = l:=by
 obtain ⟨h1,rfl⟩:=List.getElem?_eq_some_iff.1 h
 exact List.set_getElem_self h1
end Go.Proofs.YtgangmegcejllaaGreatDoor
