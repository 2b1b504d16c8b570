import Derived.Test.YtgangmegcejllaaGreatDoorTree
namespace Go.Proofs.YtgangmegcejllaaGreatDoor
open Go Go.RowKit
abbrev Hdr:=Option Addr × Nat × Nat
def hdv (h:Hdr):Value:=.slice h.1 h.2.1 h.2.2
def hdrC (h:Hdr):List Value:=[hdv h]
def Q2Z:Rep Hdr:=⟨fun _ _ cs h=>cs = hdrC h,fun _ _ h=>h,fun h u hu=>by subst h; simp [hdrC] at hu; subst hu; rfl⟩
theorem Q2w:Q7L Q2Z (fun h (_:Unit)=>hdrC h) (fun _ _=>True) (fun _ _=>[]):=fun _ _ _ _ h=>⟨(),h,trivial,by simp⟩
abbrev Cel:=Option (List Value)
def celO (cs:List Value) (x:Cel):Prop:=(∀ u ∈ cs,u.oneCell' = true) ∧ ∀ y,x = some y → cs = y
def celR:Rep Cel:=⟨fun _ _ cs x=>celO cs x,fun _ _ h=>h,fun h=>h.1⟩
theorem cel_any {cs:List Value} (h:allOne cs = true):celO cs none:=⟨fun u hu=>List.all_eq_true.1 h u hu,fun _ h=>by cases h⟩
theorem cel_some {cs:List Value} (h:allOne cs = true):celO cs (some cs):=⟨fun u hu=>List.all_eq_true.1 h u hu,fun _ h=>by cases h; rfl⟩
theorem one_of {cs:List Value} (h:allOne cs = true) : ∀ u ∈ cs,u.oneCell' = true:=fun u hu=>List.all_eq_true.1 h u hu
structure Q7k where
 h:Hdr
 l:List Cel
 g:Hdr
 m:List Cel
def TwinP (e sz:Nat) (r:Q7k) (N:Q2a) (w:World):Prop :=
 (∀ k,(hdv r.h).ownBlock = some k → N k) ∧ (∀ k,(hdv r.g).ownBlock = some k → N k) ∧ Q6k 0 e sz celO r.l (hdv r.h) w ∧ Q6k 0 e sz celO r.m (hdv r.g) w ∧
  ((hdv r.h).ownBlock = (hdv r.g).ownBlock → r.l.length ≤ r.m.length)
theorem TwinP.good {e sz:Nat} {r:Q7k} {N N' : Q2a} {w w' : World} (h:TwinP e sz r N w) (hN : ∀ k,N k → N' k) (ha:Q2b N w w'):TwinP e sz r N' w':=by
 obtain ⟨h1,h2,h3,h4,h5⟩:=h
 exact ⟨fun k hk=>hN k (h1 k hk),fun k hk=>hN k (h2 k hk),h3.keep fun k hk=>ha k (h1 k hk),h4.keep fun k hk=>ha k (h2 k hk),h5⟩
def FlatP (e sz:Nat) (rows:List Q7k) (N:Q2a) (w:World):Prop :=
 ∃ Ns:Nat → Q2a,(∀ i q,Ns i q → N q) ∧ (∀ i j q,i ≠ j → Ns i q → ¬ Ns j q) ∧ ∀ i r,rows[i]? = some r → TwinP e sz r (Ns i) w
theorem FlatP.good {e sz:Nat} {rows:List Q7k} {N N' : Q2a} {w w' : World} (h:FlatP e sz rows N w) (hN : ∀ k,N k → N' k) (ha:Q2b N w w'):FlatP e sz rows N' w':=by
 obtain ⟨Ns,h1,h2,h3⟩:=h
 exact ⟨Ns,fun i q hq=>hN q (h1 i q hq),h2,fun i r hr=>(h3 i r hr).good (fun _ h=>h) fun q hq=>ha q (h1 i q hq)⟩
def Q1x (e sz:Nat) (rows:List Q7k):Fact:=.raw (fun N w=>FlatP e sz rows N w) (fun hN ha h=>h.good hN ha)
theorem run_append_twin {P:Program} (w:World) (t ty e:TypeId) (i:TypeInfo) (z:Value) (size bytes:Nat) (ht:P.underlying t = some (.slice e)) (hi:P.info? e = some i) (hz:i.zero = some z)
  (hsize:i.size = size) (hby:i.bytes = bytes) (hzs:z.cells.size = size) (hsz : 0 < size)
  (v:Value) (n:Nat) (xs:List Value) (hown:w.ownsRow 0 e size v n xs)
  (a:Addr) (m c:Nat) (news:List Value) (hl:news.length = m * size) (hnews : ∀ j u,news[j]? = some u → w.cell? (a.add j) = some u) (h1 : ∀ u ∈ news,u.oneCell' = true)
  (h63:n + m ≤ maxLen) (hbytes:(n + m) * bytes ≤ 140737488355328) (hm : 0 < m) :
  ∃ v' w',(Builtin.append_ #[t,t] ty #[v,.slice (some a) m c]).run P w = .ok v' w' ∧ w'.ownsRow 0 e size v' (n + m) (xs ++ news) ∧
    ((v'.ownBlock = some w.heap.size ∧ w.grownBy w' none) ∨ (∃ g cap,v = .slice (some ⟨g,0,none⟩) n cap ∧ v' = .slice (some ⟨g,0,none⟩) (n + m) cap ∧ w.grownBy w' (some g))):=by
 subst hsize
 subst hby
 have hsmall:n + m ≤ 9223372036854775807:=by simp only [maxLen] at h63; omega
 have hlen:(xs ++ news).length = (n + m) * i.size:=by rw [List.length_append,hown.1,hl,Nat.add_mul]
 have grown : ∀ (old:Nat),old < n + m →
    (w.drew.alloc (.cells (xs.toArray ++ news.toArray ++ Builtin.zeroCells z.cells (grownCap w (n + m) old e - (n + m))) e)).ownsRow 0 e i.size
     (.slice (some ⟨w.heap.size,0,none⟩) (n + m) (grownCap w (n + m) old e)) (n + m) (xs ++ news) ∧
    w.grownBy (w.drew.alloc (.cells (xs.toArray ++ news.toArray ++ Builtin.zeroCells z.cells (grownCap w (n + m) old e - (n + m))) e)) none:=by
  intro old ho
  have hge:=grownCap_ge w (n + m) old e
  have hcm:grownCap w (n + m) old e ≤ maxLen:=grownCap_le_maxLen w (n + m) old e h63
  refine ⟨⟨hlen,.inr ⟨w.heap.size,_,_,rfl,Nat.zero_le _,heap_alloc_new w.drew _,hge,hcm,?_,?_⟩⟩,⟨rfl,rfl,rfl,by simp,fun k hk _=>Go.heap_alloc_old w.drew _ (show k < w.drew.heap.size from hk)⟩⟩
  · simp only [Array.size_append,List.size_toArray,size_zeroCells,hzs,hown.1,hl,← Nat.add_mul]
    congr 1
    omega
  · simp only [Array.toList_append,List.append_assoc]
    rw [← List.append_assoc,← hlen]
    exact List.take_left
 rcases hown.2 with ⟨rfl,rfl⟩ | ⟨g,cap,cur,rfl,hbg,hg,hnc,hcm,hcs,htake⟩
 ·have hx:xs = []:=List.eq_nil_of_length_eq_zero (by simpa using hown.1)
  subst hx
  have hr:=run_append_nil (P:=P) w t ty e i z ht hi hz a m c news hl hnews (by omega) (by omega) (by have hb:=hbytes; simp only [Nat.zero_add] at hb; omega)
  have hgr:=grown 0 (by omega)
  simp only [Nat.zero_add,List.nil_append,Array.empty_append] at hgr ⊢
  exact ⟨_,_,hr,hgr.1,.inl ⟨rfl,hgr.2⟩⟩
 ·by_cases hroom:n + m ≤ cap
  · have hfit:n * i.size + news.length ≤ cur.size:=by rw [hl,hcs,← Nat.add_mul]; exact Nat.mul_le_mul_right _ hroom
    have hr:=run_append_room (P:=P) w t ty e i ht hi g n cap cur hg a m c news hl hnews h1 hroom hfit
    refine ⟨_,_,hr,⟨hlen,.inr ⟨g,cap,_,rfl,hbg,setRow_heap w g cur _ e _ hg,hroom,hcm,?_,?_⟩⟩,.inr ⟨g,cap,rfl,rfl,⟨rfl,rfl,rfl,by simp,fun k _ hk=>setRow_other w g k _ (fun e=>hk (by simp [e]))⟩⟩⟩
    ·simp only [List.size_toArray,List.length_append,List.length_take,List.length_drop,Array.length_toList]
     omega
    ·rw [htake,← hlen]
     exact List.take_left
  · have holds : ∀ j u,xs[j]? = some u → w.cell? ((⟨g,0,none⟩ : Addr).add j) = some u:=hown.cells (g:=g) rfl
    have hr:=run_append_grow (P:=P) w t ty e i z ht hi hz ⟨g,0,none⟩ n cap xs hown.1 holds a m c news hl hnews (by omega) (by omega) (growslice_fits (by omega) hbytes)
    have hgr:=grown cap (by omega)
    exact ⟨_,_,hr,hgr.1,.inl ⟨rfl,hgr.2⟩⟩
section
variable {C:Ctx} {Φ H:List Fact} {w:World} {e sz:Nat} {rows:List Q7k} {r:Q7k} {q j g:Nat}
theorem Q6k.at_ {l:List Cel} {h:Hdr} {cs:List Value} (ho:Q6k 0 e sz celO l (hdv h) w) (hg:h.1 = some ⟨g,0,none⟩) (hj:l[j]? = some (some cs)):Q5Y w g (j * sz) cs ∧ cs.length = sz:=by
 obtain ⟨xs,ho',hch⟩:=ho
 obtain ⟨ds,hcl,hr,hu⟩:=hch.at hj
 obtain rfl:=hr.2 _ rfl
 refine ⟨fun i u hq=>?_,hcl⟩
 have:=ho'.cells (g:=g) (by unfold hdv; rw [hg]; rfl) (j * sz + i) u (hu i u hq)
 rw [Q5u,Nat.zero_add] at this
 exact this
theorem QU.flTwin (h:QU C Φ H w) (k:Nat) (hk:H[k]? = some (Q1x e sz rows)) (hr:rows[q]? = some r) : ∃ N,TwinP e sz r N w:=by
 obtain ⟨F,N,hi⟩:=h
 obtain ⟨Ns,_,_,h3⟩:=hi.owns k _ hk
 exact ⟨_,h3 q r hr⟩
theorem QU.flPlaceH (h:QU C Φ H w) (k:Nat) (hk:H[k]? = some (Q1x e sz rows)) (hr:rows[q]? = some r) (h0 : 0 < r.l.length) : ∃ g,r.h.1 = some ⟨g,0,none⟩:=by
 obtain ⟨N,_,_,h3,_⟩:=h.flTwin k hk hr
 obtain ⟨g,hp,_⟩:=h3.head h0
 exact ⟨g,hp⟩
theorem QU.flPlaceG (h:QU C Φ H w) (k:Nat) (hk:H[k]? = some (Q1x e sz rows)) (hr:rows[q]? = some r) (h0 : 0 < r.m.length) : ∃ g,r.g.1 = some ⟨g,0,none⟩:=by
 obtain ⟨N,_,_,_,h3,_⟩:=h.flTwin k hk hr
 obtain ⟨g,hp,_⟩:=h3.head h0
 exact ⟨g,hp⟩
theorem QU.flLen (h:QU C Φ H w) (k:Nat) (hk:H[k]? = some (Q1x e sz rows)) (hr:rows[q]? = some r):r.h.2.1 = r.l.length ∧ r.g.2.1 = r.m.length:=by
 obtain ⟨N,_,_,h3,h4,_⟩:=h.flTwin k hk hr
 exact ⟨h3.len,h4.len⟩
theorem FlatP.set {N:Q2a} {r' : Q7k} (h:FlatP e sz rows N w) (hr:rows[q]? = some r) (hs : ∀ M,TwinP e sz r M w → TwinP e sz r' M w):FlatP e sz (rows.set q r') N w:=by
 obtain ⟨Ns,h1,h2,h3⟩:=h
 refine ⟨Ns,h1,h2,fun i x hx=>?_⟩
 by_cases hq:i = q
 ·subst hq
  rw [List.getElem?_set_self (List.getElem?_eq_some_iff.1 hr).1] at hx
  cases hx; exact hs _ (h3 i r hr)
 ·rw [List.getElem?_set_ne (Ne.symm hq)] at hx
  exact h3 i x hx
theorem TwinP.reset {N:Q2a} (h:TwinP e sz r N w):TwinP e sz ⟨r.h,r.l,r.h,r.l⟩ N w:=⟨h.1,h.1,h.2.2.1,h.2.2.1,fun _=>Nat.le_refl _⟩
theorem QU.flReset (h:QU C Φ H w) (k q:Nat) (hk:H[k]? = some (Q1x e sz rows)) (hr:rows[q]? = some r):QU C Φ (H.set k (Q1x e sz (rows.set q ⟨r.h,r.l,r.h,r.l⟩))) w :=
 h.as_ k hk (fun N F hf=>FlatP.set (r:=r) hf hr fun _ ht=>ht.reset)
end
section rules
variable {P:Program} {C:Ctx} {n:Nat} {Q:Exit → Act → World → Prop} {Φ Φ' : List Fact} {H H' : List Fact} {S S' : List (Nat × Value)} {ops:Array Oper} {rest:List Oper} {o:Oper} {d:Nat} {e sz:Nat} {rows:List Q7k} {r:Q7k}
theorem wc_flLen {c:Code} {q:Nat} (k:Nat) (hk:H[k]? = some (Q1x e sz rows)) (hr:rows[q]? = some r) (next:r.h.2.1 = r.l.length → r.g.2.1 = r.m.length → WC P C n Q Φ H S c):WC P C n Q Φ H S c:=fun a w hf hw=>next (hw.flLen k hk hr).1 (hw.flLen k hk hr).2 a w hf hw
theorem wl_flStore {t m cp g:Nat} {x y:Operand} {cs:List Value} {v:Value} (k q j:Nat)
  (hg:Q1L ops S o = some true) (hd:o.dst = none) (ho:o.op = .store t x y)
  (hk:H[k]? = some (Q1x e sz rows)) (hr:rows[q]? = some r) (hsame:r.g = r.h ∧ r.m = r.l) (hh:r.h = (some ⟨g,0,none⟩,m,cp)) (hx:evS S x = some (.pointer (some ⟨g,j * sz,none⟩))) (hj:j < r.l.length) (hy:evS S y = some v) (hv:v.cells.toList = cs) (hs:Q1G P t = some sz) (hl:Nat.beq cs.length sz = true)
  (h1 : ∀ u ∈ cs,u.oneCell' = true) (hH:H.set k (Q1x e sz (rows.set q ⟨r.h,r.l.set j (some cs),r.h,r.l.set j (some cs)⟩)) = H') (next:WL P C n Q Φ H' S ops rest):WL P C n Q Φ H S ops (o :: rest):=by
 subst hH
 have hl':=Nat.eq_of_beq_eq_true hl
 refine wl_do hg hd (fun a w hf hw=>?_) next
 obtain ⟨F,N,hi⟩:=hw
 have hlt:=(List.getElem?_eq_some_iff.1 hk).1
 have hq:=(List.getElem?_eq_some_iff.1 hr).1
 obtain ⟨Ns,n1,n2,n3⟩:=hi.owns k _ hk
 obtain ⟨t1,_,t3,_,_⟩:=n3 q r hr
 have e1:hdv r.h = .slice (some ⟨g,0,none⟩) m cp:=by unfold hdv; rw [hh]
 have hNg:Ns q g:=t1 g (by rw [e1]; rfl)
 have t3' : Q6k 0 e sz celO r.l (.slice (some ⟨g,0,none⟩) m cp) w:=by rw [← e1]; exact t3
 have hlen:m = r.l.length:=t3'.len
 obtain ⟨p1,p2⟩:=t3'.put (x:=some cs) (cs:=cs) hlen j ⟨h1,fun y hy=>by cases hy; rfl⟩ hl' hj
 have hM:Mod (N k) w (Q3d w g (j * sz) cs):=p2.mono fun i _ e=>by rw [e]; exact n1 q g hNg
 refine ⟨Q3d w g (j * sz) cs,?_,⟨F,N,hi.set k hlt hM _ ⟨Ns,n1,n2,fun i x hx=>?_⟩⟩⟩
 ·have hsz:v.cells.size = sz:=by rw [← hl',← hv]; simp
  obtain ⟨xs,ho',hch⟩:=t3'
  rcases ho'.2 with ⟨h0,_⟩ | ⟨g',cap,cur,hv',_,hh',hnc,_,hcs,_⟩
  · cases h0
  ·cases hv'
   have hh2:w.heap[g]? = some (.cells cur.toList.toArray e):=by simpa using hh'
   have hle:j * sz + sz ≤ r.l.length * sz:=by rw [← Nat.succ_mul]; exact Nat.mul_le_mul_right _ hj
   have hle2:r.l.length * sz ≤ cp * sz:=Nat.mul_le_mul_right _ hnc
   have:=Q4v (P:=P) cs cur.toList (j * sz) 0 w hh2 (by simp [hcs,hl']; omega) h1
   simp only [execOp,ho,hf.eval hx,hf.eval hy,Instr.storeAt,Instr.sureAddr,storeVar,Sem.run_bind,Sem.run_pure,Result.andThen_ok,Q2L hs,hsz,hv]
   simp [this]
 ·by_cases hiq:i = q
  ·subst hiq
   rw [List.getElem?_set_self hq] at hx
   cases hx
   refine ⟨t1,t1,?_,?_,fun _=>Nat.le_refl _⟩ <;> (simp only [e1]; exact p1)
  ·rw [List.getElem?_set_ne (Ne.symm hiq)] at hx
   exact (n3 i x hx).good (fun _ h=>h) fun b hb=>p2.block b (hi.nlt k b hlt (n1 i b hb)).1 (fun eb=>n2 i q b hiq hb (by rw [eb]; exact hNg))
theorem QaA {t by_:Nat} {s x:Operand} {z:Value} {cs2:List Cel} {p2:Option Addr} {cp2:Nat} (k q:Nat) (hg:Q1L ops S o = some true) (hd:o.dst = some d) (hn:Nat.blt d n = true) (hS:Q2r d S = S')
  (ho:o.op = .call { callee:=.builtin .append,args:=#[s,x],argTypes:=#[t,t] }) (hk:H[k]? = some (Q1x e sz rows)) (hr:rows[q]? = some r) (hs:evS S s = some (hdv r.g)) (hx:evS S x = some (.slice p2 cs2.length cp2)) (hpos : 0 < cs2.length)
  (hsrc : ∀ F N w,MInv C Φ H F N w → ∃ ys,Q1F sz celO ys cs2 ∧ (∃ b off,p2 = some ⟨b,off,none⟩ ∧ Q5Y w b off ys))
  (he:Q2E P t = some e) (hrow:tRow P e = some (z,sz,by_)) (hzs:Nat.beq z.cells.size sz = true) (hsz:Nat.blt 0 sz = true) (h63:r.m.length + cs2.length ≤ 9223372036854775807) (hby:(r.m.length + cs2.length) * by_ ≤ 140737488355328)
  {H2:Hdr → List Fact} (hH : ∀ g',H.set k (Q1x e sz (rows.set q ⟨r.h,r.l,g',r.m ++ cs2⟩)) = H2 g') (next : ∀ g' : Hdr,WL P C n Q Φ (H2 g') ((d,.slice g'.1 g'.2.1 g'.2.2) :: S') ops rest):WL P C n Q Φ H S ops (o :: rest):=by
 refine Q72 hg hd hn hS fun a w hf hw=>?_
 obtain ⟨F,N,hi⟩:=hw
 have hlt:=(List.getElem?_eq_some_iff.1 hk).1
 have hq:=(List.getElem?_eq_some_iff.1 hr).1
 obtain ⟨Ns,n1,n2,n3⟩:=hi.owns k _ hk
 obtain ⟨t1,t2,t3,t4,t5⟩:=n3 q r hr
 obtain ⟨xs,hown,hch⟩:=t4
 obtain ⟨ys,hys,b,off,rfl,hcell⟩:=hsrc F N w hi
 obtain ⟨i,hinfo,hz,hsize,hbytes⟩:=Qa4 hrow
 obtain ⟨v',w',hrun,hown',hcase⟩:=run_append_twin (P:=P) w t o.type e i z sz by_ (Q29 he) hinfo hz hsize hbytes (Nat.eq_of_beq_eq_true hzs) (Nat.le_of_ble_eq_true hsz) (hdv r.g) r.m.length xs hown ⟨b,off,none⟩ cs2.length cp2 ys hys.length
  (fun j u hj=>by rw [Q5u]; exact hcell j u hj) (fun u hu=>hys.all (p:=fun u=>u.oneCell' = true) (fun cs y hr=>hr.1) u hu) (by unfold maxLen; exact h63) hby hpos
 have hOL:Q6k 0 e sz celO (r.m ++ cs2) v' w':=⟨xs ++ ys,by simpa using hown',hch.append hys⟩
 obtain ⟨p',n',c',rfl⟩:=hOL.shape
 have hrun2:(execOp a.eval o).run P w = .ok (.value (.slice p' n' c')) w':=by simp [execOp,ho,resolve,invoke,builtin,hf.eval hs,hf.eval hx,hrun]
 refine ⟨_,w',hrun2,Φ,H2 (p',n',c'),?_,next (p',n',c')⟩
 rw [← hH]
 obtain ⟨M,hgrow,hMq,hMnew,htw⟩ : ∃ M:Option Nat,w.grownBy w' M ∧ (∀ b,M = some b → Ns q b) ∧ (∀ b,(Value.slice p' n' c').ownBlock = some b → Ns q b ∨ b = w.heap.size) ∧
   (Q6k 0 e sz celO r.l (hdv r.h) w' ∧ ((hdv r.h).ownBlock = (Value.slice p' n' c').ownBlock → r.l.length ≤ (r.m ++ cs2).length)):=by
  rcases hcase with ⟨hb,hgrow⟩ | ⟨g,cap,hv1,hv2,hgrow⟩
  ·refine ⟨none,hgrow,fun b hb=>by (cases hb),fun b hb'=>.inr (by rw [hb] at hb'; exact (Option.some.inj hb').symm),t3.keep fun b hb=>hgrow.block b (t3.lt b hb).2 (by simp),fun he=>?_⟩
   rw [hb] at he
   exact absurd (t3.lt _ he).2 (Nat.lt_irrefl _)
  ·have hNg:Ns q g:=t2 g (by rw [hv1]; rfl)
   refine ⟨some g,hgrow,fun b hb=>by cases hb; exact hNg,fun b hb'=>.inl (by rw [hv2] at hb'; cases hb'; exact hNg),?_,fun he=>?_⟩
   ·by_cases hsame:(hdv r.h).ownBlock = some g
    ·    have hle:r.l.length ≤ r.m.length:=t5 (by rw [hsame,hv1]; rfl)
         obtain ⟨xs0,ho0,hc0⟩:=t3
         refine ⟨xs0,⟨ho0.1,?_⟩,hc0⟩
         rcases ho0.2 with ⟨h0,_⟩ | ⟨g0,cap0,cur0,e0,_,hh0,hn0,hm0,hs0,htk0⟩
         · rw [h0] at hsame; cases hsame
         ·rw [e0] at hsame
          obtain rfl:g0 = g:=by simpa [Value.ownBlock] using hsame
          rcases hown.2 with ⟨h1,_⟩ | ⟨g1,cap1,cur1,e1,_,hh1,hn1,hm1,hs1,htk1⟩
          · rw [h1] at hv1; cases hv1
          ·rw [e1] at hv1
           obtain ⟨rfl,rfl⟩ : g1 = g0 ∧ cap1 = cap:=by cases hv1; exact ⟨rfl,rfl⟩
           rw [hh0] at hh1
           obtain rfl:cur0 = cur1:=by cases hh1; rfl
           rcases hown'.2 with ⟨h2,_⟩ | ⟨g2,cap2,cur2,e2,_,hh2,hn2,hm2,hs2,htk2⟩
           · rw [hv2] at h2; cases h2
           ·rw [hv2] at e2
            obtain ⟨rfl,rfl⟩ : g1 = g2 ∧ cap1 = cap2:=by cases e2; exact ⟨rfl,rfl⟩
            refine .inr ⟨g1,cap0,cur2,e0,Nat.zero_le _,hh2,hn0,hm0,by rw [hs2,← hs1,hs0],?_⟩
            have ha:r.l.length * sz ≤ r.m.length * sz:=Nat.mul_le_mul_right _ hle
            have hb:r.m.length * sz ≤ (r.m.length + cs2.length) * sz:=Nat.mul_le_mul_right _ (Nat.le_add_right _ _)
            have hx1:xs.length = r.m.length * sz:=hown.1
            rw [← htk0]
            have e3:cur2.toList.take (r.l.length * sz) = (xs ++ ys).take (r.l.length * sz):=by rw [← htk2,List.take_take]; congr 1; omega
            rw [e3,List.take_append_of_le_length (by omega),← htk1,List.take_take]
            congr 1; omega
    · exact t3.keep fun b hb=>hgrow.block b (t3.lt b hb).2 (fun eb=>hsame (by rw [hb,eb]))
   ·rw [List.length_append]
    have:=t5 (by rw [he,hv2,hv1]; rfl)
    omega
 have hM:Mod (N k) w w':=⟨hgrow.os,hgrow.tape,hgrow.output,hgrow.size,fun j hj hn=>hgrow.block j hj fun e=>hn (n1 q j (hMq j e.symm))⟩
 refine ⟨F,_,hi.set' k hlt hM (fun b=>N k b ∨ (b = w.heap.size ∧ b < w'.heap.size)) (fun b hb=>hb.elim .inl fun hb=>.inr ⟨by rw [hb.1]; exact Nat.le_refl _,hb.2⟩) (Q1x e sz _) ⟨fun i b=>Ns i b ∨ (i = q ∧ b = w.heap.size ∧ b < w'.heap.size),fun i b hb=>hb.elim (fun hb=>.inl (n1 i b hb)) (fun hb=>.inr hb.2),fun i j b hij hb hb'=>?_,fun i y hy=>?_⟩⟩
 ·rcases hb with hb | hb <;> rcases hb' with hb' | hb'
  · exact n2 i j b hij hb hb'
  · have:=(hi.nlt k b hlt (n1 i b hb)).1; omega
  · have:=(hi.nlt k b hlt (n1 j b hb')).1; omega
  · exact hij (hb.1.trans hb'.1.symm)
 ·by_cases hiq:i = q
  ·subst hiq
   rw [List.getElem?_set_self hq] at hy
   cases hy
   refine ⟨fun b hb=>.inl (t1 b hb),fun b hb=>?_,htw.1,hOL,htw.2⟩
   rcases hMnew b hb with h0 | h0
   · exact .inl h0
   · exact .inr ⟨rfl,h0,(hOL.lt b hb).2⟩
  ·rw [List.getElem?_set_ne (Ne.symm hiq)] at hy
   exact (n3 i y hy).good (fun _ h=>.inl h) fun b hb=>hgrow.block b (hi.nlt k b hlt (n1 i b hb)).1 (fun eb=>n2 i q b hiq hb (hMq b eb.symm))
theorem wl_flAppB {t by_ gb tb:Nat} {s x:Operand} {z:Value} {cs:List Value} {cp2:Nat} (k q j:Nat) (hg:Q1L ops S o = some true) (hd:o.dst = some d) (hn:Nat.blt d n = true) (hS:Q2r d S = S')
  (ho:o.op = .call { callee:=.builtin .append,args:=#[s,x],argTypes:=#[t,t] }) (hk:H[k]? = some (Q1x e sz rows)) (hr:rows[q]? = some r) (hs:evS S s = some (hdv r.g)) (hj:H[j]? = some (.blk gb cs tb)) (hx:evS S x = some (.slice (some ⟨gb,0,none⟩) 1 cp2))
  (hcs:Nat.beq cs.length sz = true) (h1 : ∀ u ∈ cs,u.oneCell' = true)
  (he:Q2E P t = some e) (hrow:tRow P e = some (z,sz,by_)) (hzs:Nat.beq z.cells.size sz = true) (hsz:Nat.blt 0 sz = true) (h63:r.m.length + 1 ≤ 9223372036854775807) (hby:(r.m.length + 1) * by_ ≤ 140737488355328)
  {H2:Hdr → List Fact} (hH : ∀ g',H.set k (Q1x e sz (rows.set q ⟨r.h,r.l,g',r.m ++ [some cs]⟩)) = H2 g') (next : ∀ g' : Hdr,WL P C n Q Φ (H2 g') ((d,.slice g'.1 g'.2.1 g'.2.2) :: S') ops rest):WL P C n Q Φ H S ops (o :: rest) :=
 QaA (cs2:=[some cs]) k q hg hd hn hS ho hk hr hs hx (by simp) (fun F N w hi=>⟨cs,Q1F.one (R:=celO) ⟨h1,fun y hy=>by cases hy; rfl⟩ (Nat.eq_of_beq_eq_true hcs),gb,0,rfl,Qa2 (hi.owns j _ hj).2⟩) he hrow hzs hsz h63 hby hH next
theorem wl_flAppO {t by_ m2:Nat} {s x:Operand} {z:Value} {M:List Cel} {p2:Option Addr} {cp2:Nat} (k q j:Nat) (hg:Q1L ops S o = some true) (hd:o.dst = some d) (hn:Nat.blt d n = true) (hS:Q2r d S = S')
  (ho:o.op = .call { callee:=.builtin .append,args:=#[s,x],argTypes:=#[t,t] }) (hk:H[k]? = some (Q1x e sz rows)) (hr:rows[q]? = some r) (hs:evS S s = some (hdv r.g)) (hj:H[j]? = some (.own e sz celR (.slice p2 m2 cp2) M)) (hx:evS S x = some (.slice p2 m2 cp2)) (hM:M.length = m2) (hpos : 0 < m2)
  (he:Q2E P t = some e) (hrow:tRow P e = some (z,sz,by_)) (hzs:Nat.beq z.cells.size sz = true) (hsz:Nat.blt 0 sz = true) (h63:r.m.length + M.length ≤ 9223372036854775807) (hby:(r.m.length + M.length) * by_ ≤ 140737488355328)
  {H2:Hdr → List Fact} (hH : ∀ g',H.set k (Q1x e sz (rows.set q ⟨r.h,r.l,g',r.m ++ M⟩)) = H2 g') (next : ∀ g' : Hdr,WL P C n Q Φ (H2 g') ((d,.slice g'.1 g'.2.1 g'.2.2) :: S') ops rest):WL P C n Q Φ H S ops (o :: rest):=by
 subst hM
 refine QaA (cs2:=M) k q hg hd hn hS ho hk hr hs hx hpos (fun F N w hi=>?_) he hrow hzs hsz h63 hby hH next
 obtain ⟨_,hown⟩:=hi.owns j _ hj
 obtain ⟨g,hp,_⟩:=hown.head hpos
 obtain ⟨xs,ho',hch⟩:=hown
 subst hp
 refine ⟨xs,hch,g,0,rfl,fun i u hq=>?_⟩
 have:=ho'.cells (g:=g) rfl i u hq
 rwa [Q5u] at this
end rules
section lights
variable {P:Program} {C:Ctx} {n:Nat} {Q:Exit → Act → World → Prop} {ops:Array Oper} {lights L:List Nat} {D:List (Nat × Fact)} {Φ H:List Fact} {S S' : List (Nat × Value)} {e sz:Nat} {rows:List Q7k} {r:Q7k}
theorem Q9e (hok:Q2K ops lights = true) (i:Nat) {o:Oper} {d t m cp:Nat} {p:Option Addr} {x y:Operand} {ik:IntKind} {z:Int} (k q j:Nat) (hi:ops[i]? = some o) (hd:o.dst = some d) (hl:Q50 ops lights L i n d o = true) (hS:Q2r d S = S') (hg:Q1L ops S o = some true) (ho:o.op = .indexAddr t x y)
  (hk:H[k]? = some (Q1x e sz rows)) (hr:rows[q]? = some r) (hh:r.h = (p,m,cp)) (hx:evS S x = some (.slice p m cp)) (hy:evS S y = some (.int ik z)) (hz:z = (j:Int)) (hj:j < m) (hlen:r.l.length = m) (he:Q2E P t = some e) (hs:Q1G P e = some sz)
  (next : ∀ g,p = some ⟨g,0,none⟩ → WX P C n Q ops lights (i :: L) D Φ H ((d,.pointer (some ⟨g,j * sz,none⟩)) :: S')):WX P C n Q ops lights L D Φ H S:=fun listed a av w hrr=>by
 obtain ⟨g,hp⟩:=hrr.holds.flPlaceH k hk hr (by omega)
 rw [hh] at hp
 simp only at hp
 subst hp
 subst hz
 refine Q8Y hok i [] [] hi hd hl hS rfl hg (fun a w hf _=>?_) (next g rfl) listed a av w hrr
 have h1:(0:Int) ≤ j ∧ (j:Int) < m:=by omega
 simp [execOp,ho,hf.eval hx,hf.eval hy,Instr.indexAt,asIntOf,run_underlying (Q29 he),h1,hj,Q2L hs]
 unfold Addr.add; split <;> simp_all
theorem QaI (hok:Q2K ops lights = true) (i:Nat) {o:Oper} {d t m cp:Nat} {p:Option Addr} {x y:Operand} {ik:IntKind} {z:Int} (k q j:Nat) (hi:ops[i]? = some o) (hd:o.dst = some d) (hl:Q50 ops lights L i n d o = true) (hS:Q2r d S = S') (hg:Q1L ops S o = some true) (ho:o.op = .indexAddr t x y)
  (hk:H[k]? = some (Q1x e sz rows)) (hr:rows[q]? = some r) (hh:r.g = (p,m,cp)) (hx:evS S x = some (.slice p m cp)) (hy:evS S y = some (.int ik z)) (hz:z = (j:Int)) (hj:j < m) (hlen:r.m.length = m) (he:Q2E P t = some e) (hs:Q1G P e = some sz)
  (next : ∀ g,p = some ⟨g,0,none⟩ → WX P C n Q ops lights (i :: L) D Φ H ((d,.pointer (some ⟨g,j * sz,none⟩)) :: S')):WX P C n Q ops lights L D Φ H S:=fun listed a av w hrr=>by
 obtain ⟨g,hp⟩:=hrr.holds.flPlaceG k hk hr (by omega)
 rw [hh] at hp
 simp only at hp
 subst hp
 subst hz
 refine Q8Y hok i [] [] hi hd hl hS rfl hg (fun a w hf _=>?_) (next g rfl) listed a av w hrr
 have h1:(0:Int) ≤ j ∧ (j:Int) < m:=by omega
 simp [execOp,ho,hf.eval hx,hf.eval hy,Instr.indexAt,asIntOf,run_underlying (Q29 he),h1,hj,Q2L hs]
 unfold Addr.add; split <;> simp_all
theorem dep_flat {w:World} {q:Nat} (h:DepW Φ [Q1x e sz rows] w) (hr:rows[q]? = some r) : ∃ N,TwinP e sz r N w:=by
 obtain ⟨N,F,Ns,_,_,h3⟩:=h.2 _ (List.mem_singleton.2 rfl)
 exact ⟨_,h3 q r hr⟩
theorem Qaq (hok:Q2K ops lights = true) (i:Nat) {o:Oper} {d t m cp g:Nat} {x:Operand} {ag:Bool} {cs:List Value} {v:Value} (k q j:Nat) (hi:ops[i]? = some o) (hd:o.dst = some d) (hl:Q50 ops lights L i n d o = true) (hS:Q2r d S = S') (hg:Q1L ops S o = some true) (ho:o.op = .load t x)
  (hk:Q1V H [k] = [Q1x e sz rows]) (hr:rows[q]? = some r) (hh:r.h = (some ⟨g,0,none⟩,m,cp)) (hx:evS S x = some (.pointer (some ⟨g,j * sz,none⟩))) (hj:r.l[j]? = some (some cs)) (hs:Q1G P t = some sz) (ha:Q3e P t = some ag)
  (hlen:Nat.beq cs.length sz = true) (hv:Q86 ag cs = some v) (next:WX P C n Q ops lights (i :: L) ((i,Q1x e sz rows) :: D) Φ H ((d,v) :: S')):WX P C n Q ops lights L D Φ H S :=
 Q9u hok i [Q1x e sz rows] [k] hi hd hl hS hk hg ho hx (fun w hw=>by
  obtain ⟨N,_,_,h3,_⟩:=dep_flat hw hr
  exact (h3.at_ (by rw [hh]) hj).1) hs ha (Nat.eq_of_beq_eq_true hlen) hv next
theorem Qap (hok:Q2K ops lights = true) (i:Nat) {o:Oper} {d t m cp g:Nat} {x:Operand} {ag:Bool} {cs:List Value} {v:Value} (k q j:Nat) (hi:ops[i]? = some o) (hd:o.dst = some d) (hl:Q50 ops lights L i n d o = true) (hS:Q2r d S = S') (hg:Q1L ops S o = some true) (ho:o.op = .load t x)
  (hk:Q1V H [k] = [Q1x e sz rows]) (hr:rows[q]? = some r) (hh:r.g = (some ⟨g,0,none⟩,m,cp)) (hx:evS S x = some (.pointer (some ⟨g,j * sz,none⟩))) (hj:r.m[j]? = some (some cs)) (hs:Q1G P t = some sz) (ha:Q3e P t = some ag)
  (hlen:Nat.beq cs.length sz = true) (hv:Q86 ag cs = some v) (next:WX P C n Q ops lights (i :: L) ((i,Q1x e sz rows) :: D) Φ H ((d,v) :: S')):WX P C n Q ops lights L D Φ H S :=
 Q9u hok i [Q1x e sz rows] [k] hi hd hl hS hk hg ho hx (fun w hw=>by
  obtain ⟨N,_,_,_,h3,_⟩:=dep_flat hw hr
  exact (h3.at_ (by rw [hh]) hj).1) hs ha (Nat.eq_of_beq_eq_true hlen) hv next
end lights
def Q7i (mc:Nat → Nat → List Value) (k n:Nat):List Cel:=(List.range n).map fun i=>some (mc k i)
section plain
variable {mc:Nat → Nat → List Value} {k n i:Nat} {hs gh:List Hdr} {h g:Hdr} {rows:List Q7k} {r:Q7k}
theorem Q2y:(Q7i mc k n).length = n:=by simp [Q7i]
theorem Q8C (hi:i < n):(Q7i mc k n)[i]? = some (some (mc k i)):=by simp [Q7i,hi]
theorem marks_succ:Q7i mc k (n + 1) = Q7i mc k n ++ [some (mc k n)]:=by simp [Q7i,List.range_succ]
def FlA (hs:List Hdr) (mc:Nat → Nat → List Value) (k i:Nat) (rows:List Q7k):Prop :=
 rows.length = hs.length ∧ ∀ j h,hs[j]? = some h → ∃ r,rows[j]? = some r ∧ r.h = h ∧ r.g = r.h ∧ r.m = r.l ∧ r.l.length = h.2.1 ∧ (j < k → r.l = Q7i mc j h.2.1) ∧ (j = k → ∀ q,q < i → r.l[q]? = some (some (mc j q)))
theorem FlA.at_ (hP:FlA hs mc k i rows) (hk:hs[k]? = some h) : ∃ r,rows[k]? = some r ∧ r.h = h ∧ (r.g = r.h ∧ r.m = r.l) ∧ r.l.length = h.2.1:=by
 obtain ⟨r,h1,h2,h3,h4,h5,_⟩:=hP.2 k h hk
 exact ⟨r,h1,h2,⟨h3,h4⟩,h5⟩
theorem set_atT {j:Nat} (r' : Q7k) (hr:rows[k]? = some r) (hj:j ≠ k):(rows.set k r')[j]? = rows[j]?:=by rw [List.getElem?_set_ne (Ne.symm hj)]
theorem set_eqT (r' : Q7k) (hr:rows[k]? = some r):(rows.set k r')[k]? = some r':=by rw [List.getElem?_set_self (List.getElem?_eq_some_iff.1 hr).1]
theorem FlA.store (hP:FlA hs mc k i rows) (hk:hs[k]? = some h) (hr:rows[k]? = some r) (hi:i < h.2.1):FlA hs mc k (i + 1) (rows.set k ⟨r.h,r.l.set i (some (mc k i)),r.h,r.l.set i (some (mc k i))⟩):=by
 refine ⟨by rw [List.length_set]; exact hP.1,fun j h' hj=>?_⟩
 obtain ⟨r',h1,h2,h3,h4,h5,h6,h7⟩:=hP.2 j h' hj
 by_cases e:j = k
 ·subst e
  rw [hr] at h1; cases h1
  rw [hk] at hj; cases hj
  refine ⟨_,set_eqT _ hr,h2,rfl,rfl,by simpa using h5,fun hlt=>absurd hlt (Nat.lt_irrefl _),fun _ q hq=>?_⟩
  simp only
  by_cases eq:q = i
  · subst eq; rw [List.getElem?_set_self (by omega)]
  · rw [List.getElem?_set_ne (Ne.symm eq)]; exact h7 rfl q (by omega)
 · exact ⟨r',by rw [set_atT _ hr e]; exact h1,h2,h3,h4,h5,h6,fun e'=>absurd e' e⟩
theorem FlA.next (hP:FlA hs mc k i rows) (hk:hs[k]? = some h) (hi : ¬ i < h.2.1):FlA hs mc (k + 1) 0 rows:=by
 refine ⟨hP.1,fun j h' hj=>?_⟩
 obtain ⟨r',h1,h2,h3,h4,h5,h6,h7⟩:=hP.2 j h' hj
 refine ⟨r',h1,h2,h3,h4,h5,fun hlt=>?_,fun _ q hq=>absurd hq (Nat.not_lt_zero _)⟩
 by_cases e:j = k
 ·subst e
  rw [hk] at hj; cases hj
  apply List.ext_getElem?
  intro q
  by_cases hq:q < h.2.1
  · rw [h7 rfl q (by omega),Q8C hq]
  · rw [List.getElem?_eq_none (by omega),List.getElem?_eq_none (by rw [Q2y]; omega)]
 · exact h6 (by omega)
def FlB (hs:List Hdr) (mc:Nat → Nat → List Value) (gh:List Hdr) (k:Nat) (rows:List Q7k):Prop :=
 rows.length = hs.length ∧ gh.length = hs.length ∧ ∀ j h,hs[j]? = some h → ∃ r,rows[j]? = some r ∧ r.h = h ∧ r.l = Q7i mc j h.2.1 ∧ (k ≤ j → r.g = h ∧ r.m = r.l) ∧ (j < k → gh[j]? = some r.g ∧ r.m = Q7i mc j (h.2.1 + 64))
theorem FlA.grow (hP:FlA hs mc k i rows) (hk : ¬ k < hs.length) (hg:gh.length = hs.length):FlB hs mc gh 0 rows:=by
 refine ⟨hP.1,hg,fun j h hj=>?_⟩
 obtain ⟨r,h1,h2,h3,h4,h5,h6,h7⟩:=hP.2 j h hj
 have:=(List.getElem?_eq_some_iff.1 hj).1
 exact ⟨r,h1,h2,h6 (by omega),fun _=>⟨h3.trans h2,h4⟩,fun h0=>absurd h0 (Nat.not_lt_zero _)⟩
def FlC (hs:List Hdr) (mc:Nat → Nat → List Value) (gh:List Hdr) (k i:Nat) (g:Hdr) (rows:List Q7k):Prop :=
 rows.length = hs.length ∧ gh.length = hs.length ∧ ∀ j h,hs[j]? = some h → ∃ r,rows[j]? = some r ∧ r.h = h ∧ r.l = Q7i mc j h.2.1 ∧ (k < j → r.g = h ∧ r.m = r.l) ∧ (j < k → gh[j]? = some r.g ∧ r.m = Q7i mc j (h.2.1 + 64)) ∧ (j = k → r.g = g ∧ r.m = Q7i mc j (h.2.1 + i))
theorem FlB.begin (hP:FlB hs mc gh k rows) (hk:hs[k]? = some h):FlC hs mc gh k 0 h rows:=by
 refine ⟨hP.1,hP.2.1,fun j h' hj=>?_⟩
 obtain ⟨r,h1,h2,h3,h4,h5⟩:=hP.2.2 j h' hj
 refine ⟨r,h1,h2,h3,fun hlt=>h4 (by omega),h5,fun e=>?_⟩
 subst e
 rw [hk] at hj; cases hj
 have:=h4 (Nat.le_refl _)
 exact ⟨this.1,by rw [this.2,h3,Nat.add_zero]⟩
theorem FlC.at_ (hP:FlC hs mc gh k i g rows) (hk:hs[k]? = some h) : ∃ r,rows[k]? = some r ∧ r.h = h ∧ r.l = Q7i mc k h.2.1 ∧ r.g = g ∧ r.m = Q7i mc k (h.2.1 + i):=by
 obtain ⟨r,h1,h2,h3,_,_,h6⟩:=hP.2.2 k h hk
 exact ⟨r,h1,h2,h3,(h6 rfl).1,(h6 rfl).2⟩
theorem FlC.app (hP:FlC hs mc gh k i g rows) (hk:hs[k]? = some h) (hr:rows[k]? = some r) (g' : Hdr):FlC hs mc gh k (i + 1) g' (rows.set k ⟨r.h,r.l,g',r.m ++ [some (mc k (h.2.1 + i))]⟩):=by
 refine ⟨by rw [List.length_set]; exact hP.1,hP.2.1,fun j h' hj=>?_⟩
 obtain ⟨r',h1,h2,h3,h4,h5,h6⟩:=hP.2.2 j h' hj
 by_cases e:j = k
 ·subst e
  rw [hr] at h1; cases h1
  rw [hk] at hj; cases hj
  refine ⟨_,set_eqT _ hr,h2,h3,fun h0=>absurd h0 (Nat.lt_irrefl _),fun h0=>absurd h0 (Nat.lt_irrefl _),fun _=>⟨rfl,?_⟩⟩
  simp only
  rw [(h6 rfl).2,← Nat.add_assoc,marks_succ]
 · exact ⟨r',by rw [set_atT _ hr e]; exact h1,h2,h3,h4,h5,fun e'=>absurd e' e⟩
theorem FlC.done (hP:FlC hs mc gh k 64 g rows) (hk:k < hs.length):FlB hs mc (gh.set k g) (k + 1) rows:=by
 refine ⟨hP.1,by rw [List.length_set]; exact hP.2.1,fun j h' hj=>?_⟩
 obtain ⟨r',h1,h2,h3,h4,h5,h6⟩:=hP.2.2 j h' hj
 refine ⟨r',h1,h2,h3,fun hle=>h4 (by omega),fun hlt=>?_⟩
 by_cases e:j = k
 ·subst e
  refine ⟨?_,(h6 rfl).2⟩
  rw [(h6 rfl).1,List.getElem?_set_self (by rw [hP.2.1]; exact hk)]
 · rw [List.getElem?_set_ne (Ne.symm e)]; exact h5 (by omega)
def FlD (hs:List Hdr) (mc:Nat → Nat → List Value) (gh:List Hdr) (k:Nat) (rows:List Q7k):Prop :=
 rows.length = hs.length ∧ gh.length = hs.length ∧ ∀ j h,hs[j]? = some h → ∃ r,rows[j]? = some r ∧ r.h = h ∧ r.l = Q7i mc j h.2.1 ∧ (j < k → gh[j]? = some r.g ∧ ∃ t,r.m = Q7i mc j h.2.1 ++ t)
theorem FlB.look (hP:FlB hs mc gh k rows) (hk : ¬ k < hs.length) {q:Nat} (hq:hs[q]? = some h) : ∃ r,rows[q]? = some r ∧ r.h = h ∧ r.l = Q7i mc q h.2.1 ∧ gh[q]? = some r.g ∧ r.m = Q7i mc q (h.2.1 + 64):=by
 obtain ⟨r,h1,h2,h3,_,h5⟩:=hP.2.2 q h hq
 have:=(List.getElem?_eq_some_iff.1 hq).1
 have:=h5 (by omega)
 exact ⟨r,h1,h2,h3,this.1,this.2⟩
theorem FlB.again (hP:FlB hs mc gh k rows):FlD hs mc gh 0 rows:=by
 refine ⟨hP.1,hP.2.1,fun j h hj=>?_⟩
 obtain ⟨r,h1,h2,h3,_⟩:=hP.2.2 j h hj
 exact ⟨r,h1,h2,h3,fun h0=>absurd h0 (Nat.not_lt_zero _)⟩
def FlE (hs:List Hdr) (mc:Nat → Nat → List Value) (rows:List Q7k):Prop:=rows.length = hs.length ∧ ∀ j h,hs[j]? = some h → ∃ r,rows[j]? = some r ∧ r.h = h ∧ r.l = Q7i mc j h.2.1
theorem FlD.left (hP:FlD hs mc gh k rows):FlE hs mc rows:=⟨hP.1,fun j h hj=>by obtain ⟨r,h1,h2,h3,_⟩:=hP.2.2 j h hj; exact ⟨r,h1,h2,h3⟩⟩
theorem FlD.at_ (hP:FlD hs mc gh k rows) {q:Nat} (hq:hs[q]? = some h) : ∃ r,rows[q]? = some r ∧ r.h = h ∧ r.l = Q7i mc q h.2.1:=by
 obtain ⟨r,h1,h2,h3,_⟩:=hP.2.2 q h hq
 exact ⟨r,h1,h2,h3⟩
theorem FlD.app (hP:FlD hs mc gh k rows) (hk:hs[k]? = some h) (hr:rows[k]? = some r) (g' : Hdr) (M:List Cel):FlD hs mc (gh.set k g') (k + 1) ((rows.set k ⟨r.h,r.l,r.h,r.l⟩).set k ⟨r.h,r.l,g',r.l ++ M⟩):=by
 rw [List.set_set]
 have hkl:=(List.getElem?_eq_some_iff.1 hk).1
 refine ⟨by rw [List.length_set]; exact hP.1,by rw [List.length_set]; exact hP.2.1,fun j h' hj=>?_⟩
 obtain ⟨r',h1,h2,h3,h4⟩:=hP.2.2 j h' hj
 by_cases e:j = k
 ·subst e
  rw [hr] at h1; cases h1
  rw [hk] at hj; cases hj
  refine ⟨_,set_eqT _ hr,h2,h3,fun _=>⟨?_,M,by simp only; rw [h3]⟩⟩
  rw [List.getElem?_set_self (by rw [hP.2.1]; exact hkl)]
 ·refine ⟨r',by rw [set_atT _ hr e]; exact h1,h2,h3,fun hlt=>?_⟩
  rw [List.getElem?_set_ne (Ne.symm e)]
  exact h4 (by omega)
theorem FlD.look (hP:FlD hs mc gh k rows) (hk : ¬ k < hs.length) {q:Nat} (hq:hs[q]? = some h) : ∃ r,rows[q]? = some r ∧ r.h = h ∧ r.l = Q7i mc q h.2.1 ∧ gh[q]? = some r.g ∧ ∃ t,r.m = Q7i mc q h.2.1 ++ t:=by
 obtain ⟨r,h1,h2,h3,h4⟩:=hP.2.2 q h hq
 have:=(List.getElem?_eq_some_iff.1 hq).1
 have:=h4 (by omega)
 exact ⟨r,h1,h2,h3,this.1,this.2⟩
theorem hdr_eq {a:Addr} (e:r.h = h) (ha:h.1 = some a):r.h = (some a,h.2.1,h.2.2):=by rw [e,← ha]
theorem hdr_eqG {a:Addr} (ha:r.g.1 = some a):r.g = (some a,r.g.2.1,r.g.2.2):=by rw [← ha]
theorem app_at {t:List Cel} (hi:i < n):(Q7i mc k n ++ t)[i]? = some (some (mc k i)):=by rw [List.getElem?_append_left (by rw [Q2y]; exact hi),Q8C hi]
def Q58 (h:Hdr):Q7k:=⟨h,List.replicate h.2.1 none,h,List.replicate h.2.1 none⟩
theorem FlA.start:FlA hs mc 0 0 (hs.map Q58):=by
 refine ⟨by simp,fun j h hj=>⟨Q58 h,by simp [hj],rfl,rfl,rfl,by simp [Q58],fun h0=>absurd h0 (Nat.not_lt_zero _),fun _ q hq=>absurd hq (Nat.not_lt_zero _)⟩⟩
end plain
end Go.Proofs.YtgangmegcejllaaGreatDoor
