import Derived.Test.YtgangmegcejllaaGreatDoorMap
namespace Go.Proofs.YtgangmegcejllaaGreatDoor
open Go.RowKit
theorem zeros_len {z:List Value} {sz:Nat} (hz:z.length = sz) : ∀ m,(zeros z m).length = m * sz
 | 0=>by simp [zeros]
 | m + 1=>by simp only [zeros,List.length_append,zeros_len hz m,hz,Nat.succ_mul]; omega
theorem QU.rowCap {α:Type} {C:Ctx} {Φ H:List Fact} {w:World} {g e sz m:Nat} {cs:List Value} (R:Rep α) (h:QU C Φ (.blk g cs e :: H) w) (hcs:cs.length = m * sz) (hle:m ≤ 9223372036854775807):QU C Φ (.own e sz R (.slice (some ⟨g,0,none⟩) 0 m) [] :: H) w:=by
 obtain ⟨F,N,hi⟩:=h
 have hop:=hi.owns 0 _ rfl
 have:=hi.set 0 (by simp) (Mod.refl _ _) (.own e sz R (.slice (some ⟨g,0,none⟩) 0 m) []) ⟨fun i hi'=>by cases hi'; exact hop.1,[],⟨by simp,.inr ⟨g,m,cs.toArray,rfl,Nat.zero_le _,hop.2,Nat.zero_le _,hle,by simpa using hcs,by simp⟩⟩,rfl⟩
 exact ⟨F,N,this⟩
section rules
variable {P:Program} {C:Ctx} {n:Nat} {Q:Exit → Act → World → Prop} {Φ Φ' : List Fact} {H H' : List Fact} {S S' : List (Nat × Value)} {ops:Array Oper} {rest:List Oper} {o:Oper} {d:Nat}
theorem wl_makeCap {α:Type} {t e sz by_ m:Nat} {x y:Operand} {z:Value} {kx ky:IntKind} {ey:Int} (R:Rep α) (hg:Q1L ops S o = some true) (hd:o.dst = some d) (hn:Nat.blt d n = true) (hS:Q2r d S = S') (ho:o.op = .makeSlice t x y)
  (hx:evS S x = some (.int kx 0)) (hy:evS S y = some (.int ky ey)) (hey:ey = (m:Int)) (he:Q2E P t = some e) (hr:tRow P e = some (z,sz,by_)) (hzs:Nat.beq z.cells.size sz = true) (hsz:Nat.blt 0 sz = true)
  (hby:by_ * m ≤ 281474976710656) (h63:m ≤ 9223372036854775807)
  (next : ∀ g,WL P C n Q Φ (.own e sz R (.slice (some ⟨g,0,none⟩) 0 m) [] :: H) ((d,.slice (some ⟨g,0,none⟩) 0 m) :: S') ops rest):WL P C n Q Φ H S ops (o :: rest):=by
 subst hey
 refine Q72 hg hd hn hS fun a w hf hw=>?_
 obtain ⟨i,hinfo,hz,hsize,hbytes⟩:=Qa4 hr
 have hzs':=Nat.eq_of_beq_eq_true hzs
 have hsz':=Nat.le_of_ble_eq_true hsz
 subst hbytes
 have hb:(i.bytes:Int) * (m:Int) ≤ 281474976710656:=by
  have h:((i.bytes * m:Nat):Int) ≤ 281474976710656:=by omega
  rwa [Int.natCast_mul] at h
 have hrun:=run_make (P:=P) (w:=w) t e i z (Q29 he) hinfo hz kx ky 0 (m:Int) (by omega) (by omega) hb (by omega)
 simp only [Int.toNat_natCast,hsize] at hrun
 refine ⟨_,_,by simp [execOp,ho,hf.eval hx,hf.eval hy,hrun]; try exact ⟨rfl,rfl⟩,Φ,_,((hw.alloc (madeCells z.cells (m * sz)) e).rowCap R (m:=m) (sz:=sz) ?_ h63),next _⟩
 rw [made_zeros _ sz m hzs' hsz']
 exact zeros_len (by simpa using hzs') m
end rules
theorem Q2m {α:Type} {sz:Nat} {R:Rep α} {F:Q2a} {w:World}:(Fact.sli sz R none 0 ([] : List α)).p F w:=⟨none,0,0,[],rfl,rfl,Nat.le_refl _,by omega,rfl,fun h=>absurd h (by omega)⟩
theorem sli_to {α:Type} {sz c:Nat} {R:Rep α} {p:Option Addr} {l:List α} {F:Q2a} {w:World} (k:Nat) (h:(Fact.sli sz R p c l).p F w):(Fact.sli sz R p c (l.take k)).p F w:=by
 obtain ⟨p',n',c',xs,e1,e2,h1,h2,h3,h4⟩:=h
 cases e1
 refine ⟨p,_,c,xs.take (k * sz),rfl,rfl,by simp only [List.length_take]; omega,h2,h3.take k,fun h0=>?_⟩
 obtain ⟨b,o,e3,h5,h6⟩:=h4 (by simp only [List.length_take] at h0; omega)
 refine ⟨b,o,e3,h5,fun j u hu=>h6 j u ?_⟩
 rw [List.getElem?_take] at hu
 split at hu
 · exact hu
 · cases hu
theorem sli_rel {α:Type} {sz c:Nat} {R R' : Rep α} {p:Option Addr} {l:List α} {F:Q2a} {w:World} (h:(Fact.sli sz R p c l).p F w) (hR : ∀ cs x,R.p F w cs x → R'.p F w cs x):(Fact.sli sz R' p c l).p F w:=by
 obtain ⟨p',n',c',xs,e1,e2,h1,h2,h3,h4⟩:=h
 exact ⟨p',n',c',xs,e1,e2,h1,h2,h3.mono fun cs x _=>hR cs x,h4⟩
end Go.Proofs.YtgangmegcejllaaGreatDoor
