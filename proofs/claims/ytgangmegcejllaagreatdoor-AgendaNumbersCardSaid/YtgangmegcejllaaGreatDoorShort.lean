import Derived.Test.YtgangmegcejllaaGreatDoorTree
namespace Go.Proofs.YtgangmegcejllaaGreatDoor
open Go Go.RowKit
section
variable {P:Program} {C:Ctx} {n:Nat} {Q:Exit → Act → World → Prop} {Φ:List Fact} {H:List Fact} {S S' : List (Nat × Value)} {ops:Array Oper} {rest:List Oper} {o:Oper} {d:Nat}
theorem wl_sliToF {α:Type} {t e sz c h m:Nat} {x y:Operand} {R:Rep α} {p:Option Addr} {l:List α} {z:Int} (k:Nat) (hg:Q1L ops S o = some true) (hd:o.dst = some d) (hn:Nat.blt d n = true) (hS:Q2r d S = S') (ho:o.op = .slice t x none (some y) none)
  (hx:evS S x = some (.slice p m c)) (hk : Φ[k]? = some (.sli sz R p c l)) (hy:evS S y = some (.int .i64 z)) (hz:z = (h:Int)) (ht:Q2E P t = some e) (hs:Q1G P e = some sz) (hh:h ≤ l.length)
  (next : ∀ p',WL P C n Q (.sli sz R p' c (l.take h) :: Φ) H ((d,.slice p' (l.take h).length c) :: S') ops rest):WL P C n Q Φ H S ops (o :: rest):=by
 subst hz
 refine Q72 hg hd hn hS fun a w hf hw=>?_
 obtain ⟨F,N,hi⟩:=hw
 have h1:=hi.facts _ (Qo hk)
 have hcap:=sli_cap h1
 refine ⟨.slice (if c = 0 then p else p.map (·.add (0 * sz))) (l.take h).length c,w,?_,_,H,QU.fact (φ:=.sli sz R (if c = 0 then p else p.map (·.add (0 * sz))) c (l.take h)) ⟨F,N,hi⟩ (fun F' hF'=>?_),next _⟩
 ·have e1:(l.take h).length = h:=by simp only [List.length_take]; omega
  rw [e1]
  simp [execOp,ho,hf.eval hx,hf.eval hy,Instr.sliceAt,Instr.slice,run_underlying (Q29 ht),Instr.sliceBounds,Instr.sliceBound,asIntOf,Nat.le_trans hh hcap.1,Q2L hs]
 ·have h3:=sli_cut (i:=0) (h:=h) (p':=if c = 0 then p else p.map (·.add (0 * sz))) (hF' _ (Qo hk)) (Nat.zero_le _) hh (fun hlt b o e=>by subst e; exact cut_at (by omega))
  simp only [List.drop_zero,Nat.sub_zero] at h3
  exact h3
end
section lights
variable {P:Program} {C:Ctx} {n:Nat} {Q:Exit → Act → World → Prop} {ops:Array Oper} {lights L:List Nat} {D:List (Nat × Fact)} {Φ H:List Fact} {S S' : List (Nat × Value)}
theorem wx_indexF {α:Type} (hok:Q2K ops lights = true) (i:Nat) {o:Oper} {d t e sz m:Nat} {x y:Operand} {R:Rep α} {p:Option Addr} {cp:Nat} {l:List α} {ik:IntKind} {z:Int} {u : α} (k j:Nat) (hi:ops[i]? = some o) (hd:o.dst = some d) (hl:Q50 ops lights L i n d o = true) (hS:Q2r d S = S') (hg:Q1L ops S o = some true)
  (ho:o.op = .indexAddr t x y) (hφ : Φ[k]? = some (.sli sz R p cp l)) (hx:evS S x = some (.slice p m cp)) (hy:evS S y = some (.int ik z)) (hz:z = (j:Int)) (hm:j < m) (hu:l[j]? = some u) (he:Q2E P t = some e) (hs:Q1G P e = some sz)
  (next : ∀ b q cs,cs.length = sz → WX P C n Q ops lights (i :: L) D (.cells b q cs :: .rep R cs u :: Φ) H ((d,.pointer (some ⟨b,q,none⟩)) :: S')):WX P C n Q ops lights L D Φ H S:=by
 have hj:=QB hu
 subst hz
 refine wx_open (Λ:=Nat × Nat × List Value) (pure:=fun r=>p = some ⟨r.1,r.2.1,none⟩ ∧ r.2.2.length = sz) (facts:=fun r=>[.cells r.1 (r.2.1 + j * sz) r.2.2,.rep R r.2.2 u]) (fun F w hΦ=>?_) ?_
 ·obtain ⟨p',n',c',xs,he',hn',hc,_,hch,hrow⟩:=(hΦ _ (Qo hφ):Sli F w sz (R.p F w) (.slice p l.length cp) l)
  cases he'
  obtain ⟨b,off,hp,hF,hcell⟩:=hrow (by omega)
  obtain ⟨cs,hcl,hr,hu2⟩:=hch.at hu
  refine ⟨(b,off,cs),⟨hp,hcl⟩,fun φ hφ'=>?_⟩
  simp only [List.mem_cons,List.not_mem_nil,or_false] at hφ'
  rcases hφ' with rfl | rfl
  ·refine ⟨hF,fun i v hi2=>?_⟩
   rw [Nat.add_assoc]; exact hcell _ v (hu2 i v hi2)
  · exact hr
 ·rintro ⟨b,off,cs⟩ ⟨rfl,hcl⟩
  refine Q8Y hok i [] [] hi hd hl hS rfl hg (fun a w hf _=>?_) (next b (off + j * sz) cs hcl)
  have h1:(0:Int) ≤ j ∧ (j:Int) < m:=by omega
  simp [execOp,ho,hf.eval hx,hf.eval hy,Instr.indexAt,asIntOf,run_underlying (Q29 he),h1,Q2L hs,Addr.add,hm]
end lights
end Go.Proofs.YtgangmegcejllaaGreatDoor
