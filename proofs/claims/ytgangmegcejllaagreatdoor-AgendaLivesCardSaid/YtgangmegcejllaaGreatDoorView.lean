import Derived.Shelf.Small.Bits
import Derived.Shelf.Small.Wraps
import Derived.Shelf.Strconv.Itoa0
import Derived.Shelf.Strconv.Itoa1
import Derived.Shelf.LaysM
import Derived.Shelf.Strconv.Itoa2
import Derived.Shelf.Strconv.Itoa3
import Derived.Ground.Names2Prog
import Derived.Shelf.Slices.Clone
import Derived.Shelf.Slices.SearchI
import Derived.Ground.SlsfProg
import Derived.Shelf.SlSortCmp.Insertion
import Derived.Shelf.SlSortCmp.SiftDown1
import Derived.Shelf.SlSortCmp.HeapSort1
import Derived.Shelf.SlSortCmp.Insertion1
import Derived.Shelf.SlSortCmp.Median1
import Derived.Shelf.SlSortCmp.Pivot1
import Derived.Shelf.SlSortCmp.ReverseRange1
import Derived.Shelf.SlSortCmp.PartialInsertion1
import Derived.Shelf.SlSortCmp.PartitionEqual1
import Derived.Shelf.SlSortCmp.Partition1
import Derived.Shelf.SlSortCmp.Pdq1
import Derived.Shelf.SlSortCmp.Whole1
import Derived.Shelf.SlSortCmp.NoneTotal
import Derived.Test.YtgangmegcejllaaGreatDoorProg
import Derived.Test.YtgangmegcejllaaGreatDoorAuto
namespace Go.Proofs
open Go.Shelf
def Tryz.laysM171_ren:Go.Shelf.Ren:=⟨fun | 171=>95 | 243=>147 | 246=>172 | 283=>188 | 284=>189 | 285=>190 | 286=>191 | 129=>157 | 317=>199 | 318=>200 | 319=>201 | 320=>202 | 337=>204 | 338=>205 | n=>n,fun | 3=>3 | 9=>9 | 2=>2 | 4=>4 | 171=>318 | 0=>0 | 53=>163 | 37=>167 | 5=>5 | 173=>320 | 212=>332 | 51=>161 | 20=>20 | 213=>333 | 46=>157 | 232=>335 | 233=>336 | n=>n,fun | 17=>0 | 18=>1 | 19=>2 | n=>n⟩
theorem Tryz.laysM171:Go.Proofs.LaysM.n171 Tryz.prog Tryz.laysM171_ren:={
 mixed:=by kernel_rfl
 f129:=Tryz.func157.trans (congrArg some (by kernel_rfl))
 f171:=Tryz.func95.trans (congrArg some (by kernel_rfl))
 f243:=Tryz.func147.trans (congrArg some (by kernel_rfl))
 f246:=Tryz.func172.trans (congrArg some (by kernel_rfl))
 f283:=Tryz.func188.trans (congrArg some (by kernel_rfl))
 f284:=Tryz.func189.trans (congrArg some (by kernel_rfl))
 f285:=Tryz.func190.trans (congrArg some (by kernel_rfl))
 f286:=Tryz.func191.trans (congrArg some (by kernel_rfl))
 f317:=Tryz.func199.trans (congrArg some (by kernel_rfl))
 f318:=Tryz.func200.trans (congrArg some (by kernel_rfl))
 f319:=Tryz.func201.trans (congrArg some (by kernel_rfl))
 f320:=Tryz.func202.trans (congrArg some (by kernel_rfl))
 f337:=Tryz.func204.trans (congrArg some (by kernel_rfl))
 f338:=Tryz.func205.trans (congrArg some (by kernel_rfl))
 t0:=Tryz.underlying0
 a0:=Tryz.isAgg0
 z0:=Tryz.sizeOf0
 v0:=Tryz.zeroValue0
 t2:=Tryz.underlying2
 a2:=Tryz.isAgg2
 z2:=Tryz.sizeOf2
 v2:=Tryz.zeroValue2
 t3:=Tryz.underlying3
 a3:=Tryz.isAgg3
 z3:=Tryz.sizeOf3
 v3:=Tryz.zeroValue3
 t4:=Tryz.underlying4
 a4:=Tryz.isAgg4
 z4:=Tryz.sizeOf4
 v4:=Tryz.zeroValue4
 t5:=Tryz.underlying5
 a5:=Tryz.isAgg5
 z5:=Tryz.sizeOf5
 v5:=Tryz.zeroValue5
 t9:=Tryz.underlying9
 a9:=Tryz.isAgg9
 z9:=Tryz.sizeOf9
 v9:=Tryz.zeroValue9
 t20:=Tryz.underlying20
 a20:=Tryz.isAgg20
 z20:=Tryz.sizeOf20
 v20:=Tryz.zeroValue20
 t37:=Tryz.underlying167
 a37:=Tryz.isAgg167
 z37:=Tryz.sizeOf167
 v37:=Tryz.zeroValue167
 t46:=Tryz.underlying157
 a46:=Tryz.isAgg157
 z46:=Tryz.sizeOf157
 v46:=Tryz.zeroValue157
 t51:=Tryz.underlying161
 a51:=Tryz.isAgg161
 z51:=Tryz.sizeOf161
 v51:=Tryz.zeroValue161
 t53:=Tryz.underlying163
 a53:=Tryz.isAgg163
 z53:=Tryz.sizeOf163
 v53:=Tryz.zeroValue163
 t171:=Tryz.underlying318
 a171:=Tryz.isAgg318
 z171:=Tryz.sizeOf318
 v171:=Tryz.zeroValue318
 t173:=Tryz.underlying320
 a173:=Tryz.isAgg320
 z173:=Tryz.sizeOf320
 v173:=Tryz.zeroValue320
 t212:=Tryz.underlying332
 a212:=Tryz.isAgg332
 z212:=Tryz.sizeOf332
 v212:=Tryz.zeroValue332
 t213:=Tryz.underlying333
 a213:=Tryz.isAgg333
 z213:=Tryz.sizeOf333
 t232:=Tryz.underlying335
 a232:=Tryz.isAgg335
 z232:=Tryz.sizeOf335
 v232:=Tryz.zeroValue335
 t233:=Tryz.underlying336
 a233:=Tryz.isAgg336
 z233:=Tryz.sizeOf336
 v233:=Tryz.zeroValue336
 g17:=by kernel_rfl
 g18:=by kernel_rfl
 g19:=by kernel_rfl
 i0:=by kernel_rfl
 i2:=by kernel_rfl
 i3:=by kernel_rfl
 i4:=by kernel_rfl
 i5:=by kernel_rfl
 i9:=by kernel_rfl
 i20:=by kernel_rfl
 i37:=by kernel_rfl
 i46:=by kernel_rfl
 i51:=by kernel_rfl
 i53:=by kernel_rfl
 i171:=by kernel_rfl
 i173:=by kernel_rfl
 i212:=by kernel_rfl
 i232:=by kernel_rfl
 i233:=by kernel_rfl
 m17:=by kernel_rfl
 m18:=by kernel_rfl
 m19:=by kernel_rfl }
open Go.RowKit Go.Sort Go.Lib in
theorem Tryz.strconv_Itoa (n:Int) (h0 : -9223372036854775808 ≤ n) (h1:n ≤ 9223372036854775807) (w:World) (htab:Lib.TabIs Tryz.prog w "internal/strconv.uint64pow10" .u64 Lib.pow10Tab) :
 Calls Tryz.prog 95 #[.int .i64 n] w fun e w'=>e = .returned (.string ⟨(Lib.itoa n).toArray⟩) ∧ ∃ k os,w' = grow (w.drewN k) os:=Any.strconv_Itoa Tryz.laysM171 n h0 h1 w htab
end Go.Proofs
namespace Go.Proofs.YtgangmegcejllaaGreatDoor
open Go Go.RowKit
theorem sli_cut {α:Type} {sz c i h:Nat} {R:Rep α} {p p' : Option Addr} {l:List α} {F:Q2O} {w:World} (hs:(Fact.sli sz R p c l).p F w) (hi:i ≤ h) (hl:h ≤ l.length) (hp:i < h → ∀ b o,p = some ⟨b,o,none⟩ → p' = some ⟨b,o + i * sz,none⟩):(Fact.sli sz R p' (c - i) ((l.take h).drop i)).p F w:=by
 obtain ⟨p0,n0,c0,xs,e1,e2,h1,h2,h3,h4⟩:=sli_to h hs
 cases e1
 refine ⟨p',_,c - i,xs.drop (i * sz),rfl,rfl,by simp only [List.length_drop,List.length_take] at h1 ⊢; omega,by omega,h3.drop i,fun h0=>?_⟩
 simp only [List.length_drop,List.length_take] at h0
 obtain ⟨b,o,e3,h5,h6⟩:=h4 (by simp only [List.length_take]; omega)
 refine ⟨b,o + i * sz,hp (by omega) b o e3,h5,fun j u hu=>?_⟩
 rw [List.getElem?_drop] at hu
 have:=h6 (i * sz + j) u hu
 rw [Nat.add_assoc]; exact this
section
variable {P:Program} {C:Ctx} {n:Nat} {Q:Exit → Act → World → Prop} {Φ:List Fact} {H:List Fact} {S S' : List (Nat × Value)} {ops:Array Oper} {rest:List Oper} {o:Oper} {d:Nat}
theorem cut_at {b o sz i c:Nat} (hc:i < c):(if c = i then (some ⟨b,o,none⟩ : Option Addr) else (some ⟨b,o,none⟩ : Option Addr).map (·.add (i * sz))) = some ⟨b,o + i * sz,none⟩:=by
 rw [if_neg (by omega)]; simp [Q5O]
theorem wl_sliTo {α:Type} {t e sz c h:Nat} {x y:Operand} {R:Rep α} {p:Option Addr} {l:List α} {z:Int} (k:Nat) (hg:Q1J ops S o = some true) (hd:o.dst = some d) (hn:Nat.blt d n = true) (hS:Q3b d S = S') (ho:o.op = .slice t x none (some y) none)
  (hx:evS S x = some (.slice p l.length c)) (hk : Φ[k]? = some (.sli sz R p c l)) (hy:evS S y = some (.int .i64 z)) (hz:z = (h:Int)) (ht:Q3A P t = some e) (hs:Q1N P e = some sz) (hh:h ≤ l.length)
  (next : ∀ p',WL P C n Q (.sli sz R p' c (l.take h) :: Φ) H ((d,.slice p' (l.take h).length c) :: S') ops rest):WL P C n Q Φ H S ops (o :: rest):=by
 subst hz
 refine Q6N hg hd hn hS fun a w hf hw=>?_
 obtain ⟨F,N,hi⟩:=hw
 have h1:=hi.facts _ (Qu hk)
 have hcap:=sli_cap h1
 have h2:=sli_cut (i:=0) (h:=h) (p':=if c = 0 then p else p.map (·.add (0 * sz))) h1 (Nat.zero_le _) hh (fun hlt b o e=>by subst e; exact cut_at (by omega))
 simp only [List.drop_zero,Nat.sub_zero] at h2
 refine ⟨.slice (if c = 0 then p else p.map (·.add (0 * sz))) (l.take h).length c,w,?_,_,H,QY.fact (φ:=.sli sz R (if c = 0 then p else p.map (·.add (0 * sz))) c (l.take h)) ⟨F,N,hi⟩ (fun F' hF'=>?_),next _⟩
 ·have e1:(l.take h).length = h:=by simp only [List.length_take]; omega
  rw [e1]
  simp [execOp,ho,hf.eval hx,hf.eval hy,Instr.sliceAt,Instr.slice,run_underlying (Q2N ht),Instr.sliceBounds,Instr.sliceBound,asIntOf,Nat.le_trans hh hcap.1,Q3M hs]
 ·have h3:=sli_cut (i:=0) (h:=h) (p':=if c = 0 then p else p.map (·.add (0 * sz))) (hF' _ (Qu hk)) (Nat.zero_le _) hh (fun hlt b o e=>by subst e; exact cut_at (by omega))
  simp only [List.drop_zero,Nat.sub_zero] at h3
  exact h3
theorem wl_sliFrom {α:Type} {t e sz c i:Nat} {x y:Operand} {R:Rep α} {p:Option Addr} {l:List α} {z:Int} (k:Nat) (hg:Q1J ops S o = some true) (hd:o.dst = some d) (hn:Nat.blt d n = true) (hS:Q3b d S = S') (ho:o.op = .slice t x (some y) none none)
  (hx:evS S x = some (.slice p l.length c)) (hk : Φ[k]? = some (.sli sz R p c l)) (hy:evS S y = some (.int .i64 z)) (hz:z = (i:Int)) (ht:Q3A P t = some e) (hs:Q1N P e = some sz) (hh:i ≤ l.length)
  (next : ∀ p',WL P C n Q (.sli sz R p' (c - i) (l.drop i) :: Φ) H ((d,.slice p' (l.drop i).length (c - i)) :: S') ops rest):WL P C n Q Φ H S ops (o :: rest):=by
 subst hz
 refine Q6N hg hd hn hS fun a w hf hw=>?_
 obtain ⟨F,N,hi⟩:=hw
 have h1:=hi.facts _ (Qu hk)
 have hcap:=sli_cap h1
 refine ⟨.slice (if c = i then p else p.map (·.add (i * sz))) (l.drop i).length (c - i),w,?_,_,H,QY.fact (φ:=.sli sz R (if c = i then p else p.map (·.add (i * sz))) (c - i) (l.drop i)) ⟨F,N,hi⟩ (fun F' hF'=>?_),next _⟩
 ·rw [List.length_drop]
  simp [execOp,ho,hf.eval hx,hf.eval hy,Instr.sliceAt,Instr.slice,run_underlying (Q2N ht),Instr.sliceBounds,Instr.sliceBound,asIntOf,hcap.1,hh,Q3M hs]
 ·have h3:=sli_cut (i:=i) (h:=l.length) (p':=if c = i then p else p.map (·.add (i * sz))) (hF' _ (Qu hk)) hh (Nat.le_refl _) (fun hlt b o e=>by subst e; exact cut_at (by omega))
  rw [List.take_length] at h3
  exact h3
end
section
variable {P:Program} {C:Ctx} {n:Nat} {Q:Exit → Act → World → Prop} {Φ:List Fact} {H:List Fact} {S S' : List (Nat × Value)} {ops:Array Oper} {rest:List Oper} {o:Oper} {d:Nat} {lights L:List Nat} {D:List (Nat × Fact)}
theorem Q9u {α:Type} {t e sz m q:Nat} {x i:Operand} {R:Rep α} {p:Option Addr} {cp:Nat} {l:List α} {ik:IntKind} {z:Int} (k j:Nat) (hg:Q1J ops S o = some true) (hd:o.dst = some d) (hn:Nat.blt d n = true) (hS:Q3b d S = S') (ho:o.op = .indexAddr t x i)
  (hφ:H[k]? = some (.own e sz R (.slice p m cp) l)) (hx:evS S x = some (.slice p q cp)) (hi:evS S i = some (.int ik z)) (hz:z = (j:Int)) (hq:j < q) (hj:j < l.length) (he:Q3A P t = some e) (hs:Q1N P e = some sz)
  (next : ∀ g,p = some ⟨g,0,none⟩ → WL P C n Q Φ H ((d,.pointer (some ⟨g,j * sz,none⟩)) :: S') ops rest):WL P C n Q Φ H S ops (o :: rest):=by
 refine Q6N hg hd hn hS fun a w hf hw=>?_
 have hw':=hw
 obtain ⟨F,N,hi'⟩:=hw
 obtain ⟨hN,hown⟩:=hi'.owns k _ hφ
 obtain ⟨g,hp,hm,_⟩:=hown.head (by omega)
 subst hp; subst hz
 refine ⟨.pointer (some ⟨g,j * sz,none⟩),w,?_,Φ,H,hw',next g rfl⟩
 have h1:(0:Int) ≤ j ∧ (j:Int) < q:=by omega
 simp [execOp,ho,hf.eval hx,hf.eval hi,Instr.indexAt,asIntOf,run_underlying (Q2N he),h1,hq,Q3M hs]
 unfold Addr.add; split <;> simp_all
end
theorem view_to {α:Type} {sz c:Nat} {R:Rep α} {p:Option Addr} {l:List α} {F:Q2O} {w:World} (h:(Fact.sli sz R p c l).p F w) (k:Nat):(Fact.sli sz R p c (l.take k)).p F w:=sli_to k h
theorem take_slice {α:Type} {l:List α} {p:Option Addr} {k c:Nat} (h:k ≤ l.length):Value.slice p k c = .slice p (l.take k).length c:=by rw [List.length_take,Nat.min_eq_left h]
theorem wc_row {α:Type} {P:Program} {C:Ctx} {n:Nat} {Q:Exit → Act → World → Prop} {Φ:List Fact} {H H' : List Fact} {S:List (Nat × Value)} {c:Code} {g e sz m:Nat} {cs:List Value} (R:Rep α) (l:List α) (k:Nat) (hk:H[k]? = some (.blk g cs e)) (hch : ∀ F w,(∀ ψ ∈ Φ,ψ.p F w) → Q1x sz (R.p F w) cs l) (hm:m = l.length) (hle:m ≤ 9223372036854775807)
 (hH:H.set k (.own e sz R (.slice (some ⟨g,0,none⟩) m m) l) = H') (next:WC P C n Q Φ H' S c):WC P C n Q Φ H S c:=fun a w hf hw=>next a w hf (hw.row k hk (fun F=>hch F w) hm hle hH)
end Go.Proofs.YtgangmegcejllaaGreatDoor
