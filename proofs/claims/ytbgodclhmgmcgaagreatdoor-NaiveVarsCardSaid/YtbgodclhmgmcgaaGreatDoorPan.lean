import Derived.Test.YtbgodclhmgmcgaaGreatDoorAuto
import Derived.Test.YtbgodclhmgmcgaaGreatDoorPtr
import Derived.Test.YtbgodclhmgmcgaaGreatDoorIdx
import Derived.Defers
import Derived.Recover
namespace Go.Proofs.YtbgodclhmgmcgaaGreatDoor
open Go Go.RowKit
theorem spec_ofD {P:Program} {f:FuncId} {fn:Func} {body:Code} {n:Nat} {args:List Value} {S:List (Nat × Value)} {Φ Hin:List Fact} {R:Value → List Fact → List Fact → Prop}
  (hf:P.funcs[f]? = some fn) (hb:fn.body = some body) (hn:fn.ntmps = n) (hle:Nat.ble args.length n = true) (hS:zipS 0 args = S) (h : ∀ C,WC P C ⟨n,[]⟩ (bodyPostD P fn (Ret C R)) Φ Hin S body):Q1d P f args Φ Hin R:=by
 intro F N w hF hΦ hH hlt hap
 refine calls_of_wp_defers hf hb (h ⟨w,fun k=>∃ i,i < Hin.length ∧ N i k,F⟩ _ w ⟨?_,rfl,?_⟩ ⟨F,N,hF,fun _ h=>h,fun _ h=>.inl h,hΦ,hH,fun i k hi hk=>⟨(hlt i k hi hk).1,.inr ⟨i,hi,hk⟩,(hlt i k hi hk).2⟩,hap,Mod.refl _ _⟩)
 ·have:=Nat.le_of_ble_eq_true hle
  simp [hn]; try omega
 ·intro x hx
  rw [← hS] at hx
  obtain ⟨_,h2⟩:=zipS_mem hx
  rw [Nat.sub_zero] at h2
  have hl:=(List.getElem?_eq_some_iff.1 h2).1
  rw [Array.getElem?_append_left (by simpa using hl)]
  simpa using h2
section
variable {P:Program} {C:Ctx} {n:FD} {Q:Exit → Act → World → Prop} {Φ Φ' : List Fact} {H H' : List Fact} {S S' : List (Nat × Value)} {ops:Array Oper} {rest:List Oper} {o:Oper} {d:Nat}
theorem we_row {α:Type} {e' : Exit} {g e sz m:Nat} {cs:List Value} (R:Rep α) (l:List α) (k:Nat) (hk:H[k]? = some (.blk g cs e)) (hch : ∀ F w,(∀ ψ ∈ Φ,ψ.p F w) → Q1C sz (R.p F w) cs l) (hm:m = l.length) (hle:m ≤ 9223372036854775807)
 (hH:H.set k (.own e sz R (.slice (some ⟨g,0,none⟩) m m) l) = H') (next:WE C n Q Φ H' S e'):WE C n Q Φ H S e':=fun a w hf hw=>next a w hf (hw.row k hk (fun F=>hch F w) hm hle hH)
theorem wl_defer {k:Nat} {f:FuncId} {y:Operand} {ts:Array TypeId} {caps:Array Value} (hg:Q1w ops S o = some true) (ho:o.op = .defer { callee:=.value y,args:=#[],argTypes:=ts }) (hd:o.dst = none)
  (hy:evS S y = some (.func (.func f) #[] caps)) (next:WL P C ⟨k,[{ target:=.fn (.func f) caps,args:=#[] }]⟩ Q Φ H S ops rest):WL P C ⟨k,[]⟩ Q Φ H S ops (o :: rest):=by
 intro a w hf hw
 refine wpList_step fun K hK=>?_
 rw [Q4V hf hg,if_pos rfl]
 unfold Oper.wp
 have hrun:(execOp a.eval o).run P w = .ok (.defer { target:=.fn (.func f) caps,args:=#[] }) w:=by
  unfold execOp
  simp [ho,resolve,hf.eval hy,Deferred.ofValue]
 rw [hrun,Oper.upon_defer,hd]
 exact hK _ _ (next _ w ⟨hf.size,by simp [Act.put,hf.defers],hf.at_⟩ hw)
def Idle (P:Program) (f:FuncId) (args:Array Value):Prop:=∀ w,CallsD P f args .returning w fun e u' w'=>e = .returned (.tuple #[]) ∧ u' = .returning ∧ w' = w
theorem we_idle {fn:Func} {m:Nat} {f:FuncId} {caps:Array Value} {R:Ending → World → Prop} {e:Exit} (hfn:Q1u P f = true) (hI:Idle P f caps) (he:e = .ret ∨ e = .normal)
  (h:WE C ⟨m,[]⟩ (bodyPost P fn R) Φ H S e):WE C ⟨m,[{ target:=.fn (.func f) caps,args:=#[] }]⟩ (bodyPostD P fn R) Φ H S e:=by
 intro a w hf hw
 have h1:bodyPost P fn R .ret { a with defers:=[] } w:=by
  have:=h { a with defers:=[] } w ⟨hf.size,rfl,hf.at_⟩ hw
  rcases he with rfl | rfl <;> exact this
 have h2:Leaves P fn a.tmps R a.defers .returning w:=by
  rw [hf.defers]
  refine leaves_cons (f:=f) (args:=caps) (by simp) (by simp [invoke,Qam hfn]) ?_
  refine (hI w).mono ?_
  rintro e u' w' ⟨rfl,rfl,rfl⟩
  obtain ⟨_,v,hv,hR⟩:=h1
  exact ⟨v,hv,hR⟩
 rcases he with rfl | rfl <;> exact h2
end
end Go.Proofs.YtbgodclhmgmcgaaGreatDoor
