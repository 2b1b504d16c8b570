import Derived.Test.YtgangmegcejllaaGreatDoorTypes
import Derived.Test.YtgangmegcejllaaGreatDoorStr
import Derived.Test.YtgangmegcejllaaGreatDoorAuto
import Derived.Test.YtgangmegcejllaaGreatDoorTree
namespace Go.Proofs.YtgangmegcejllaaGreatDoor
theorem tI_3:tInt Tryz.prog 3 = some .i64:=by kernel_rfl
theorem tI_5:tInt Tryz.prog 5 = some .u8:=by kernel_rfl
theorem Q1Z:tStr Tryz.prog 9 = true:=by kernel_rfl
theorem tQ_30:tPtr Tryz.prog 30 = some 66:=by kernel_rfl
theorem tI_157:tInt Tryz.prog 157 = some .u64:=by kernel_rfl
theorem tI_163:tInt Tryz.prog 163 = some .u64:=by kernel_rfl
theorem tI_305:tInt Tryz.prog 305 = some .u64:=by kernel_rfl
end Go.Proofs.YtgangmegcejllaaGreatDoor
namespace Go.Proofs.YtgangmegcejllaaGreatDoor
open Go.RowKit
section
variable {P:Program} {C:Ctx} {n:Nat} {Q:Exit → Act → World → Prop} {Φ Φ' : List Fact} {H H' : List Fact} {S S' : List (Nat × Value)} {ops:Array Oper} {rest:List Oper} {o:Oper} {d:Nat}
theorem dyn_runF {f:FuncId} {y:Operand} {xs:Array Operand} {ts:Array TypeId} {args0 args:List Value} {fst caps:Array Value} (ho:o.op = .call { callee:=.value y,args:=xs,argTypes:=ts }) (hy:evS S y = some (.func (.func f) fst caps)) (hx:evL S xs.toList = some args0)
  (hfn:Q1M P f = true) (ha:fst.toList ++ args0 ++ caps.toList = args) : ∀ a w,Frm n S a → (execOp a.eval o).run P w = .ok (.enter f args.toArray) w:=by
 intro a w hf
 have hargs:xs.map a.eval = args0.toArray:=by
  have:=hf.evalL hx
  have h0:xs = xs.toList.toArray:=by simp
  rw [← this,h0,List.map_toArray]
 have h2:(resolve a.eval { callee:=.value y,args:=xs,argTypes:=ts } o.type).run P w = .ok { target:=.fn (.func f) caps,args:=fst ++ args0.toArray } w:=by
  simp [resolve,hf.eval hy,Deferred.ofValue,hargs]
 have h3:fst ++ args0.toArray ++ caps = args.toArray:=by rw [← ha]; simp
 unfold execOp
 simp only [ho,Sem.run_bind,h2,Result.andThen_ok]
 simp only [invoke,isFn_run hfn,h3]
theorem Q1Q {f:FuncId} {y:Operand} {xs:Array Operand} {ts:Array TypeId} {args0 args:List Value} {fst caps:Array Value} {Φf Hf:List Fact} {R:Value → List Fact → List Fact → Prop} (l m:List Nat) (hg:Q1L ops S o = some true) (hd:o.dst = some d) (hn:Nat.blt d n = true) (hS:Q2r d S = S')
  (ho:o.op = .call { callee:=.value y,args:=xs,argTypes:=ts }) (hy:evS S y = some (.func (.func f) fst caps)) (hx:evL S xs.toList = some args0) (hfn:Q1M P f = true) (ha:fst.toList ++ args0 ++ caps.toList = args)
  (hH:Q1V H l = Hf) (spec:Q1z P f args Φf Hf R) (hΦ : ∀ F w,(∀ ψ ∈ Φ,ψ.p F w) → ∀ φ ∈ Φf,φ.p F w) (hl:Q3M (l ++ m) H.length = true) (hm:Q1V H m = H')
  (next : ∀ v Φr Hr,R v Φr Hr → WL P C n Q (Φr ++ Φ) (Hr ++ H') ((d,v) :: S') ops rest):WL P C n Q Φ H S ops (o :: rest) :=
 call_any l m hg (dyn_runF ho hy hx hfn ha) hH spec hΦ hl hm fun v Φr Hr hR a w hf hw=>by rw [hd]; exact next v Φr Hr hR _ w (hf.put (Nat.le_of_ble_eq_true hn) hS) hw
theorem Q71 {f:FuncId} {ys xs:Array Operand} {fst caps:List Value} (hg:Q1L ops S o = some true) (hd:o.dst = some d) (hn:Nat.blt d n = true) (hS:Q2r d S = S') (ho:o.op = .makeFunc (.func f) ys xs) (hy:evL S ys.toList = some fst) (hx:evL S xs.toList = some caps)
  (next:WL P C n Q Φ H ((d,.func (.func f) fst.toArray caps.toArray) :: S') ops rest):WL P C n Q Φ H S ops (o :: rest) :=
 Q8l hg hd hn hS (fun a w hf _=>by
  have hargs : ∀ {zs:Array Operand} {cs:List Value},evL S zs.toList = some cs → zs.map a.eval = cs.toArray:=by
   intro zs cs hz
   have:=hf.evalL hz
   have h0:zs = zs.toList.toArray:=by simp
   rw [← this,h0,List.map_toArray]
  simp [execOp,ho,Instr.makeFunc,hargs hx,hargs hy]) next
theorem wl_nn {α:Type} {e sz:Nat} {R:Rep α} {p:Option Addr} {m c:Nat} {l:List α} (k:Nat) (hk:H[k]? = some (.own e sz R (.slice p m c) l)) (hl : 0 < l.length) (next : ∀ u,p = some u → WL P C n Q Φ H S ops rest):WL P C n Q Φ H S ops rest:=by
 intro a w hf ⟨F,N,hi⟩
 obtain ⟨xs,ho,_⟩:=(hi.owns k _ hk).2
 rcases ho.2 with ⟨_,h1⟩ | ⟨g,cap,cur,hv,_⟩
 · omega
 · cases hv; exact next _ rfl a w hf ⟨F,N,hi⟩
end
end Go.Proofs.YtgangmegcejllaaGreatDoor
