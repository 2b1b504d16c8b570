import Derived.Test.YtbgodclhmgmcgaaGreatDoorTypes
import Derived.Test.YtbgodclhmgmcgaaGreatDoorLight
import Derived.Test.YtbgodclhmgmcgaaGreatDoorProg
import Derived.Test.YtbgodclhmgmcgaaGreatDoorBase
import Derived.ProofKit
import Derived.OpenShut
import Derived.Deep.Slices
import Derived.Deep.Fields
import Derived.Deep.Strs
import Derived.Lib.SmallJoins
namespace Go.Proofs.YtbgodclhmgmcgaaGreatDoor
open Go.RowKit
theorem guardB (op:BinOp)(x y:Operand)(a b:Bool)(w:World):(eqGuard op 4 x y (.bool a) (.bool b)).run Tryz.prog w=.ok () w:=by
 have h:Tryz.prog.eqGuardType Tryz.prog.depth 4=false:=by kernel_rfl
 cases op <;> simp [eqGuard,program,Sem.run,h]
theorem neqB (x y:Operand)(a b:Bool)(w:World):(do eqGuard .neq 4 x y (.bool a) (.bool b);binOp .neq 4 (.bool a) (.bool b):Sem Value).run Tryz.prog w=.ok (.bool (a !=b)) w:=by
 rw [Sem.run_bind,guardB,Result.andThen_ok]
 cases a <;> cases b <;> kernel_rfl
theorem eqlB (x y:Operand)(a b:Bool)(w:World):(do eqGuard .eql 4 x y (.bool a) (.bool b);binOp .eql 4 (.bool a) (.bool b):Sem Value).run Tryz.prog w=.ok (.bool (a==b)) w:=by
 rw [Sem.run_bind,guardB,Result.andThen_ok]
 cases a <;> cases b <;> kernel_rfl
end Go.Proofs.YtbgodclhmgmcgaaGreatDoor
namespace Go.Proofs.YtbgodclhmgmcgaaGreatDoor
open Go.RowKit
theorem guardV (op:BinOp)(x y:Operand)(a b:Array Value)(w:World):(eqGuard op 57 x y (.agg a) (.agg b)).run Tryz.prog w=.ok () w:=by
 have h:Tryz.prog.eqGuardType Tryz.prog.depth 57=false:=by kernel_rfl
 cases op <;> simp [eqGuard,program,Sem.run,h]
theorem neqV (x y:Operand)(a b:V)(w:World):(do eqGuard .neq 57 x y (.agg (QcJ a ()).toArray) (.agg (QcJ b ()).toArray);binOp .neq 57 (.agg (QcJ a ()).toArray) (.agg (QcJ b ()).toArray):Sem Value).run Tryz.prog w=.ok (.bool (!decide (a=b))) w:=by
 rw [Sem.run_bind,guardV,Result.andThen_ok]
 simp only [V.ext_iff',QcJ]
 simp [go_sem]
 by_cases h1:a.k=b.k <;> by_cases h2:a.n=b.n <;> by_cases h3:a.s.toList=b.s.toList <;> simp [h1,h2,h3]
theorem eqlV (x y:Operand)(a b:V)(w:World):(do eqGuard .eql 57 x y (.agg (QcJ a ()).toArray) (.agg (QcJ b ()).toArray);binOp .eql 57 (.agg (QcJ a ()).toArray) (.agg (QcJ b ()).toArray):Sem Value).run Tryz.prog w=.ok (.bool (decide (a=b))) w:=by
 rw [Sem.run_bind,guardV,Result.andThen_ok]
 simp only [V.ext_iff',QcJ]
 simp [go_sem]
 by_cases h1:a.k=b.k <;> by_cases h2:a.n=b.n <;> by_cases h3:a.s.toList=b.s.toList <;> simp [h1,h2,h3]
end Go.Proofs.YtbgodclhmgmcgaaGreatDoor
namespace Go.Proofs.YtbgodclhmgmcgaaGreatDoor
open Go.RowKit
theorem Q1n.ext_iff' {a b:Q1n}:a=b ↔ a.k=b.k∧a.var=b.var∧a.v=b.v:=by
 cases a;cases b;simp
instance:DecidableEq Q1n:=fun _ _=>decidable_of_iff _ Q1n.ext_iff'.symm
theorem guardA (op:BinOp)(x y:Operand)(a b:Array Value)(w:World):(eqGuard op 59 x y (.agg a) (.agg b)).run Tryz.prog w=.ok () w:=by
 have h:Tryz.prog.eqGuardType Tryz.prog.depth 59=false:=by kernel_rfl
 cases op <;> simp [eqGuard,program,Sem.run,h]
theorem neqA (x y:Operand)(a b:Q1n)(w:World):(do eqGuard .neq 59 x y (.agg (QcG a ()).toArray) (.agg (QcG b ()).toArray);binOp .neq 59 (.agg (QcG a ()).toArray) (.agg (QcG b ()).toArray):Sem Value).run Tryz.prog w=.ok (.bool (!decide (a=b))) w:=by
 rw [Sem.run_bind,guardA,Result.andThen_ok]
 simp only [Q1n.ext_iff',V.ext_iff',QcG]
 simp [go_sem]
 by_cases h1:a.k=b.k <;> by_cases h2:a.var=b.var <;> by_cases h3:a.v.k=b.v.k <;> by_cases h4:a.v.n=b.v.n <;> by_cases h5:a.v.s.toList=b.v.s.toList <;> simp [h1,h2,h3,h4,h5]
theorem eqlA (x y:Operand)(a b:Q1n)(w:World):(do eqGuard .eql 59 x y (.agg (QcG a ()).toArray) (.agg (QcG b ()).toArray);binOp .eql 59 (.agg (QcG a ()).toArray) (.agg (QcG b ()).toArray):Sem Value).run Tryz.prog w=.ok (.bool (decide (a=b))) w:=by
 rw [Sem.run_bind,guardA,Result.andThen_ok]
 simp only [Q1n.ext_iff',V.ext_iff',QcG]
 simp [go_sem]
 by_cases h1:a.k=b.k <;> by_cases h2:a.var=b.var <;> by_cases h3:a.v.k=b.v.k <;> by_cases h4:a.v.n=b.v.n <;> by_cases h5:a.v.s.toList=b.v.s.toList <;> simp [h1,h2,h3,h4,h5]
end Go.Proofs.YtbgodclhmgmcgaaGreatDoor
namespace Go.Proofs.YtbgodclhmgmcgaaGreatDoor
open Go.RowKit
theorem guardT (op:BinOp)(x y:Operand)(a b:Array Value)(w:World):(eqGuard op 69 x y (.agg a) (.agg b)).run Tryz.prog w=.ok () w:=by
 have h:Tryz.prog.eqGuardType Tryz.prog.depth 69=false:=by kernel_rfl
 cases op <;> simp [eqGuard,program,Sem.run,h]
theorem neqT (x y:Operand)(s1 s2:ByteArray)(n1 n2:Int)(w:World):(do eqGuard .neq 69 x y (.agg #[.string s1,.int .i64 n1]) (.agg #[.string s2,.int .i64 n2]);binOp .neq 69 (.agg #[.string s1,.int .i64 n1]) (.agg #[.string s2,.int .i64 n2]):Sem Value).run Tryz.prog w=.ok (.bool (!((s1.toList==s2.toList) && (n1==n2)))) w:=by
 rw [Sem.run_bind,guardT,Result.andThen_ok]
 simp [go_sem]
 by_cases h1:s1.toList=s2.toList <;> by_cases h2:n1=n2 <;> simp [h1,h2]
theorem eqlT (x y:Operand)(s1 s2:ByteArray)(n1 n2:Int)(w:World):(do eqGuard .eql 69 x y (.agg #[.string s1,.int .i64 n1]) (.agg #[.string s2,.int .i64 n2]);binOp .eql 69 (.agg #[.string s1,.int .i64 n1]) (.agg #[.string s2,.int .i64 n2]):Sem Value).run Tryz.prog w=.ok (.bool ((s1.toList==s2.toList) && (n1==n2))) w:=by
 rw [Sem.run_bind,guardT,Result.andThen_ok]
 simp [go_sem]
 by_cases h1:s1.toList=s2.toList <;> by_cases h2:n1=n2 <;> simp [h1,h2]
end Go.Proofs.YtbgodclhmgmcgaaGreatDoor
namespace Go.Proofs.YtbgodclhmgmcgaaGreatDoor
open Go.RowKit Go.ChangeShapes Go.WideShapes Go.Deep
theorem Qew {H:Type} {enc:TypeId×Value→H} {P:Program} (hl:laidOutB P=true) {W W' : World} (hb:Below W.heap.size W W') : ∀ {ts:List TypeId} {vs:List Value} {ds:List (DataW H)} {ps:List MemPlace},(∀ t∈ts,P.readableRec t=true∧t < P.types.size)→
   DataW.TrodAll enc P W 0 (fun _=>true) true ts vs ds ps→(∀ x∈ps,x.block < W.heap.size)→DataW.TrodAll enc P W' 0 (fun b=>decide (b < W.heap.size)) true ts vs ds ps
 | [],vs,ds,ps,_,h,_=>by
   cases vs with
   | nil=>cases ds with
     | nil=>exact h
     | cons d ds=>exact h
   | cons v vs=>cases ds <;> exact h
 | t :: ts,vs,ds,ps,ht,h,hlt=>by
   obtain ⟨v0,vs0,d0,ds0,p0,q0,rfl,rfl,rfl,h0,r0⟩:=trodAll_cons h
   exact trodAll_cons_mk (Below.trod hl (ht t (by simp)).1 (ht t (by simp)).2 h0 hb (fun x hx=>hlt x (by simp [hx]))) (Qew hl hb (fun t h=>ht t (by simp [h])) r0 (fun x hx=>hlt x (by simp [hx])))
theorem law_post {H:Type} {enc:TypeId×Value→H} {P:Program} {f:Func} {s:ChangeSpec} {apart fresh handsOn:Bool} {W W' : World} {args:Array Value} {ds gs:List (DataW H)} {before:List MemPlace} {tb:TypeId}
  (hl:laidOutB P=true) (hr : ∀ t∈f.params.toList,P.readableRec t=true∧t < P.types.size) (hres:f.resultTypes=#[tb]) (htb:P.underlying tb=some .bool) (hv:s.vars=[])
  (hW:DataW.Whole enc P f.params.toList s.vars apart W args.toList ds gs before) (hfn:(s.fn H (ds++gs)).results=[.lit (.bool true)]) (hfa:(s.fn H (ds++gs)).args=ds) (hfv:(s.fn H (ds++gs)).vars=[])
  (hb:Below W.heap.size W W'):s.post enc P f apart fresh handsOn false W args (.bool true) W':=by
 have hW':=hW
 obtain ⟨p,q,hA,hV,rfl,hfz,hnd⟩:=hW
 rw [hv] at hV
 obtain ⟨rfl,rfl⟩:=trodVars_none hV
 refine ⟨ds,[],p++[],[],p++[],[],hW',?_,?_,?_,hb.frame _,fun h=>by cases h⟩
 ·rw [hfn,hres]
  exact trodAll_mk1 (shut_bool htb true)
 ·rw [hfa,List.append_nil]
  exact Qew hl hb hr hA (fun x hx=>hW'.lt x (by simpa using hx))
 · rw [hfv,hv];rfl
end Go.Proofs.YtbgodclhmgmcgaaGreatDoor
namespace Go.Proofs.YtbgodclhmgmcgaaGreatDoor
open Go.RowKit Go.Deep
theorem okWide_agg {P:Program} {w:World} {r:Reach} {base t:Nat} {v:Value} {fs:Array Field} (ht:P.underlying t=some (.struct fs))(h:Value.okWide P w r base t v) : ∃ cs,v=.agg cs:=by
 unfold Value.okWide at h
 rw [ht] at h
 obtain ⟨cs,h1,_⟩:=h
 exact ⟨cs,h1⟩
theorem okWide_sl {P:Program} {w:World} {r:Reach} {base t e:Nat} {v:Value} (ht:P.underlying t=some (.slice e))(h:Value.okWide P w r base t v):v.cells.toList=[v]:=by
 unfold Value.okWide at h
 rw [ht] at h
 unfold Cell.okWide at h
 rw [ht] at h
 unfold Cell.ok at h
 rw [ht] at h
 cases v <;> first | rfl | (simp at h)
theorem spec_calls {P : Program} {f : FuncId} {args : List Value} {Φ : List Fact} {v : Value} {w : World} (h : QY P f args Φ [] (fun u Φr Hr=> u=v∧Φr=[]∧Hr=[]))(hΦ : ∀ φ∈Φ,φ.p (fun k=> k < w.heap.size) w) :
  Calls P f args.toArray w fun e w'=>e=.returned v∧Mod (fun _=>False) w w':=by
 refine Calls.mono (h (fun k=>k < w.heap.size) (fun _ _=>False) w (fun _ h=>h) hΦ (fun i x hx=>by simp at hx) (fun i k hi=>by simp at hi) (fun i j k hi=>by simp at hi)) fun e w' he=>?_
 obtain ⟨u,Φr,Hr,rfl,⟨rfl,_⟩,F,N,hm⟩:=he
 exact ⟨rfl,hm.mod.mono fun k _ hk=>by obtain ⟨i,hi,_⟩:=hk;simp at hi⟩
end Go.Proofs.YtbgodclhmgmcgaaGreatDoor
