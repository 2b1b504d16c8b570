import Derived.Test.YtbgodclhmgmcgaaGreatDoorSep
import Derived.Deep.MidRow
namespace Go.Proofs.YtbgodclhmgmcgaaGreatDoor
open Go.RowKit
def Q1H (P:Program)(t k:Nat):Option Nat:=match P.underlying t with
 | some (.struct fs)=>match fs[k]? with
   | some f=>match P.info? f.type with
     | some i=>if i.size=0 then none else some f.offset
     | none=>none
   | none=>none
 | _=>none
def Q1m (P:Program)(t:Nat):Option Nat:=(P.info? t).map (·.size)
def Q58 (P:Program)(t:Nat):Option Bool:=match P.underlying t with
 | some (.struct _)=>some true
 | some (.array _ _)=>some true
 | some _=>some false
 | none=>none
def Q4P (P:Program)(t:Nat):Option Value:=(P.info? t).bind (·.zero)
def Q2d (P:Program)(t:Nat):Option Nat:=match P.underlying t with
 | some (.slice e)=>some e
 | _=>none
theorem fldOff_run {P:Program} {t k off:Nat} (h:Q1H P t k=some off)(b o:Nat)(w:World):(Instr.fieldAt t (.pointer (some ⟨b,o,none⟩)) k).run P w=.ok (.pointer (some ⟨b,o+off,none⟩)) w:=by
 unfold Q1H at h
 split at h
 ·rename_i fs hu
  split at h
  ·rename_i f hf
   split at h
   ·rename_i i hi
    split at h
    · cases h
    ·rename_i hz
     cases h
     have hp:(fieldPlace ⟨b,o,none⟩ f).run P w=.ok ⟨b,o+f.offset,none⟩ w:=by
      simp [fieldPlace,sizeOf,typeInfo,hi,hz,Addr.add]
     simp [Instr.fieldAt,run_underlying hu,hf,Instr.sureAddr,hp]
   · cases h
  · cases h
 · cases h
theorem Q3f {P:Program} {t sz:Nat} (h:Q1m P t=some sz)(w:World):(sizeOf t).run P w=.ok sz w:=by
 unfold Q1m at h
 cases hi:P.info? t with
 | none=>simp [hi] at h
 | some i=>simp [hi] at h;simp [sizeOf,typeInfo,hi,h]
theorem tAgg_run {P:Program} {t:Nat} {b:Bool} (h:Q58 P t=some b)(w:World):(isAgg t).run P w=.ok b w:=by
 unfold Q58 at h
 split at h <;> rename_i hu <;> cases h
 · simp [isAgg,run_underlying hu]
 · simp [isAgg,run_underlying hu]
 · simp only [isAgg,Sem.run_bind,run_underlying hu,Result.andThen_ok];rfl
theorem Q1A {P:Program} {t e:Nat} (h:Q2d P t=some e):P.underlying t=some (.slice e):=by
 unfold Q2d at h
 split at h
 · rename_i hu;cases h;exact hu
 · cases h
theorem Q9E {P:Program} {t:Nat} {z:Value} (h:Q4P P t=some z)(w:World):(zeroValue t).run P w=.ok z w:=by
 unfold Q4P at h
 cases hi:P.info? t with
 | none=>simp [hi] at h
 | some i=>simp [hi] at h;simp [zeroValue,typeInfo,hi,h]
def binI (op:BinOp)(k:IntKind)(a b:Int):Option Value:=match op with
 | .add=>some (.int k (k.wrap (a+b)))
 | .sub=>some (.int k (k.wrap (a - b)))
 | .mul=>some (.int k (k.wrap (a * b)))
 | .eql=>some (.bool (a==b))
 | .neq=>some (.bool (a !=b))
 | .lss=>some (.bool (decide (a < b)))
 | .leq=>some (.bool (decide (a≤b)))
 | .gtr=>some (.bool (decide (a > b)))
 | .geq=>some (.bool (decide (a ≥ b)))
 | _=>none
def ikEq:IntKind→IntKind→Bool
 | .i8,.i8 | .i16,.i16 | .i32,.i32 | .i64,.i64 | .u8,.u8 | .u16,.u16 | .u32,.u32 | .u64,.u64=>true
 | _,_=>false
theorem ikEq_eq {a b:IntKind} (h:ikEq a b=true):a=b:=by cases a <;> cases b <;> first | rfl | cases h
def binV (op:BinOp):Option Value→Option Value→Option Value
 | some (.int k a),some (.int k' b)=>match ikEq k k' with
   | true=>binI op k a b
   | false=>none
 | some (.string a),some (.string b)=>match op with
   | .eql=>some (.bool (a.toList==b.toList))
   | .neq=>some (.bool (!(a.toList==b.toList)))
   | .add=>none
   | _=>none
 | _,_=>none
def Q8T (S:List (Nat×Value)):Op→Option Value
 | .move x=>evS S x
 | .assign x=>evS S x
 | .pick c a b=>match evS S c with
   | some (.bool true)=>evS S a
   | some (.bool false)=>evS S b
   | _=>none
 | .binOp op _ x y _=>binV op (evS S x) (evS S y)
 | .unOp .not _ x=>match evS S x with
   | some (.bool b)=>some (.bool (!b))
   | _=>none
 | .extract x i=>match evS S x with
   | some (.tuple vs)=>vs[i]?
   | _=>none
 | .nilCheck x=>match evS S x with
   | some (.pointer (some a))=>some (.pointer (some a))
   | _=>none
 | _=>none
theorem binI_run {P:Program} {op:BinOp} {k:IntKind} {a b:Int} {v:Value} {t:TypeId} (h:binI op k a b=some v)(w:World):(binOp op t (.int k a) (.int k b)).run P w=.ok v w:=by
 cases op <;> simp only [binI,Option.some.injEq] at h <;> first | (cases h;done) | (subst h;simp [binOp,Op.intArith,Op.intCmp])
theorem pureOp_run {P:Program} {n:FD} {S:List (Nat×Value)} {a:Act} {o:Oper} {v:Value} (hf:Frm n S a)(h:Q8T S o.op=some v)(w:World):(execOp a.eval o).run P w=.ok (.value v) w:=by
 unfold Q8T at h
 unfold execOp
 split at h
 · rename_i x ho;simp [ho,hf.eval h]
 · rename_i x ho;simp [ho,hf.eval h]
 ·rename_i c x y ho
  split at h
  · rename_i hc;simp [ho,hf.eval hc,hf.eval h,asBool]
  · rename_i hc;simp [ho,hf.eval hc,hf.eval h,asBool]
  · cases h
 ·rename_i op t x y u ho
  unfold binV at h
  split at h
  ·rename_i k a' k' b' hx hy
   split at h
   ·rename_i hk
    obtain rfl:=ikEq_eq hk
    simp only [ho,hf.eval hx,hf.eval hy]
    have:=binI_run (P:=P) (t:=t) h w
    simp [eqGuard,this]
   · cases h
  ·rename_i a' b' hx hy
   simp only [ho,hf.eval hx,hf.eval hy]
   cases op <;> simp only [Option.some.injEq] at h <;> first | (cases h;done) | (subst h;simp [eqGuard,binOp,Op.stringOp])
  · cases h
 ·rename_i t x ho
  split at h
  · rename_i b hx;cases h;simp [ho,hf.eval hx,Op.unary]
  · cases h
 ·rename_i x i ho
  split at h
  · rename_i vs hx;simp [ho,hf.eval hx,Instr.extract,h]
  · cases h
 ·rename_i x ho
  split at h
  · rename_i b hx;cases h;simp [ho,hf.eval hx]
  · cases h
 · cases h
section rules
variable {P:Program} {C:Ctx} {n:FD} {Q:Exit → Act → World → Prop} {Φ Φ' : List Fact} {H H' : List Fact} {S S' : List (Nat × Value)} {ops:Array Oper} {rest:List Oper} {o:Oper} {d:Nat}
theorem Qx {v:Value} (hg:Q18 ops S o=some true)(hd:o.dst=some d)(hn:Nat.blt d n=true)(hS:Q4p d S=S')(hv:Q8T S o.op=some v)(next:WL P C n Q Φ H ((d,v) :: S') ops rest):WL P C n Q Φ H S ops (o :: rest) :=
 Qc5 hg hd hn hS (fun _ w hf _=>pureOp_run hf hv w) next
theorem wl_len {t:TypeId} {x:Operand} {p:Option Addr} {k c e:Nat} (hg:Q18 ops S o=some true)(hd:o.dst=some d)(hn:Nat.blt d n=true)(hS:Q4p d S=S')(ho:o.op=.call { callee:=.builtin .len,args:=#[x],argTypes:=#[t] })
  (hx:evS S x=some (.slice p k c)) (ht:Q2d P t=some e) (next:WL P C n Q Φ H ((d,.int .i64 (k:Int)) :: S') ops rest):WL P C n Q Φ H S ops (o :: rest) :=
 Qc5 hg hd hn hS (fun a w hf _=>by simp [execOp,ho,resolve,invoke,builtin,Builtin.len_,hf.eval hx,run_underlying (Q1A ht),goInt]) next
theorem wl_fieldAddr {t k off b q:Nat} {x:Operand} (hg:Q18 ops S o=some true)(hd:o.dst=some d)(hn:Nat.blt d n=true)(hS:Q4p d S=S')(ho:o.op=.fieldAddr t x k)(hx:evS S x=some (.pointer (some ⟨b,q,none⟩)))
  (hk:Q1H P t k=some off) (next:WL P C n Q Φ H ((d,.pointer (some ⟨b,q+off,none⟩)) :: S') ops rest):WL P C n Q Φ H S ops (o :: rest) :=
 Qc5 hg hd hn hS (fun a w hf _=>by simp [execOp,ho,hf.eval hx,fldOff_run hk]) next
theorem wl_as {v v' : Value} (hx:look S d=some v)(hS:Q4p d S=S')(e:v=v')(next:WL P C n Q Φ H ((d,v') :: S') ops rest):WL P C n Q Φ H S ops rest:=by
 subst e;subst hS
 exact fun a w hf hw=>next a w (hf.sub fun x hx'=>by
  rcases List.mem_cons.1 hx' with rfl | hx'
  · exact QbB hx
  · exact (QcY hx').1) hw
theorem Q1f {φ:Fact} {k:Nat} (h : Φ[k]? =some φ) : φ∈Φ:=List.mem_of_getElem? h
def Q8V (agg:Bool)(cs:List Value):Option Value:=match agg,cs with
 | true,cs=>some (.agg cs.toArray)
 | false,[c]=>some c
 | false,_=>none
theorem Q6l {b q sz:Nat} {t:TypeId} {g:Bool} {cs:List Value} {v:Value} {w:World} (hc:Q3D w b q cs)(hs:Q1m P t=some sz)(ha:Q58 P t=some g)(hl:cs.length=sz)(hv:Q8V g cs=some v) :
  (loadVar t ⟨b,q,none⟩).run P w=.ok v w:=by
 unfold loadVar
 simp only [Sem.run_bind,tAgg_run ha,Result.andThen_ok]
 unfold Q8V at hv
 split at hv
 ·cases hv
  have h1:(loadCells ⟨b,q,none⟩ cs.length).run P w=.ok cs.toArray w :=
   run_loadCells_list (P:=P) w ⟨b,q,none⟩ cs (fun j v hv=>by rw [Q4R];exact hc j v hv)
  rw [hl] at h1
  simp [Q3f hs,h1]
 ·cases hv
  have:=hc 0 v rfl
  simp at this
  simp [load,Sem.run,this]
 · cases hv
theorem wl_load_by {t sz b q:Nat} {x:Operand} {g:Bool} {cs:List Value} {v:Value} (hg:Q18 ops S o=some true)(hd:o.dst=some d)(hn:Nat.blt d n=true)(hS:Q4p d S=S')(ho:o.op=.load t x)(hx:evS S x=some (.pointer (some ⟨b,q,none⟩)))
  (hc : ∀ w,QC C Φ H w→Q3D w b q cs) (hs:Q1m P t=some sz) (ha:Q58 P t=some g) (hl:cs.length=sz) (hv:Q8V g cs=some v) (next:WL P C n Q Φ H ((d,v) :: S') ops rest):WL P C n Q Φ H S ops (o :: rest) :=
 Qc5 hg hd hn hS (fun a w hf hw=>by simp [execOp,ho,hf.eval hx,Instr.loadAt,Instr.sureAddr,Q6l (hc w hw) hs ha hl hv]) next
theorem wl_load {t sz b q:Nat} {x:Operand} {g:Bool} {all cs:List Value} {v:Value} (k j:Nat)(hg:Q18 ops S o=some true)(hd:o.dst=some d)(hn:Nat.blt d n=true)(hS:Q4p d S=S')(ho:o.op=.load t x)
  (hφ : Φ[k]? =some (.cells b q all)) (hx:evS S x=some (.pointer (some ⟨b,q+j,none⟩))) (hcs:(all.drop j).take sz=cs)
  (hs:Q1m P t=some sz) (ha:Q58 P t=some g) (hl:cs.length=sz) (hv:Q8V g cs=some v) (next:WL P C n Q Φ H ((d,v) :: S') ops rest):WL P C n Q Φ H S ops (o :: rest) :=
 wl_load_by hg hd hn hS ho hx (fun w ⟨F,N,hi⟩ i u hu=>by
  have:=(hi.facts _ (Q1f hφ)).2 (j+i) u (by rw [← hcs,List.getElem?_take] at hu;split at hu <;> first | (rw [List.getElem?_drop] at hu;exact hu) | cases hu)
  rwa [← Nat.add_assoc] at this) hs ha hl hv next
theorem Qbr {w:World} {g t:Nat} {all:List Value} (h:w.heap[g]? =some (.cells all.toArray t)):Q3D w g 0 all:=fun i u hu=>by
 rw [Nat.zero_add,cell_of_row w g i _ t (0,0) h];simpa using hu
theorem wl_loadH {t sz b tb:Nat} {x:Operand} {g:Bool} {all cs:List Value} {v:Value} (k j:Nat)(hg:Q18 ops S o=some true)(hd:o.dst=some d)(hn:Nat.blt d n=true)(hS:Q4p d S=S')(ho:o.op=.load t x)
  (hφ:H[k]? =some (.blk b all tb)) (hx:evS S x=some (.pointer (some ⟨b,j,none⟩))) (hcs:(all.drop j).take sz=cs)
  (hs:Q1m P t=some sz) (ha:Q58 P t=some g) (hl:cs.length=sz) (hv:Q8V g cs=some v) (next:WL P C n Q Φ H ((d,v) :: S') ops rest):WL P C n Q Φ H S ops (o :: rest) :=
 wl_load_by hg hd hn hS ho hx (fun w ⟨F,N,hi⟩ i u hu=>by
  have:=Qbr (hi.owns k _ hφ).2 (j+i) u (by rw [← hcs,List.getElem?_take] at hu;split at hu <;> first | (rw [List.getElem?_drop] at hu;exact hu) | cases hu)
  rwa [Nat.zero_add] at this) hs ha hl hv next
end rules
def consN (M:Q1O)(N:Nat→Q1O):Nat→Q1O
 | 0=>M
 | i+1=>N i
section mem
variable {C:Ctx} {Φ H H' : List Fact} {F:Q1O} {N:Nat → Q1O} {w w' : World}
theorem MInv.grow (h:MInv C Φ H F N w)(hb:Below w.heap.size w w'):MInv C Φ H F N w' :=
 ⟨fun k hk=>Nat.lt_of_lt_of_le (h.flt k hk) hb.size,h.fold,h.fnew,fun φ hφ=>φ.good (fun _ h=>h) (fun k hk=>hb.block k (h.flt k hk)) (h.facts φ hφ),
  fun i φ hi=>φ.opgood (fun _ h=>h) (fun k hk=>hb.block k (h.nlt i k (List.getElem?_eq_some_iff.1 hi).1 hk).1) (fun _ h=>h) (fun k hk=>hb.block k (h.flt k hk)) (h.owns i φ hi),
  fun i k hi hk=>⟨Nat.lt_of_lt_of_le (h.nlt i k hi hk).1 hb.size,(h.nlt i k hi hk).2⟩,h.apart,h.mod.trans' (T:=fun _=>False) (Mod.of_below hb) (fun _ _ h=>h.elim)⟩
theorem MInv.push (h:MInv C Φ H F N w)(φ:Fact)(M:Q1O)(hop : φ.op M F w)(hM : ∀ k,M k→k < w.heap.size∧(C.w0.heap.size≤k∨C.S0 k)∧¬ F k)(hd : ∀ i k,i < H.length→M k→¬ N i k):MInv C Φ (φ :: H) F (consN M N) w:=by
 refine { h with owns:=?_,nlt:=?_,apart:=?_ }
 ·intro i ψ hi
  cases i with
  | zero=>cases hi;exact hop
  | succ i=>exact h.owns i ψ hi
 ·intro i k hi hk
  cases i with
  | zero=>exact hM k hk
  | succ i=>exact h.nlt i k (by simpa using hi) hk
 ·intro i j k hi hj hne hk hk'
  cases i with
  | zero=>cases j with
    | zero=>exact hne rfl
    | succ j=>exact hd j k (by simpa using hj) hk hk'
  | succ i=>cases j with
    | zero=>exact hd i k (by simpa using hi) hk' hk
    | succ j=>exact h.apart i j k (by simpa using hi) (by simpa using hj) (by omega) hk hk'
theorem MInv.set (h:MInv C Φ H F N w)(k:Nat)(hk:k < H.length)(hm:Mod (N k) w w')(φ:Fact)(hop : φ.op (N k) F w'):MInv C Φ (H.set k φ) F N w':=by
 have hF:Q2W F w w':=fun j hj=>hm.block j (h.flt j hj) (fun hn=>(h.nlt k j hk hn).2.2 hj)
 refine ⟨fun j hj=>Nat.lt_of_lt_of_le (h.flt j hj) hm.size,h.fold,h.fnew,fun ψ hψ=>ψ.good (fun _ h=>h) hF (h.facts ψ hψ),?_,?_,?_,?_⟩
 ·intro i ψ hi
  by_cases hik:i=k
  ·subst hik
   rw [List.getElem?_set_self hk] at hi
   cases hi;exact hop
  ·rw [List.getElem?_set_ne (Ne.symm hik)] at hi
   have hi':=(List.getElem?_eq_some_iff.1 hi).1
   exact ψ.opgood (fun _ h=>h) (fun j hj=>hm.block j (h.nlt i j hi' hj).1 (fun hn=>h.apart i k j hi' hk hik hj hn)) (fun _ h=>h) hF (h.owns i ψ hi)
 ·intro i j hi hj
  rw [List.length_set] at hi
  exact ⟨Nat.lt_of_lt_of_le (h.nlt i j hi hj).1 hm.size,(h.nlt i j hi hj).2⟩
 ·intro i j q hi hj
  rw [List.length_set] at hi hj
  exact h.apart i j q hi hj
 · exact h.mod.trans' (T:=N k) hm (fun i hi hn=>by
   rcases (h.nlt k i hk hn).2.1 with h1 | h1
   · omega
   · exact h1)
theorem QC.alloc (h:QC C Φ H w)(cs:Array Value)(t:TypeId):QC C Φ (.blk w.heap.size cs.toList t :: H) (w.alloc (.cells cs t)):=by
 obtain ⟨F,N,hi⟩:=h
 have hb:Below w.heap.size w (w.alloc (.cells cs t)):=(Below.refl _ _).alloc (Nat.le_refl _) _
 refine ⟨F,consN (fun k=>k=w.heap.size) N,(hi.grow hb).push _ _ ⟨rfl,by simpa using heap_alloc_new w (.cells cs t)⟩ ?_ ?_⟩
 ·rintro k rfl
  exact ⟨by simp,.inl hi.mod.size,fun hf=>Nat.lt_irrefl _ (hi.flt _ hf)⟩
 ·rintro i k hl rfl hn
  exact Nat.lt_irrefl _ (hi.nlt i _ hl hn).1
theorem QC.freeze (h:QC C Φ H w)(k:Nat) {φ:Fact} (hk:H[k]? =some φ)(hE:H.eraseIdx k=H'):QC C (φ :: Φ) H' w:=by
 obtain ⟨F,N,hi⟩:=h
 have hlt:=(List.getElem?_eq_some_iff.1 hk).1
 subst hE
 have hsub : ∀ j,F j→(F j∨N k j):=fun _ h=>.inl h
 have hlen:(H.eraseIdx k).length=H.length - 1:=List.length_eraseIdx_of_lt hlt
 refine ⟨fun j=>F j∨N k j,fun i=>N (if i < k then i else i+1),?_,fun j hj=>.inl (hi.fold j hj),?_,?_,?_,?_,?_,hi.mod⟩
 ·rintro j (hj | hj)
  · exact hi.flt j hj
  · exact (hi.nlt k j hlt hj).1
 ·rintro j (hj | hj)
  · exact hi.fnew j hj
  · exact .inr (hi.nlt k j hlt hj).2.1
 ·intro ψ hψ
  rcases List.mem_cons.1 hψ with rfl | hψ
  · exact ψ.opgood (fun _ h=>.inr h) (Q2W.refl _ _) (fun _ h=>.inl h) (Q2W.refl _ _) (hi.owns k ψ hk)
  · exact ψ.good hsub (Q2W.refl _ _) (hi.facts ψ hψ)
 ·intro i ψ hψ
  rw [List.getElem?_eraseIdx] at hψ
  refine ψ.opgood (fun _ h=>h) (Q2W.refl _ _) hsub (Q2W.refl _ _) ?_
  split at hψ <;> rename_i hik
  · rw [if_pos hik];exact hi.owns i ψ hψ
  · rw [if_neg hik];exact hi.owns (i+1) ψ hψ
 ·intro i j hl hj
  rw [hlen] at hl
  have h1:(if i < k then i else i+1) < H.length:=by split <;> omega
  refine ⟨(hi.nlt _ j h1 hj).1,(hi.nlt _ j h1 hj).2.1,?_⟩
  rintro (hf | hf)
  · exact (hi.nlt _ j h1 hj).2.2 hf
  · exact hi.apart _ k j h1 hlt (by split <;> omega) hj hf
 ·intro i j q hl hl' hne
  rw [hlen] at hl hl'
  exact hi.apart _ _ q (by split <;> omega) (by split <;> omega) (by split <;> split <;> omega)
theorem QC.drop (h:QC C Φ H w)(k:Nat)(hk:k < H.length)(hE:H.eraseIdx k=H'):QC C Φ H' w :=
 (h.freeze k (List.getElem?_eq_getElem hk) hE).sub fun φ hφ=>List.mem_cons_of_mem _ hφ
end mem
section rules2
variable {P:Program} {C:Ctx} {n:FD} {Q:Exit → Act → World → Prop} {Φ Φ' : List Fact} {H H' : List Fact} {S S' : List (Nat × Value)} {ops:Array Oper} {rest:List Oper} {o:Oper} {d:Nat}
theorem Q6p (k:Nat) {φ:Fact} (hk:H[k]? =some φ)(hE:H.eraseIdx k=H')(h:WL P C n Q (φ :: Φ) H' S ops rest):WL P C n Q Φ H S ops rest:=fun a w hf hw=>h a w hf (hw.freeze k hk hE)
theorem wc_freeze {c:Code} (k:Nat) {φ:Fact} (hk:H[k]? =some φ)(hE:H.eraseIdx k=H')(h:WC P C n Q (φ :: Φ) H' S c):WC P C n Q Φ H S c:=fun a w hf hw=>h a w hf (hw.freeze k hk hE)
theorem Q4K (k:Nat)(hk:Nat.blt k H.length=true)(hE:H.eraseIdx k=H')(h:WL P C n Q Φ H' S ops rest):WL P C n Q Φ H S ops rest:=fun a w hf hw=>h a w hf (hw.drop k (Nat.le_of_ble_eq_true hk) hE)
theorem Qam {P:Program} (w:World)(e:TypeId)(cs:Array Value):(newRow e cs).run P w=.ok ⟨w.heap.size,0,none⟩ (w.alloc (.cells cs e)):=by simp [newRow,newObj];rfl
theorem QH {t:Nat} {z:Value} {zs:List Value} (hg:Q18 ops S o=some true)(hd:o.dst=some d)(hn:Nat.blt d n=true)(hS:Q4p d S=S')(ho:o.op=.alloc t)(hz:Q4P P t=some z)(hzs:z.cells.toList=zs)
  (next : ∀ g,WL P C n Q Φ (.blk g zs t :: H) ((d,.pointer (some ⟨g,0,none⟩)) :: S') ops rest):WL P C n Q Φ H S ops (o :: rest) :=
 Qaq hg hd hn hS fun a w hf hw=>⟨_,_,by simp [execOp,ho,Instr.alloc,Q9E hz,newVar,Qam];exact ⟨rfl,rfl⟩,_,_,hw.alloc _ _,by rw [hzs];exact next _⟩
theorem wl_box {t:Nat} {x:Operand} {v:Value} {zs:List Value} (hg:Q18 ops S o=some true)(hd:o.dst=some d)(hn:Nat.blt d n=true)(hS:Q4p d S=S')(ho:o.op=.box t x)(hx:evS S x=some v)(hzs:v.cells.toList=zs)
  (next : ∀ g,WL P C n Q Φ (.blk g zs t :: H) ((d,.pointer (some ⟨g,0,none⟩)) :: S') ops rest):WL P C n Q Φ H S ops (o :: rest) :=
 Qaq hg hd hn hS fun a w hf hw=>⟨_,_,by simp [execOp,ho,Instr.box,hf.eval hx,newVar,Qam];exact ⟨rfl,rfl⟩,_,_,hw.alloc _ _,by rw [hzs];exact next _⟩
def putL (all:List Value)(j:Nat)(cs:List Value):List Value:=all.take j++cs++all.drop (j+cs.length)
theorem Qcv (all:List Value)(j:Nat)(cs:List Value)(h:j+cs.length≤all.length):QaQ all j cs=putL all j cs:=Qd5 cs all j h
theorem Qdv {t g:Nat} : ∀ (cs all:List Value)(j:Nat)(w:World),w.heap[g]? =some (.cells all.toArray t)→(Q6D w g j cs).heap[g]? =some (.cells (QaQ all j cs).toArray t)
 | [],all,j,w,h=>h
 | c :: cs,all,j,w,h=>by
   refine Qdv cs (all.set j c) (j+1) _ ?_
   have:=heap_setCell_same w g j _ t c h
   simpa using this
theorem Qdw (g : Nat) : ∀ (cs : List Value)(j : Nat)(w : World),Mod (fun k=> k=g) w (Q6D w g j cs)
 | [],_,w=>Mod.refl _ _
 | c :: cs,j,w=>(Mod.setCell (S:=fun k=>k=g) (Mod.refl _ w) (p:=⟨g,j,none⟩) (fun _=>rfl) c).trans (Qdw g cs (j+1) _)
theorem Q5H {P:Program} {t g:Nat} : ∀ (cs all:List Value)(q j:Nat)(w:World),w.heap[g]? =some (.cells all.toArray t)→q+j+cs.length≤all.length→(∀ u∈cs,u.oneCell' =true)→
   (storeCells ⟨g,q,none⟩ cs j).run P w=.ok () (Q6D w g (q+j) cs)
 | [],all,q,j,w,h,_,_=>rfl
 | c :: cs,all,q,j,w,h,hl,h1=>by
   have hc:w.cell? ⟨g,q+j,none⟩=some (all[q+j]'(by simp at hl;omega)):=by
    rw [cell_of_row w g _ _ t (0,0) h];simp
   have hfz:w.frozen? ⟨g,q+j,none⟩=false:=frozen_of_row w g (q+j) _ t h
   have hone:=h1 c (by simp)
   have hst:(store ⟨g,q+j,none⟩ c).run P w=.ok () (w.setCell ⟨g,q+j,none⟩ c):=by
    unfold store
    cases c <;> first | (simp [Value.oneCell'] at hone;done) | simp [Sem.run,hc,hfz]
   unfold storeCells
   rw [Q4R]
   simp only [Sem.run_bind,hst,Result.andThen_ok]
   have h2:(w.setCell ⟨g,q+j,none⟩ c).heap[g]? =some (.cells (all.set (q+j) c).toArray t):=by
    have:=heap_setCell_same w g (q+j) _ t c h
    simpa using this
   have:=Q5H (P:=P) cs (all.set (q+j) c) q (j+1) _ h2 (by simp at hl ⊢;omega) (fun u hu=>h1 u (by simp [hu]))
   rw [this];rfl
theorem wl_do (hg:Q18 ops S o=some true)(hd:o.dst=none)(run : ∀ a w,Frm n S a→QC C Φ H w→∃ w',(execOp a.eval o).run P w=.ok .skip w' ∧QC C Φ' H' w')(next:WL P C n Q Φ' H' S ops rest):WL P C n Q Φ H S ops (o :: rest):=by
 intro a w hf hw
 obtain ⟨w',hr,h1⟩:=run a w hf hw
 refine wpList_step fun K hK=>?_
 rw [Q5J hf hg,if_pos rfl]
 unfold Oper.wp
 rw [hr,Oper.upon_skip,hd]
 exact hK _ _ (next _ _ hf h1)
theorem QC.store {w:World} (hw:QC C Φ H w) {k g t:Nat} {all cs all' : List Value} (j:Nat)(hk:H[k]? =some (.blk g all t))(hl:j+cs.length≤all.length)(ha:putL all j cs=all')(hH:H.set k (.blk g all' t)=H'):QC C Φ H' (Q6D w g j cs):=by
 obtain ⟨F,N,hi⟩:=hw
 have hlt:=(List.getElem?_eq_some_iff.1 hk).1
 have hop:=hi.owns k _ hk
 subst hH
 exact ⟨F,N,hi.set k hlt ((Qdw g cs j w).mono fun i _ e=>by subst e;exact hop.1) _ ⟨hop.1,by rw [← ha,← Qcv _ _ _ hl];exact Qdv cs all j w hop.2⟩⟩
theorem wl_store {t sz b tb:Nat} {x y:Operand} {all cs all' : List Value} {v:Value} (k j:Nat)(hg:Q18 ops S o=some true)(hd:o.dst=none)(ho:o.op=.store t x y)
  (hφ:H[k]? =some (.blk b all tb)) (hx:evS S x=some (.pointer (some ⟨b,j,none⟩))) (hy:evS S y=some v) (hv:v.cells.toList=cs) (hs:Q1m P t=some sz) (hl:Nat.beq cs.length sz=true) (h1:cs.all (·.oneCell')=true)
  (hle:Nat.ble (j+sz) all.length=true) (ha:putL all j cs=all') (hH:H.set k (.blk b all' tb)=H') (next:WL P C n Q Φ H' S ops rest):WL P C n Q Φ H S ops (o :: rest):=by
 have hl':=Nat.eq_of_beq_eq_true hl
 have hle':=Nat.le_of_ble_eq_true hle
 refine wl_do hg hd (fun a w hf hw=>⟨_,?_,hw.store j hφ (by omega) ha hH⟩) next
 obtain ⟨F,N,hi⟩:=hw
 have hop:=hi.owns k _ hφ
 have:=Q5H (P:=P) cs all j 0 w hop.2 (by omega) (fun u hu=>List.all_eq_true.1 h1 u hu)
 have hsz:v.cells.size=sz:=by rw [← hl',← hv];simp
 simp only [execOp,ho,hf.eval hx,hf.eval hy,Instr.storeAt,Instr.sureAddr,storeVar,Sem.run_bind,Sem.run_pure,Result.andThen_ok,Q3f hs,hsz,hv]
 simp [this]
end rules2
end Go.Proofs.YtbgodclhmgmcgaaGreatDoor
