import Derived.Test.YtgangmegcejllaaGreatDoorTypes
import Derived.Test.YtgangmegcejllaaGreatDoorStr
import Derived.Test.YtgangmegcejllaaGreatDoorAuto
import Derived.Test.YtgangmegcejllaaGreatDoorTree
import Derived.Test.YtgangmegcejllaaGreatDoorLight
namespace Go.Proofs.YtgangmegcejllaaGreatDoor
theorem tI_3:tInt Tryz.prog 3 = some .i64:=by kernel_rfl
theorem tI_5:tInt Tryz.prog 5 = some .u8:=by kernel_rfl
theorem Q2t:tStr Tryz.prog 9 = true:=by kernel_rfl
theorem tQ_30:tPtr Tryz.prog 30 = some 66:=by kernel_rfl
theorem tI_157:tInt Tryz.prog 157 = some .u64:=by kernel_rfl
theorem tI_163:tInt Tryz.prog 163 = some .u64:=by kernel_rfl
theorem tI_305:tInt Tryz.prog 305 = some .u64:=by kernel_rfl
end Go.Proofs.YtgangmegcejllaaGreatDoor
namespace Go.Proofs.YtgangmegcejllaaGreatDoor
open Go.RowKit
section
variable {P:Program} {C:Ctx} {n:Nat} {Q:Exit → Act → World → Prop} {Φ Φ' : List Fact} {H H' : List Fact} {S S' : List (Nat × Value)} {ops:Array Oper} {rest:List Oper} {o:Oper} {d:Nat}
theorem dyn_runF {f:FuncId} {y:Operand} {xs:Array Operand} {ts:Array TypeId} {args0 args:List Value} {fst caps:Array Value} (ho:o.op = .call { callee:=.value y,args:=xs,argTypes:=ts }) (hy:evS S y = some (.func (.func f) fst caps)) (hx:evL S xs.toList = some args0)
  (hfn:Q20 P f = true) (ha:fst.toList ++ args0 ++ caps.toList = args) : ∀ a w,Frm n S a → (execOp a.eval o).run P w = .ok (.enter f args.toArray) w:=by
 intro a w hf
 have hargs:xs.map a.eval = args0.toArray:=by
  have:=hf.evalL hx
  have h0:xs = xs.toList.toArray:=by simp
  rw [← this,h0,List.map_toArray]
 have h2:(resolve a.eval { callee:=.value y,args:=xs,argTypes:=ts } o.type).run P w = .ok { target:=.fn (.func f) caps,args:=fst ++ args0.toArray } w:=by
  simp [resolve,hf.eval hy,Deferred.ofValue,hargs]
 have h3:fst ++ args0.toArray ++ caps = args.toArray:=by rw [← ha]; simp
 unfold execOp
 simp only [ho,Sem.run_bind,h2,Result.andThen_ok]
 simp only [invoke,isFn_run hfn,h3]
theorem Q26 {f:FuncId} {y:Operand} {xs:Array Operand} {ts:Array TypeId} {args0 args:List Value} {fst caps:Array Value} {Φf Hf:List Fact} {R:Value → List Fact → List Fact → Prop} (l m:List Nat) (hg:Q1J ops S o = some true) (hd:o.dst = some d) (hn:Nat.blt d n = true) (hS:Q3b d S = S')
  (ho:o.op = .call { callee:=.value y,args:=xs,argTypes:=ts }) (hy:evS S y = some (.func (.func f) fst caps)) (hx:evL S xs.toList = some args0) (hfn:Q20 P f = true) (ha:fst.toList ++ args0 ++ caps.toList = args)
  (hH:Q2i H l = Hf) (spec:Q1R P f args Φf Hf R) (hΦ : ∀ F w,(∀ ψ ∈ Φ,ψ.p F w) → ∀ φ ∈ Φf,φ.p F w) (hl:Q4O (l ++ m) H.length = true) (hm:Q2i H m = H')
  (next : ∀ v Φr Hr,R v Φr Hr → WL P C n Q (Φr ++ Φ) (Hr ++ H') ((d,v) :: S') ops rest):WL P C n Q Φ H S ops (o :: rest) :=
 call_any l m hg (dyn_runF ho hy hx hfn ha) hH spec hΦ hl hm fun v Φr Hr hR a w hf hw=>by rw [hd]; exact next v Φr Hr hR _ w (hf.put (Nat.le_of_ble_eq_true hn) hS) hw
theorem Q6M {f:FuncId} {ys xs:Array Operand} {fst caps:List Value} (hg:Q1J ops S o = some true) (hd:o.dst = some d) (hn:Nat.blt d n = true) (hS:Q3b d S = S') (ho:o.op = .makeFunc (.func f) ys xs) (hy:evL S ys.toList = some fst) (hx:evL S xs.toList = some caps)
  (next:WL P C n Q Φ H ((d,.func (.func f) fst.toArray caps.toArray) :: S') ops rest):WL P C n Q Φ H S ops (o :: rest) :=
 Q7S hg hd hn hS (fun a w hf _=>by
  have hargs : ∀ {zs:Array Operand} {cs:List Value},evL S zs.toList = some cs → zs.map a.eval = cs.toArray:=by
   intro zs cs hz
   have:=hf.evalL hz
   have h0:zs = zs.toList.toArray:=by simp
   rw [← this,h0,List.map_toArray]
  simp [execOp,ho,Instr.makeFunc,hargs hx,hargs hy]) next
theorem wl_nn {α:Type} {e sz:Nat} {R:Rep α} {p:Option Addr} {m c:Nat} {l:List α} (k:Nat) (hk:H[k]? = some (.own e sz R (.slice p m c) l)) (hl : 0 < l.length) (next : ∀ u,p = some u → WL P C n Q Φ H S ops rest):WL P C n Q Φ H S ops rest:=by
 intro a w hf ⟨F,N,hi⟩
 obtain ⟨xs,ho,_⟩:=(hi.owns k _ hk).2
 rcases ho.2 with ⟨_,h1⟩ | ⟨g,cap,cur,hv,_⟩
 · omega
 · cases hv; exact next _ rfl a w hf ⟨F,N,hi⟩
end
end Go.Proofs.YtgangmegcejllaaGreatDoor
namespace Go.Proofs.YtgangmegcejllaaGreatDoor
open Go Go.RowKit
theorem asK {Φ Φ' : List Fact} (l:List Nat) (h:Q2i Φ l = Φ') (F:Q2O) (w:World) (hΦ : ∀ ψ ∈ Φ,ψ.p F w) : ∀ φ ∈ Φ',φ.p F w:=ask l h hΦ
def newS (d:Nat) (S:List (Nat × Value)):Bool:=S.all fun x=>!(Nat.beq x.1 d)
section
variable {P:Program} {C:Ctx} {n:Nat} {Q:Exit → Act → World → Prop} {Φ Φ' : List Fact} {H H' : List Fact} {S S' : List (Nat × Value)} {ops:Array Oper} {rest:List Oper} {o:Oper} {d:Nat}
private theorem p2.{u,v} {α:Type u} {β:Type v} {a a' : α} {b b' : β} (h:(a,b) = (a',b')):a = a' ∧ b = b':=by cases h; exact ⟨rfl,rfl⟩
theorem wP {v:Value} (h:(Q1J ops S o,o.dst,Nat.blt d n,newS d S,pureOp S o.op) = (some true,some d,true,true,some v)) (next:WL P C n Q Φ H ((d,v) :: S) ops rest):WL P C n Q Φ H S ops (o :: rest):=by
 obtain ⟨h1,h⟩:=p2 h; obtain ⟨h2,h⟩:=p2 h; obtain ⟨h3,h⟩:=p2 h; obtain ⟨h4,h5⟩:=p2 h
 exact QI h1 h2 h3 (Q0 h4) h5 next
theorem wO (h:(Q1J ops S o,o.dst,Nat.blt d n,newS d S) = (some false,some d,true,true)) (next:WL P C n Q Φ H ((d,undef) :: S) ops rest):WL P C n Q Φ H S ops (o :: rest):=by
 obtain ⟨h1,h⟩:=p2 h; obtain ⟨h2,h⟩:=p2 h; obtain ⟨h3,h4⟩:=p2 h
 exact wl_off h1 h2 h3 (Q0 h4) next
theorem wF {t k off b q:Nat} {x:Operand} (h:(Q1J ops S o,o.dst,Nat.blt d n,newS d S,o.op,evS S x) = (some true,some d,true,true,.fieldAddr t x k,some (.pointer (some ⟨b,q,none⟩))))
  (hk:Q2l P t k = some off) (next:WL P C n Q Φ H ((d,.pointer (some ⟨b,q + off,none⟩)) :: S) ops rest):WL P C n Q Φ H S ops (o :: rest):=by
 obtain ⟨h1,h⟩:=p2 h; obtain ⟨h2,h⟩:=p2 h; obtain ⟨h3,h⟩:=p2 h; obtain ⟨h4,h⟩:=p2 h; obtain ⟨h5,h6⟩:=p2 h
 exact wl_fieldAddr h1 h2 h3 (Q0 h4) h5 h6 hk next
theorem wN {t:TypeId} {x:Operand} {p:Option Addr} {k c e:Nat} (h:(Q1J ops S o,o.dst,Nat.blt d n,newS d S,o.op,evS S x) = (some true,some d,true,true,.call { callee:=.builtin .len,args:=#[x],argTypes:=#[t] },some (.slice p k c)))
  (ht:Q3A P t = some e) (next:WL P C n Q Φ H ((d,.int .i64 (k:Int)) :: S) ops rest):WL P C n Q Φ H S ops (o :: rest):=by
 obtain ⟨h1,h⟩:=p2 h; obtain ⟨h2,h⟩:=p2 h; obtain ⟨h3,h⟩:=p2 h; obtain ⟨h4,h⟩:=p2 h; obtain ⟨h5,h6⟩:=p2 h
 exact wl_len h1 h2 h3 (Q0 h4) h5 h6 ht next
theorem wD {t b tb:Nat} {x:Operand} {g:Bool} {all:List Value} {c v:Value} (k j:Nat) (h:(Q1J ops S o,o.dst,Nat.blt d n,newS d S,o.op,H[k]?,evS S x,all[j]?) = (some true,some d,true,true,.load t x,some (.blk b all tb),some (.pointer (some ⟨b,j,none⟩)),some c))
  (hs:Q1N P t = some 1) (ha:Q4G P t = some g) (hv:Q7G g [c] = some v) (next:WL P C n Q Φ H ((d,v) :: S) ops rest):WL P C n Q Φ H S ops (o :: rest):=by
 obtain ⟨h1,h⟩:=p2 h; obtain ⟨h2,h⟩:=p2 h; obtain ⟨h3,h⟩:=p2 h; obtain ⟨h4,h⟩:=p2 h; obtain ⟨h5,h⟩:=p2 h; obtain ⟨h6,h⟩:=p2 h; obtain ⟨h7,h8⟩:=p2 h
 refine Q1V k j h1 h2 h3 (Q0 h4) h5 h6 h7 (cs:=[c]) ?_ hs ha rfl hv next
 obtain ⟨hj,hc⟩:=List.getElem?_eq_some_iff.1 h8
 rw [List.drop_eq_getElem_cons hj,hc]; rfl
theorem wS {t sz b tb:Nat} {x y:Operand} {all cs all' : List Value} {v:Value} (k j:Nat) (h:(Q1J ops S o,o.dst,o.op,H[k]?,evS S x,evS S y,v.cells.toList) = (some true,none,.store t x y,some (.blk b all tb),some (.pointer (some ⟨b,j,none⟩)),some v,cs))
  (hs:Q1N P t = some sz) (h' : (Nat.beq cs.length sz,cs.all (·.oneCell'),Nat.ble (j + sz) all.length,putL all j cs) = (true,true,true,all')) (hH:H.set k (.blk b all' tb) = H') (next:WL P C n Q Φ H' S ops rest):WL P C n Q Φ H S ops (o :: rest):=by
 obtain ⟨h1,h⟩:=p2 h; obtain ⟨h2,h⟩:=p2 h; obtain ⟨h3,h⟩:=p2 h; obtain ⟨h4,h⟩:=p2 h; obtain ⟨h5,h⟩:=p2 h; obtain ⟨h6,h7⟩:=p2 h
 obtain ⟨g1,h'⟩:=p2 h'; obtain ⟨g2,h'⟩:=p2 h'; obtain ⟨g3,g4⟩:=p2 h'
 exact wl_store k j h1 h2 h3 h4 h5 h6 h7 hs g1 g2 g3 g4 hH next
theorem wB {t:Nat} {x:Operand} {v:Value} {zs:List Value} (h:(Q1J ops S o,o.dst,Nat.blt d n,newS d S,o.op,evS S x,v.cells.toList) = (some true,some d,true,true,.box t x,some v,zs))
  (next : ∀ g,WL P C n Q Φ (.blk g zs t :: H) ((d,.pointer (some ⟨g,0,none⟩)) :: S) ops rest):WL P C n Q Φ H S ops (o :: rest):=by
 obtain ⟨h1,h⟩:=p2 h; obtain ⟨h2,h⟩:=p2 h; obtain ⟨h3,h⟩:=p2 h; obtain ⟨h4,h⟩:=p2 h; obtain ⟨h5,h⟩:=p2 h; obtain ⟨h6,h7⟩:=p2 h
 exact wl_box h1 h2 h3 (Q0 h4) h5 h6 h7 next
theorem wC {f:FuncId} {xs:Array Operand} {ts:Array TypeId} {args:List Value} {Φf Hf:List Fact} {R:Value → List Fact → List Fact → Prop} (l m:List Nat)
  (h:(Q1J ops S o,o.dst,Nat.blt d n,newS d S,o.op,evL S xs.toList) = (some true,some d,true,true,.call { callee:=.value (.func f),args:=xs,argTypes:=ts },some args)) (hfn:Q20 P f = true)
  (hH:Q2i H l = Hf) (spec:Q1R P f args Φf Hf R) (hΦ : ∀ F w,(∀ ψ ∈ Φ,ψ.p F w) → ∀ φ ∈ Φf,φ.p F w) (hl:Q4O (l ++ m) H.length = true) (hm:Q2i H m = H')
  (next : ∀ v Φr Hr,R v Φr Hr → WL P C n Q (Φr ++ Φ) (Hr ++ H') ((d,v) :: S) ops rest):WL P C n Q Φ H S ops (o :: rest):=by
 obtain ⟨h1,h⟩:=p2 h; obtain ⟨h2,h⟩:=p2 h; obtain ⟨h3,h⟩:=p2 h; obtain ⟨h4,h⟩:=p2 h; obtain ⟨h5,h6⟩:=p2 h
 exact wl_call l m h1 h2 h3 (Q0 h4) h5 h6 hfn hH spec hΦ hl hm next
end
section
variable {P:Program} {C:Ctx} {n:Nat} {Q:Exit → Act → World → Prop} {ops:Array Oper} {lights L:List Nat} {D:List (Nat × Fact)} {Φ H:List Fact} {S S' : List (Nat × Value)}
private theorem p3 {α β:Type} {a a' : α} {b b' : β} (h:(a,b) = (a',b')):a = a' ∧ b = b':=by cases h; exact ⟨rfl,rfl⟩
theorem xP (hok:Q3R ops lights = true) (i:Nat) {o:Oper} {d:Nat} {v:Value} (h:(ops[i]?,o.dst,Q5M ops lights L i n d o,newS d S,Q1J ops S o,pureOp S o.op) = (some o,some d,true,true,some true,some v))
  (next:WX P C n Q ops lights (i :: L) D Φ H ((d,v) :: S)):WX P C n Q ops lights L D Φ H S:=by
 obtain ⟨h1,h⟩:=p3 h; obtain ⟨h2,h⟩:=p3 h; obtain ⟨h3,h⟩:=p3 h; obtain ⟨h4,h⟩:=p3 h; obtain ⟨h5,h6⟩:=p3 h
 exact wx_pure hok i h1 h2 h3 (Q0 h4) h5 h6 next
theorem xO (hok:Q3R ops lights = true) (i:Nat) {o:Oper} {d:Nat} (h:(ops[i]?,o.dst,Q5M ops lights L i n d o,newS d S,Q1J ops S o) = (some o,some d,true,true,some false))
  (next:WX P C n Q ops lights (i :: L) D Φ H ((d,undef) :: S)):WX P C n Q ops lights L D Φ H S:=by
 obtain ⟨h1,h⟩:=p3 h; obtain ⟨h2,h⟩:=p3 h; obtain ⟨h3,h⟩:=p3 h; obtain ⟨h4,h5⟩:=p3 h
 exact wx_off hok i h1 h2 h3 (Q0 h4) h5 next
theorem xS (hok:Q3R ops lights = true) (k:Nat) {o:Oper} (h:(readyX ops lights L,Q3h lights k,(List.range ops.size).all (Q3h L),ops[k]?) = ([k],false,false,some o))
  (h' : WL P C n (QX P C n Q ops lights L D Φ k) Φ H S ops [o]):WX P C n Q ops lights L D Φ H S:=by
 obtain ⟨h1,h⟩:=p3 h; obtain ⟨h2,h⟩:=p3 h; obtain ⟨h3,h4⟩:=p3 h
 exact wx_step1 hok k h1 h2 h3 h4 h'
end
end Go.Proofs.YtgangmegcejllaaGreatDoor
