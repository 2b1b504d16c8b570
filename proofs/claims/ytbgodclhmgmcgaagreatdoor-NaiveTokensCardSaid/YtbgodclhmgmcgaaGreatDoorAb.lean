import Derived.Test.YtbgodclhmgmcgaaGreatDoorTypes
import Derived.Test.YtbgodclhmgmcgaaGreatDoorStr
import Derived.Test.YtbgodclhmgmcgaaGreatDoorAuto
import Derived.Test.YtbgodclhmgmcgaaGreatDoorLight
namespace Go.Proofs.YtbgodclhmgmcgaaGreatDoor
theorem tI_2:tInt Tryz.prog 2=some .i64:=by kernel_rfl
theorem tT_9:tStr Tryz.prog 9=true:=by kernel_rfl
theorem tI_61:tInt Tryz.prog 61=some .u8:=by kernel_rfl
theorem tI_62:tInt Tryz.prog 62=some .u8:=by kernel_rfl
theorem tI_246:tInt Tryz.prog 246=some .u64:=by kernel_rfl
end Go.Proofs.YtbgodclhmgmcgaaGreatDoor
namespace Go.Proofs.YtbgodclhmgmcgaaGreatDoor
open Go Go.RowKit
theorem asK {Φ Φ' : List Fact} (l:List Nat)(h:Q1d Φ l=Φ')(F:Q1O)(w:World)(hΦ : ∀ ψ∈Φ,ψ.p F w) : ∀ φ∈Φ',φ.p F w:=ask l h hΦ
def Q8J (d:Nat)(S:List (Nat×Value)):Bool:=S.all fun x=>!(Nat.beq x.1 d)
section
variable {P:Program} {C:Ctx} {n:FD} {Q:Exit → Act → World → Prop} {Φ Φ' : List Fact} {H H' : List Fact} {S S' : List (Nat × Value)} {ops:Array Oper} {rest:List Oper} {o:Oper} {d:Nat}
private theorem p2.{u,v} {α:Type u} {β:Type v} {a a' : α} {b b' : β} (h:(a,b)=(a',b')):a=a' ∧b=b':=by cases h;exact ⟨rfl,rfl⟩
theorem wP {v:Value} (h:(Q18 ops S o,o.dst,Nat.blt d n,Q8J d S,Q8T S o.op)=(some true,some d,true,true,some v))(next:WL P C n Q Φ H ((d,v) :: S) ops rest):WL P C n Q Φ H S ops (o :: rest):=by
 obtain ⟨h1,h⟩:=p2 h;obtain ⟨h2,h⟩:=p2 h;obtain ⟨h3,h⟩:=p2 h;obtain ⟨h4,h5⟩:=p2 h
 exact Qx h1 h2 h3 (Q1 h4) h5 next
theorem wO (h:(Q18 ops S o,o.dst,Nat.blt d n,Q8J d S)=(some false,some d,true,true))(next:WL P C n Q Φ H ((d,undef) :: S) ops rest):WL P C n Q Φ H S ops (o :: rest):=by
 obtain ⟨h1,h⟩:=p2 h;obtain ⟨h2,h⟩:=p2 h;obtain ⟨h3,h4⟩:=p2 h
 exact wl_off h1 h2 h3 (Q1 h4) next
theorem wF {t k off b q:Nat} {x:Operand} (h:(Q18 ops S o,o.dst,Nat.blt d n,Q8J d S,o.op,evS S x)=(some true,some d,true,true,.fieldAddr t x k,some (.pointer (some ⟨b,q,none⟩))))
  (hk:Q1H P t k=some off) (next:WL P C n Q Φ H ((d,.pointer (some ⟨b,q+off,none⟩)) :: S) ops rest):WL P C n Q Φ H S ops (o :: rest):=by
 obtain ⟨h1,h⟩:=p2 h;obtain ⟨h2,h⟩:=p2 h;obtain ⟨h3,h⟩:=p2 h;obtain ⟨h4,h⟩:=p2 h;obtain ⟨h5,h6⟩:=p2 h
 exact wl_fieldAddr h1 h2 h3 (Q1 h4) h5 h6 hk next
theorem wN {t:TypeId} {x:Operand} {p:Option Addr} {k c e:Nat} (h:(Q18 ops S o,o.dst,Nat.blt d n,Q8J d S,o.op,evS S x)=(some true,some d,true,true,.call { callee:=.builtin .len,args:=#[x],argTypes:=#[t] },some (.slice p k c)))
  (ht:Q2d P t=some e) (next:WL P C n Q Φ H ((d,.int .i64 (k:Int)) :: S) ops rest):WL P C n Q Φ H S ops (o :: rest):=by
 obtain ⟨h1,h⟩:=p2 h;obtain ⟨h2,h⟩:=p2 h;obtain ⟨h3,h⟩:=p2 h;obtain ⟨h4,h⟩:=p2 h;obtain ⟨h5,h6⟩:=p2 h
 exact wl_len h1 h2 h3 (Q1 h4) h5 h6 ht next
theorem wD {t b tb:Nat} {x:Operand} {g:Bool} {all:List Value} {c v:Value} (k j:Nat)(h:(Q18 ops S o,o.dst,Nat.blt d n,Q8J d S,o.op,H[k]?,evS S x,all[j]?)=(some true,some d,true,true,.load t x,some (.blk b all tb),some (.pointer (some ⟨b,j,none⟩)),some c))
  (hs:Q1m P t=some 1) (ha:Q58 P t=some g) (hv:Q8V g [c]=some v) (next:WL P C n Q Φ H ((d,v) :: S) ops rest):WL P C n Q Φ H S ops (o :: rest):=by
 obtain ⟨h1,h⟩:=p2 h;obtain ⟨h2,h⟩:=p2 h;obtain ⟨h3,h⟩:=p2 h;obtain ⟨h4,h⟩:=p2 h;obtain ⟨h5,h⟩:=p2 h;obtain ⟨h6,h⟩:=p2 h;obtain ⟨h7,h8⟩:=p2 h
 refine wl_loadH k j h1 h2 h3 (Q1 h4) h5 h6 h7 (cs:=[c]) ?_ hs ha rfl hv next
 obtain ⟨hj,hc⟩:=List.getElem?_eq_some_iff.1 h8
 rw [List.drop_eq_getElem_cons hj,hc];rfl
theorem wS {t sz b tb:Nat} {x y:Operand} {all cs all' : List Value} {v:Value} (k j:Nat)(h:(Q18 ops S o,o.dst,o.op,H[k]?,evS S x,evS S y,v.cells.toList)=(some true,none,.store t x y,some (.blk b all tb),some (.pointer (some ⟨b,j,none⟩)),some v,cs))
  (hs:Q1m P t=some sz) (h' : (Nat.beq cs.length sz,cs.all (·.oneCell'),Nat.ble (j+sz) all.length,putL all j cs)=(true,true,true,all')) (hH:H.set k (.blk b all' tb)=H') (next:WL P C n Q Φ H' S ops rest):WL P C n Q Φ H S ops (o :: rest):=by
 obtain ⟨h1,h⟩:=p2 h;obtain ⟨h2,h⟩:=p2 h;obtain ⟨h3,h⟩:=p2 h;obtain ⟨h4,h⟩:=p2 h;obtain ⟨h5,h⟩:=p2 h;obtain ⟨h6,h7⟩:=p2 h
 obtain ⟨g1,h'⟩:=p2 h';obtain ⟨g2,h'⟩:=p2 h';obtain ⟨g3,g4⟩:=p2 h'
 exact wl_store k j h1 h2 h3 h4 h5 h6 h7 hs g1 g2 g3 g4 hH next
theorem wB {t:Nat} {x:Operand} {v:Value} {zs:List Value} (h:(Q18 ops S o,o.dst,Nat.blt d n,Q8J d S,o.op,evS S x,v.cells.toList)=(some true,some d,true,true,.box t x,some v,zs))
  (next : ∀ g,WL P C n Q Φ (.blk g zs t :: H) ((d,.pointer (some ⟨g,0,none⟩)) :: S) ops rest):WL P C n Q Φ H S ops (o :: rest):=by
 obtain ⟨h1,h⟩:=p2 h;obtain ⟨h2,h⟩:=p2 h;obtain ⟨h3,h⟩:=p2 h;obtain ⟨h4,h⟩:=p2 h;obtain ⟨h5,h⟩:=p2 h;obtain ⟨h6,h7⟩:=p2 h
 exact wl_box h1 h2 h3 (Q1 h4) h5 h6 h7 next
theorem wC {f:FuncId} {xs:Array Operand} {ts:Array TypeId} {args:List Value} {Φf Hf:List Fact} {R:Value→List Fact→List Fact→Prop} (l m:List Nat)
  (h:(Q18 ops S o,o.dst,Nat.blt d n,Q8J d S,o.op,evL S xs.toList)=(some true,some d,true,true,.call { callee:=.value (.func f),args:=xs,argTypes:=ts },some args)) (hfn:Q15 P f=true)
  (hH:Q1d H l=Hf) (spec:QY P f args Φf Hf R) (hΦ : ∀ F w,(∀ ψ∈Φ,ψ.p F w)→∀ φ∈Φf,φ.p F w) (hl:Q2o (l++m) H.length=true) (hm:Q1d H m=H')
  (next : ∀ v Φr Hr,R v Φr Hr→WL P C n Q (Φr++Φ) (Hr++H') ((d,v) :: S) ops rest):WL P C n Q Φ H S ops (o :: rest):=by
 obtain ⟨h1,h⟩:=p2 h;obtain ⟨h2,h⟩:=p2 h;obtain ⟨h3,h⟩:=p2 h;obtain ⟨h4,h⟩:=p2 h;obtain ⟨h5,h6⟩:=p2 h
 exact wl_call l m h1 h2 h3 (Q1 h4) h5 h6 hfn hH spec hΦ hl hm next
end
section
variable {P:Program} {C:Ctx} {n:FD} {Q:Exit → Act → World → Prop} {ops:Array Oper} {lights L:List Nat} {D:List (Nat × Fact)} {Φ H:List Fact} {S S' : List (Nat × Value)}
private theorem p3 {α β:Type} {a a' : α} {b b' : β} (h:(a,b)=(a',b')):a=a' ∧b=b':=by cases h;exact ⟨rfl,rfl⟩
theorem xP (hok:Q22 ops lights=true)(i:Nat) {o:Oper} {d:Nat} {v:Value} (h:(ops[i]?,o.dst,Q4L ops lights L i n d o,Q8J d S,Q18 ops S o,Q8T S o.op)=(some o,some d,true,true,some true,some v))
  (next:WX P C n Q ops lights (i :: L) D Φ H ((d,v) :: S)):WX P C n Q ops lights L D Φ H S:=by
 obtain ⟨h1,h⟩:=p3 h;obtain ⟨h2,h⟩:=p3 h;obtain ⟨h3,h⟩:=p3 h;obtain ⟨h4,h⟩:=p3 h;obtain ⟨h5,h6⟩:=p3 h
 exact wx_pure hok i h1 h2 h3 (Q1 h4) h5 h6 next
theorem xO (hok:Q22 ops lights=true)(i:Nat) {o:Oper} {d:Nat} (h:(ops[i]?,o.dst,Q4L ops lights L i n d o,Q8J d S,Q18 ops S o)=(some o,some d,true,true,some false))
  (next:WX P C n Q ops lights (i :: L) D Φ H ((d,undef) :: S)):WX P C n Q ops lights L D Φ H S:=by
 obtain ⟨h1,h⟩:=p3 h;obtain ⟨h2,h⟩:=p3 h;obtain ⟨h3,h⟩:=p3 h;obtain ⟨h4,h5⟩:=p3 h
 exact wx_off hok i h1 h2 h3 (Q1 h4) h5 next
theorem xS (hok:Q22 ops lights=true)(k:Nat) {o:Oper} (h:(readyX ops lights L,Q7j lights k,(List.range ops.size).all (Q7j L),ops[k]?)=([k],false,false,some o))
  (h' : WL P C n (QX P C n Q ops lights L D Φ k) Φ H S ops [o]):WX P C n Q ops lights L D Φ H S:=by
 obtain ⟨h1,h⟩:=p3 h;obtain ⟨h2,h⟩:=p3 h;obtain ⟨h3,h4⟩:=p3 h
 exact wx_step1 hok k h1 h2 h3 h4 h'
end
end Go.Proofs.YtbgodclhmgmcgaaGreatDoor
