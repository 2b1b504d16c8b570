import Derived.Test.YtbgodclhmgmcgaaGreatDoorIdx
import Derived.IntWalk
namespace Go.Proofs.YtbgodclhmgmcgaaGreatDoor
open Go.RowKit
def inI (x:Int):Prop:=-9223372036854775808≤x∧x≤9223372036854775807
def QcJ (x:V)(_:Unit):List Value:=[.int .u8 x.k,.int .i64 x.n,.string x.s]
structure QP where
 id:Int
 ty:Int
 args:List V
structure Q1n where
 k:Int
 var:Int
 v:V
def QcG (x:Q1n)(_:Unit):List Value:=[.int .u8 x.k,.int .i64 x.var,.int .u8 x.v.k,.int .i64 x.v.n,.string x.v.s]
theorem sli_nil {α:Type} {sz:Nat} {R:Rep α} {p:Option Addr} {c:Nat} {l:List α} {F:Q1O} {w:World} (h:(Fact.sli sz R p c l).p F w)(hp:p=none):l=[]:=by
 obtain ⟨p',n',c',xs,e,hn,hc,hm,_,hrow⟩:=h
 cases e
 cases l with
 | nil=>rfl
 | cons x l=>obtain ⟨b,off,hb,_⟩:=hrow (by simp);rw [hp] at hb;cases hb
theorem QdX {α:Type} {p:Option α} (h:Option.isNone p=true):p=none:=by simpa using h
theorem Qdm {α:Type} {p:Option α} (h:Option.isNone p=false) : ∃ a,p=some a:=by cases p <;> simp_all
theorem ask {Φ Φ' : List Fact} (l:List Nat)(h:Q1d Φ l=Φ') {F:Q1O} {w:World} (hΦ : ∀ ψ∈Φ,ψ.p F w) : ∀ φ∈Φ',φ.p F w:=by
 subst h
 intro φ hφ
 obtain ⟨i,_,hi⟩:=List.mem_filterMap.1 hφ
 exact hΦ φ (List.mem_of_getElem? hi)
theorem Q1 {d : Nat} : ∀ {S : List (Nat×Value)},(S.all fun x=> !(Nat.beq x.1 d))=true→Q4p d S=S
 | [],_=>rfl
 | (k,v) :: r,h=>by
   simp only [List.all_cons,Bool.and_eq_true,Bool.not_eq_true'] at h
   unfold Q4p
   rw [h.1,Q1 h.2]
theorem Zq {d:Nat} {S:List (Nat×Value)} (h:(S.all fun x=>!(Nat.beq x.1 d))=true:=by rfl):Q4p d S=S:=Q1 h
theorem QD {a b:Nat} (h:a+b≤9223372036854775807):Value.int .i64 (IntKind.wrap .i64 ((a:Int)+(b:Int)))=.int .i64 ((a+b:Nat):Int):=by
 rw [show ((a+b:Nat):Int)=(a:Int)+b from Int.natCast_add a b,IntWalk.i64_in _ (by omega)]
end Go.Proofs.YtbgodclhmgmcgaaGreatDoor
