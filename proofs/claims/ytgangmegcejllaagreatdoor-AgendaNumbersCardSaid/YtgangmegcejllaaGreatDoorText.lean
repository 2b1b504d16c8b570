import Derived.Test.YtgangmegcejllaaGreatDoorView
import Derived.Test.YtgangmegcejllaaGreatDoorAuto
import Derived.Laws.BytesArg
import Derived.Laws.BytesString
import Derived.Laws.IdiomStrings
import Derived.Lib.LaidTab
import Derived.Lib.ItoaNum
import Derived.LaidSub
namespace Go.Proofs.YtgangmegcejllaaGreatDoor
open Go Go.RowKit
def tabF (P:Program) (name:String) (k:IntKind) (zs:List Int) (g:Nat) (hg:P.globalNamed name = some g):Fact :=
 .raw (fun N w=>N g ∧ Lib.TabIs P w name k zs) (fun hF ha h=>⟨hF _ h.1,by
  have:=h.2
  unfold Lib.TabIs World.var? at this ⊢
  rw [hg] at this ⊢
  simp only [Option.bind_some] at this ⊢
  rw [ha g h.1]; exact this⟩)
theorem tabF_of {P:Program} {W:World} {name:String} {k:IntKind} {zs:List Int} {g:Nat} {hg:P.globalNamed name = some g} (h:Lib.TabIs P W name k zs):(tabF P name k zs g hg).p (fun k=>k < W.heap.size) W:=by
 refine ⟨?_,h⟩
 unfold Lib.TabIs World.var? at h
 rw [hg] at h
 simp only [Option.bind_some] at h
 cases hb:W.heap[g]? with
 | none=>rw [hb] at h; cases h
 | some o=>exact (Array.getElem?_eq_some_iff.1 hb).1
theorem spec_tab {P:Program} {f:FuncId} {args:List Value} {v:Value} {name:String} {k:IntKind} {zs:List Int} {g:Nat} {hg:P.globalNamed name = some g} (h : ∀ w,Lib.TabIs P w name k zs → Calls P f args.toArray w fun e w'=>e = .returned v ∧ Below w.heap.size w w'):Q1z P f args [tabF P name k zs g hg] [] (fun u Φr Hr=>u = v ∧ Φr = [] ∧ Hr = []):=by
 intro F N w hF hΦ _ _ _
 have ht:Lib.TabIs P w name k zs:=(hΦ _ (List.mem_singleton.2 rfl)).2
 refine (h w ht).mono fun e w' ⟨he,hb⟩=>⟨v,[],[],he,⟨rfl,rfl,rfl⟩,?_⟩
 have h0:QU ⟨w,fun k=>∃ i,i < ([] : List Fact).length ∧ N i k,F⟩ [] [] w :=
  ⟨F,N,hF,fun _ h=>h,fun _ h=>.inl h,fun φ hφ=>(by cases hφ),fun i φ h=>(by simp at h),fun i k hi=>(by simp at hi),fun i j k hi=>(by simp at hi),Mod.refl _ _⟩
 exact h0.drew' hb
theorem drewN_below (w:World) : ∀ n,Below w.heap.size w (w.drewN n)
 | 0=>Below.refl _ _
 | n + 1=>(drewN_below w n).drew
def decF:Nat → Nat → List UInt8
 | 0,_=>[]
 | f + 1,u=>if u < 10 then [UInt8.ofNat (48 + u)] else decF f (u / 10) ++ [UInt8.ofNat (48 + u % 10)]
theorem decF_eq : ∀ (f u:Nat),u < 10 ^ f → 0 < f → decF f u = Lib.decDigits u
 | 0,_,_,h=>by omega
 | f + 1,u,h,_=>by
   unfold decF
   rw [Lib.decDigits]
   split
   · rfl
   ·rename_i hu
    cases f with
    | zero=>simp at h; omega
    | succ f =>
      rw [decF_eq (f + 1) (u / 10) (by rw [Nat.pow_succ] at h; omega) (by omega)]
def itoaF (n:Int):ByteArray:=⟨(if n < 0 then 45 :: decF 20 n.natAbs else decF 20 n.toNat).toArray⟩
theorem itoaF_eq {n:Int} (h : -9223372036854775808 ≤ n ∧ n ≤ 9223372036854775807):(⟨(Lib.itoa n).toArray⟩ : ByteArray) = itoaF n:=by
 have e:(10:Nat) ^ 20 = 100000000000000000000:=by decide
 unfold itoaF Lib.itoa
 split
 · rw [decF_eq 20 _ (by rw [e]; omega) (by omega)]
 · rw [decF_eq 20 _ (by rw [e]; omega) (by omega)]
end Go.Proofs.YtgangmegcejllaaGreatDoor
