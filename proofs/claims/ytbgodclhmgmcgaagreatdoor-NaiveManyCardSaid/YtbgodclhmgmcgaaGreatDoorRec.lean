import Derived.Test.YtbgodclhmgmcgaaGreatDoorOpenA
import Derived.Test.YtbgodclhmgmcgaaGreatDoorTree
namespace Go.Proofs.YtbgodclhmgmcgaaGreatDoor
open Go Go.RowKit Go.Deep
section
variable {α Λ:Type} (C : α → Option Addr × Nat → List Value) (kids : α → List α) (sz:Nat) (one : ∀ x r,∀ u ∈ C x r,u.oneCell' = true)
def recN:Nat → Rep α
 | 0=>⟨fun _ _ _ _=>False,fun _ _ h=>h,fun h=>h.elim⟩
 | n + 1=>Q90 C (fun x r=>[.sli sz (recN n) r.1 r.2 (kids x)]) one
def recR:Rep α:=⟨fun F w cs x=>∃ n,(recN C kids sz one n).p F w cs x,fun hF ha ⟨n,h⟩=>⟨n,(recN C kids sz one n).good hF ha h⟩,fun ⟨n,h⟩=>(recN C kids sz one n).one h⟩
end
section
variable {α:Type} {C : α → Option Addr × Nat → List Value} {kids : α → List α} {sz:Nat} {one : ∀ x r,∀ u ∈ C x r,u.oneCell' = true}
theorem recN_mono : ∀ {n m:Nat} {F:Q2n} {w:World} {cs:List Value} {x : α},n ≤ m → (recN C kids sz one n).p F w cs x → (recN C kids sz one m).p F w cs x
 | 0,_,_,_,_,_,_,h=>h.elim
 | n + 1,0,_,_,_,_,hm,_=>by omega
 | n + 1,m + 1,F,w,cs,x,hm,⟨r,h1,h2⟩=>⟨r,h1,fun φ hφ=>by
     simp only [List.mem_cons,List.not_mem_nil,or_false] at hφ
     subst hφ
     exact sli_rel (R:=recN C kids sz one n) (h2 _ (List.mem_cons_self)) (fun cs x hr=>recN_mono (by omega) hr)⟩
theorem rec_opens:Q6s (recR C kids sz one) C (fun _ _=>True) (fun x r=>[.sli sz (recR C kids sz one) r.1 r.2 (kids x)]):=fun F w cs x ⟨n,h⟩=>by
 cases n with
 | zero=>exact h.elim
 | succ n =>
   obtain ⟨r,h1,h2⟩:=h
   exact ⟨r,h1,trivial,QS (sli_rel (R:=recN C kids sz one n) (h2 _ (List.mem_cons_self)) (fun cs x hr=>⟨n,hr⟩)) Qr⟩
theorem chunks_rec {F:Q2n} {w:World} : ∀ {l:List α} {ys:List Value},Q28 sz ((recR C kids sz one).p F w) ys l → ∃ n,Q28 sz ((recN C kids sz one n).p F w) ys l
 | [],ys,h=>⟨0,h⟩
 | x :: l,ys,⟨cs,rest,e1,e2,⟨n,e3⟩,e4⟩=>by
   obtain ⟨m,hm⟩:=chunks_rec e4
   exact ⟨max n m,cs,rest,e1,e2,recN_mono (Nat.le_max_left _ _) e3,hm.mono fun cs x _ hr=>recN_mono (Nat.le_max_right _ _) hr⟩
theorem Q3d {F:Q2n} {w:World} {x : α} {cs:List Value} (r:Option Addr × Nat) (hcs:cs = C x r) (h : ∀ φ ∈ ([.sli sz (recR C kids sz one) r.1 r.2 (kids x)] : List Fact),φ.p F w):(recR C kids sz one).p F w cs x:=by
 obtain ⟨p,n,c,xs,hv,hn,hc,hm,hx,hrow⟩:=(h (.sli sz (recR C kids sz one) r.1 r.2 (kids x)) List.mem_cons_self:Sli F w sz ((recR C kids sz one).p F w) (.slice r.1 (kids x).length r.2) (kids x))
 obtain ⟨m,hx⟩:=chunks_rec hx
 exact ⟨m + 1,r,hcs,QS (⟨p,n,c,xs,hv,hn,hc,hm,hx,hrow⟩ : Sli F w sz ((recN C kids sz one m).p F w) (.slice r.1 (kids x).length r.2) (kids x)) Qr⟩
end
end Go.Proofs.YtbgodclhmgmcgaaGreatDoor
