import Derived.Test.YtgangmegcejllaaGreatDoorSort
namespace Go.Proofs.YtgangmegcejllaaGreatDoor
open Go Go.RowKit Go.Shelf
section
variable {α:Type}
def cfO (cm : α → α → Option Int) (x y : α):Int:=(cm x y).getD 0
structure SortOk (cm : α → α → Option Int) (l:List α):Prop where
 some : ∀ x ∈ l,∀ y ∈ l,∃ z,cm x y = some z
 irrefl : ∀ x ∈ l,¬ cfO cm x x < 0
 trans : ∀ x ∈ l,∀ y ∈ l,∀ z ∈ l,cfO cm x y < 0 → cfO cm y z < 0 → cfO cm x z < 0
 ntrans : ∀ x ∈ l,∀ y ∈ l,∀ z ∈ l,¬ cfO cm x y < 0 → ¬ cfO cm y z < 0 → ¬ cfO cm x z < 0
 parts : ∀ x ∈ l,∀ y ∈ l,¬ cfO cm x y < 0 → ¬ cfO cm y x < 0 → x = y
 len:l.length < 4611686018427387904
noncomputable def sortM (cm : α → α → Option Int) (l:List α):Option (List α) :=
 @ite _ (SortOk cm l) (Classical.propDecidable _) (some (sortL (cfO cm) l)) none
theorem sortM_ok {cm : α → α → Option Int} {l l' : List α} (h:sortM cm l = some l'):SortOk cm l ∧ sortL (cfO cm) l = l':=by
 unfold sortM at h
 by_cases hk:SortOk cm l
 ·rw [if_pos hk] at h
  exact ⟨hk,Option.some.inj h⟩
 ·rw [if_neg hk] at h
  cases h
theorem sortM_is {cm : α → α → Option Int} {l l' : List α} (h:SortOk cm l) (hp:l'.Perm l) (hs:l'.Pairwise fun a b=>¬ cfO cm b a < 0):sortM cm l = some l':=by
 unfold sortM
 rw [if_pos h,sortL_is hp hs h.parts]
theorem spec_sortM {P:Program} {f g:FuncId} {cb:Array Value} {e sz c:Nat} {arg:List Value → Value} {R:Rep α} {l l' : List α} {p:Option Addr} {Φ:List Fact} {cm : α → α → Option Int}
  (hS:SortsG P f sz arg) (hnil : ∀ (p:Option Addr) (cap:Nat) (fv:Value) (w:World),Calls P f #[.slice p 0 cap,fv] w fun e w'=>e = .returned (.tuple #[]) ∧ w' = w) (eg : ∀ args w,(callFunc g args).run P w = .ok (.enter g args) w)
  (hcmp : ∀ (cs cs' : List Value) (x y : α) (z:Int) (F:Q2a) (W:World),(∀ k,F k → k < W.heap.size) → (∀ φ ∈ Φ,φ.p F W) → R.p F W cs x → R.p F W cs' y → cm x y = some z → Calls P g (#[arg cs,arg cs'] ++ cb) W fun e w'=>e = .returned (.int .i64 z) ∧ Mod (fun _=>False) W w')
  (hm:sortM cm l = some l') :
  Q1z P f [.slice p l.length c,.func (.func g) #[] cb] Φ [.own e sz R (.slice p l.length c) l] fun v Φr Hr=>v = .tuple #[] ∧ Φr = [] ∧ Hr = [.own e sz R (.slice p l.length c) l']:=by
 obtain ⟨hk,rfl⟩:=sortM_ok hm
 refine spec_sortG (cfO cm) hS hnil eg (fun cs cs' x y F W h1 h2 h3 h4 h5 h6=>?_) hk.irrefl hk.trans hk.ntrans hk.parts hk.len
 obtain ⟨z,hz⟩:=hk.some x h5 y h6
 have:cfO cm x y = z:=by unfold cfO; rw [hz]; rfl
 rw [this]
 exact hcmp cs cs' x y z F W h1 h2 h3 h4 hz
theorem cmp_spec {P : Program} {g : FuncId} {args : List Value} {Φ : List Fact} {v : Value} {F : Q2a} {W : World} (h : Q1z P g args Φ [] (fun u Φr Hr => u = v ∧ Φr = [] ∧ Hr = [])) (hF : ∀ k, F k → k < W.heap.size) (hΦ : ∀ φ ∈ Φ, φ.p F W) :
  Calls P g args.toArray W fun e w'=>e = .returned v ∧ Mod (fun _=>False) W w' :=
 spec_calls h fun φ hφ=>φ.good hF (Q2b.refl _ _) (hΦ φ hφ)
theorem spec_sortF {P:Program} {f g:FuncId} {cb:Array Value} {e sz c:Nat} {arg:List Value → Value} {C : α → Unit → List Value} {one : ∀ x r,∀ u ∈ C x r,u.oneCell' = true} {l l' : List α} {p:Option Addr} {cm : α → α → Option Int}
  (hS:SortsG P f sz arg) (hnil : ∀ (p:Option Addr) (cap:Nat) (fv:Value) (w:World),Calls P f #[.slice p 0 cap,fv] w fun e w'=>e = .returned (.tuple #[]) ∧ w' = w) (eg : ∀ args w,(callFunc g args).run P w = .ok (.enter g args) w)
  (hc : ∀ x y z,cm x y = some z → Q1z P g ([arg (C x ()),arg (C y ())] ++ cb.toList) [] [] fun v Φr Hr=>v = .int .i64 z ∧ Φr = [] ∧ Hr = [])
  (hm:sortM cm l = some l') :
  Q1z P f [.slice p l.length c,.func (.func g) #[] cb] [] [.own e sz (Q90 C (fun _ _=>[]) one) (.slice p l.length c) l] fun v Φr Hr=>v = .tuple #[] ∧ Φr = [] ∧ Hr = [.own e sz (Q90 C (fun _ _=>[]) one) (.slice p l.length c) l']:=by
 refine spec_sortM hS hnil eg (fun cs cs' x y z F W hF _ h1 h2 hz=>?_) hm
 obtain ⟨_,rfl,_⟩:=h1
 obtain ⟨_,rfl,_⟩:=h2
 have h3:=cmp_spec (W:=W) (hc x y z hz) hF Ql
 have e : #[arg (C x ()),arg (C y ())] ++ cb = ([arg (C x ()),arg (C y ())] ++ cb.toList).toArray:=by apply Array.ext'; simp
 rw [← e] at h3
 exact h3
end
def putD (x:Int):List Int → List Int
 | []=>[x]
 | y :: l=>if y < x then x :: y :: l else y :: putD x l
def fallL:List Int → List Int
 | []=>[]
 | x :: l=>putD x (fallL l)
def fallM (l:List Int):Option (List Int):=if l.length < 4611686018427387904 then some (fallL l) else none
def cmpJ (a b:Int):Int:=if a < b then -1 else if a > b then 1 else 0
theorem Q7N {a b:Int}:cmpJ a b < 0 ↔ a < b:=by
 unfold cmpJ
 split
 · simp; assumption
 · split <;> simp <;> omega
theorem putD_perm (x:Int) : ∀ l:List Int,(putD x l).Perm (x :: l)
 | []=>List.Perm.refl _
 | y :: l=>by
   unfold putD
   split
   · exact List.Perm.refl _
   · exact ((putD_perm x l).cons y).trans (List.Perm.swap x y l)
theorem fallL_perm : ∀ l:List Int,(fallL l).Perm l
 | []=>List.Perm.refl _
 | x :: l=>(putD_perm x _).trans ((fallL_perm l).cons x)
theorem putD_sorted (x : Int) : ∀ l : List Int, (l.Pairwise fun a b => b ≤ a) → (putD x l).Pairwise fun a b => b ≤ a
 | [],_=>List.pairwise_singleton _ _
 | y :: l,h=>by
   unfold putD
   have h':=List.pairwise_cons.1 h
   split
   ·rename_i hlt
    refine List.pairwise_cons.2 ⟨fun z hz=>?_,h⟩
    rcases List.mem_cons.1 hz with rfl | hz
    · omega
    · have:=h'.1 z hz; omega
   ·rename_i hlt
    refine List.pairwise_cons.2 ⟨fun z hz=>?_,putD_sorted x l h'.2⟩
    rcases List.mem_cons.1 ((putD_perm x l).mem_iff.1 hz) with rfl | hz
    · omega
    · exact h'.1 z hz
theorem fallL_sorted : ∀ l : List Int, (fallL l).Pairwise fun a b => b ≤ a
 | []=>List.Pairwise.nil
 | x :: l=>putD_sorted x _ (fallL_sorted l)
theorem fall_ok {cm:Int → Int → Option Int} (hc : ∀ x y,cm x y = some (cmpJ y x)) {l o:List Int} (h:fallM l = some o):sortM cm l = some o:=by
 unfold fallM at h
 split at h
 ·rename_i hl
  obtain rfl:=Option.some.inj h
  have hO : ∀ x y,cfO cm x y = cmpJ y x:=fun x y=>by unfold cfO; rw [hc]; rfl
  refine sortM_is {
   some:=fun x _ y _=>⟨_,hc x y⟩
   irrefl:=fun x _=>by rw [hO,Q7N]; omega
   trans:=fun x _ y _ z _=>by rw [hO,hO,hO,Q7N,Q7N,Q7N]; omega
   ntrans:=fun x _ y _ z _=>by rw [hO,hO,hO,Q7N,Q7N,Q7N]; omega
   parts:=fun x _ y _=>by rw [hO,hO,Q7N,Q7N]; omega
   len:=hl } (fallL_perm l) ((fallL_sorted l).imp fun h=>by rw [hO,Q7N]; omega)
 · cases h
end Go.Proofs.YtgangmegcejllaaGreatDoor
