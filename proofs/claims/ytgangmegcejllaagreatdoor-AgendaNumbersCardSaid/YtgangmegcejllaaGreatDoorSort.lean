import Derived.Test.YtgangmegcejllaaGreatDoorDrawn
import Derived.Test.YtgangmegcejllaaGreatDoorLawG
import Derived.Test.YtgangmegcejllaaGreatDoorAuto
import Derived.Shelf.SlSortCmp.InsertionK
namespace Go.Proofs.YtgangmegcejllaaGreatDoor
open Go Go.RowKit Go.Shelf
open Go.Sort (flatK putRowK HoldsK)
theorem grown_of {W w' : World} (hm:Mod (fun _=>False) W w') (hd:W.drawn ≤ w'.drawn) : ∃ q os',w' = Go.Sort.grow (W.drewN q) os':=by
 refine ⟨w'.drawn - W.drawn,w'.heap.extract W.heap.size w'.heap.size,?_⟩
 have hh:w'.heap = W.heap ++ w'.heap.extract W.heap.size w'.heap.size:=by
  apply Array.ext_getElem?
  intro k
  rw [Array.getElem?_append]
  split
  · rename_i h; exact hm.block k h (fun h=>h.elim)
  ·rename_i h
   rw [Array.getElem?_extract]
   split
   · congr 1; omega
   · rw [Array.getElem?_eq_none_iff]; omega
 have h1:=hm.os; have h2:=hm.tape; have h3:=hm.output
 obtain ⟨hp,tp,dr,os,ot⟩:=w'
 simp only at h1 h2 h3 hh hd
 subst h1; subst h2; subst h3
 show _ = ({ heap:=W.heap ++ _,tape:=W.tape,drawn:=W.drawn + (dr - W.drawn),os:=W.os,output:=W.output }:World)
 rw [← hh,Nat.add_sub_cancel' hd]
section
variable {α:Type} {k:Nat} {enc : α → List Value}
theorem Q8P (hk : ∀ x, (enc x).length = k) : ∀ {l : List α} {ys : List Value}, ys.length = l.length * k → (∀ i x, l[i]? = some x → ∀ c, c < k → ys[i * k + c]? = (enc x)[c]?) → Q1F k (fun cs x => cs = enc x) ys l
 | [],ys,h,_=>List.eq_nil_of_length_eq_zero (by simpa using h)
 | x :: l,ys,h,hc=>by
   have hl:ys.length = l.length * k + k:=by rw [h,List.length_cons,Nat.succ_mul]
   refine ⟨ys.take k,ys.drop k,(List.take_append_drop k ys).symm,by rw [List.length_take]; omega,?_,Q8P hk (by rw [List.length_drop]; omega) fun i y hy c hcl=>?_⟩
   ·apply List.ext_getElem?
    intro c
    rw [List.getElem?_take]
    split
    ·rename_i hcl
     have:=hc 0 x rfl c hcl
     simpa using this
    ·rename_i hcl
     symm
     rw [List.getElem?_eq_none_iff,hk]; omega
   ·rw [List.getElem?_drop,← hc (i + 1) y (by simpa using hy) c hcl]
    congr 1
    rw [Nat.succ_mul]; omega
theorem flatK_list [Inhabited α] (hk : ∀ x,(enc x).length = k) (d:Array α):(flatK enc k d).toList = d.toList.flatMap enc:=by
 refine Q1F.flat_iff enc (Q8P hk (by simp) fun i x hx c hc=>?_)
 have hi:i < d.size:=by
  have:=(List.getElem?_eq_some_iff.1 hx).1
  simpa using this
 have ht:i * k + c < d.size * k:=by
  have:=Nat.mul_le_mul_right k hi
  rw [Nat.succ_mul] at this; omega
 have h1:(i * k + c) / k = i:=by rw [Nat.mul_comm,Nat.mul_add_div (by omega),Nat.div_eq_of_lt hc]; rfl
 have h2:(i * k + c) % k = c:=by rw [Nat.mul_comm,Nat.mul_add_mod,Nat.mod_eq_of_lt hc]
 have hx2:d[i]! = x:=by
  rw [Array.getElem?_toList] at hx
  rw [getElem!_def,hx]
 have hc2:c < (enc x).length:=by rw [hk]; exact hc
 simp only [flatK,Array.toList_map,List.getElem?_map,Array.toList_range,List.getElem?_range ht,Option.map_some,h1,h2,hx2]
 rw [List.getElem?_eq_getElem hc2,getElem!_pos (enc x) c hc2]
end
theorem put_take (ys:List Value) (cur:Array Value) (h:ys.length ≤ cur.size):(Go.Sort.putCells id 0 ys.toArray cur).toList.take ys.length = ys:=by
 apply List.ext_getElem?
 intro t
 rw [List.getElem?_take]
 split
 ·rename_i ht
  have hc:t < cur.size:=by omega
  rw [Array.getElem?_toList]
  unfold Go.Sort.putCells
  rw [Array.getElem?_mapIdx,Array.getElem?_eq_getElem hc,Option.map_some,if_pos ⟨Nat.zero_le _,by simpa using ht⟩,List.getElem?_eq_getElem ht]
  simp [ht]
 ·rename_i ht
  symm
  rw [List.getElem?_eq_none_iff]; omega
theorem own_put {B g n c:Nat} {e:TypeId} {sz:Nat} {xs ys:List Value} {w w' : World} (h:w.ownsRow B e sz (.slice (some ⟨g,0,none⟩) n c) n xs) (hl:ys.length = n * sz) (hw:w'.heap[g]? = (w.heap[g]?).map (Go.Sort.onCells (Go.Sort.putCells id 0 ys.toArray))) :
  w'.ownsRow B e sz (.slice (some ⟨g,0,none⟩) n c) n ys:=by
 refine ⟨hl,?_⟩
 rcases h.2 with ⟨h0,_⟩ | ⟨g',cap,cur,hv,hb,hg,h1,h2,h3,h4⟩
 · cases h0
 ·cases hv
  have hle:ys.length ≤ cur.size:=by rw [hl,h3]; exact Nat.mul_le_mul_right _ h1
  refine .inr ⟨g,c,Go.Sort.putCells id 0 ys.toArray cur,rfl,hb,by rw [hw,hg]; rfl,h1,h2,by simp [Go.Sort.putCells,h3],?_⟩
  rw [← hl]; exact put_take ys cur hle
section
variable {α:Type} [Inhabited α] {enc : α → List Value} {k:Nat} {w:World} {g m:Nat} {d:Array α} {os:Array Obj}
theorem heap_sortK (hg:g < w.heap.size):(sortWorldK enc k w g 0 m d os).heap[g]? = (w.heap[g]?).map (Go.Sort.onCells (Go.Sort.putCells id 0 (flatK enc k d))):=by
 unfold sortWorldK putRowK Go.Sort.putRow Go.Sort.mapBlock
 rw [Go.Sort.heap_grow_old _ _ (by simpa using hg)]
 simp [Array.getElem?_modify,Go.Sort.ahead]
theorem mod_sortK:Mod (fun j=>j = g) w (sortWorldK enc k w g 0 m d os):=by
 refine ⟨rfl,rfl,rfl,?_,fun j hj hne=>?_⟩
 ·unfold sortWorldK putRowK Go.Sort.putRow Go.Sort.mapBlock
  simp [Go.Sort.ahead]
 ·unfold sortWorldK putRowK Go.Sort.putRow Go.Sort.mapBlock
  rw [Go.Sort.heap_grow_old _ _ (by simpa using hj)]
  have:g ≠ j:=fun e=>hne e.symm
  simp [Array.getElem?_modify,Go.Sort.ahead,this]
theorem holds_own {e:TypeId} {n c:Nat} {xs:List Value} (h:w.ownsRow 0 e k (.slice (some ⟨g,0,none⟩) n c) n xs) (hx:(flatK enc k d).toList = xs):HoldsK enc k w g 0 d:=by
 rcases h.2 with ⟨h0,_⟩ | ⟨g',cap,cur,hv,hb,hg,h1,h2,h3,h4⟩
 · cases h0
 ·cases hv
  intro j hj
  have hlen:(flatK enc k d).size = n * k:=by rw [← h.1,← hx,Array.length_toList]
  have hc:j < cur.size:=by rw [h3]; exact Nat.lt_of_lt_of_le (hlen ▸ hj) (Nat.mul_le_mul_right _ h1)
  have hv2:cur[j]? = some ((flatK enc k d)[j]!):=by
   have h5:(cur.toList.take (n * k))[j]? = (flatK enc k d).toList[j]?:=by rw [h4,hx]
   rw [List.getElem?_take,if_pos (hlen ▸ hj),Array.getElem?_toList,Array.getElem?_toList] at h5
   rw [h5,getElem!_pos _ j hj,Array.getElem?_eq_getElem hj]
  constructor
  · simp [World.cell?,hg,hv2]
  · simp [World.frozen?,hg]
end
noncomputable def sortL {α:Type} (cf : α → α → Int) (l:List α):List α :=
 @dite _ (∃ l' : List α,l'.Perm l ∧ l'.Pairwise fun a b=>¬ cf b a < 0) (Classical.propDecidable _) (fun h=>h.choose) (fun _=>l)
theorem sortL_is {α:Type} {cf : α → α → Int} {l l' : List α} (hp:l'.Perm l) (hs:l'.Pairwise fun a b=>¬ cf b a < 0) (ha : ∀ a ∈ l,∀ b ∈ l,¬ cf a b < 0 → ¬ cf b a < 0 → a = b):sortL cf l = l':=by
 have h : ∃ l' : List α,l'.Perm l ∧ l'.Pairwise fun a b=>¬ cf b a < 0:=⟨l',hp,hs⟩
 unfold sortL
 rw [dif_pos h]
 have h2:=h.choose_spec
 exact List.Perm.eq_of_pairwise (le:=fun a b=>¬ cf b a < 0) (fun a b h3 h4 h5 h6=>ha a (h2.1.mem_iff.1 h3) b (hp.mem_iff.1 h4) h6 h5) h2.2 hs (h2.1.trans hp.symm)
def SortsG (P:Program) (f:FuncId) (sz:Nat) (arg:List Value → Value):Prop :=
 ∀ (n:Nat) [Inhabited (Fin n)] (enc:Fin n → List Value) (cf:Fin n → Fin n → Int) (g:FuncId) (cb:Array Value) (blk cap:Nat) (d:Array (Fin n)) (w:World),(∀ x,(enc x).length = sz) → (∀ x,∀ v ∈ enc x,v.oneCell' = true) → Go.Sort.SWO (ltOf cf) →
   (∀ args w,(callFunc g args).run P w = .ok (.enter g args) w) →
   (∀ (m:Nat) (os:Array Obj) (dk:Array (Fin n)),dk.size = d.size → ∀ x y,Calls P g (#[arg (enc x),arg (enc y)] ++ cb) (sortWorldK enc sz w blk 0 m dk os) fun e w'=>e = .returned (.int .i64 (cf x y)) ∧ ∃ q os',w' = Go.Sort.grow ((sortWorldK enc sz w blk 0 m dk os).drewN q) os') →
   HoldsK enc sz w blk 0 d → blk < w.heap.size → d.size < 4611686018427387904 →
   Calls P f #[.slice (some ⟨blk,0,none⟩) d.size cap,.func (.func g) #[] cb] w fun e w'=>e = .returned (.tuple #[]) ∧ ∃ d' n os,Go.Sort.PermIn 0 d.size d d' ∧ Go.Sort.SortedIn (ltOf cf) 0 d.size d' ∧ w' = sortWorldK enc sz w blk 0 n d' os
theorem Q1F.mapF {α β:Type} {sz:Nat} {R:List Value → α → Prop} {R' : List Value → β → Prop} (f : α → β) (hR : ∀ cs x,R cs x → R' cs (f x)) : ∀ {l:List α} {xs:List Value},Q1F sz R xs l → Q1F sz R' xs (l.map f)
 | [],_,h=>h
 | _ :: _,_,⟨cs,rest,e1,e2,e3,e4⟩=>⟨cs,rest,e1,e2,hR cs _ e3,Q1F.mapF f hR e4⟩
theorem perm_in {α:Type} [Inhabited α] {d d' : Array α} (h:Go.Sort.PermIn 0 d.size d d'):d'.toList.Perm d.toList:=by
 have h3:=h.2.2
 rwa [Array.extract_eq_self_of_le (by rw [h.1]; exact Nat.le_refl _),Array.extract_eq_self_of_le (Nat.le_refl _)] at h3
theorem sorted_in {α:Type} [Inhabited α] {lt : α → α → Bool} {d:Array α} {n:Nat} (hn:d.size = n) (h:Go.Sort.SortedIn lt 0 n d):d.toList.Pairwise fun a b=>lt b a = false:=by
 rw [List.pairwise_iff_getElem]
 intro i j hi hj hij
 have hi' : i < d.size:=by simpa using hi
 have hj' : j < d.size:=by simpa using hj
 have:=h i j (Nat.zero_le _) hij (hn ▸ hj')
 rw [getElem!_pos d j hj',getElem!_pos d i hi'] at this
 simpa using this
theorem spec_sortG {α:Type} {P:Program} {f g:FuncId} {cb:Array Value} {e sz c:Nat} {arg:List Value → Value} {R:Rep α} {l:List α} {p:Option Addr} {Φ:List Fact} (cf : α → α → Int)
  (hS:SortsG P f sz arg) (hnil : ∀ (p:Option Addr) (cap:Nat) (fv:Value) (w:World),Calls P f #[.slice p 0 cap,fv] w fun e w'=>e = .returned (.tuple #[]) ∧ w' = w) (eg : ∀ args w,(callFunc g args).run P w = .ok (.enter g args) w)
  (hcmp : ∀ (cs cs' : List Value) (x y : α) (F:Q2a) (W:World),(∀ k,F k → k < W.heap.size) → (∀ φ ∈ Φ,φ.p F W) → R.p F W cs x → R.p F W cs' y → x ∈ l → y ∈ l → Calls P g (#[arg cs,arg cs'] ++ cb) W fun e w'=>e = .returned (.int .i64 (cf x y)) ∧ Mod (fun _=>False) W w')
  (h1 : ∀ x ∈ l,¬ cf x x < 0) (h2 : ∀ x ∈ l,∀ y ∈ l,∀ z ∈ l,cf x y < 0 → cf y z < 0 → cf x z < 0) (h3 : ∀ x ∈ l,∀ y ∈ l,∀ z ∈ l,¬ cf x y < 0 → ¬ cf y z < 0 → ¬ cf x z < 0)
  (h4 : ∀ x ∈ l,∀ y ∈ l,¬ cf x y < 0 → ¬ cf y x < 0 → x = y) (hlen:l.length < 4611686018427387904) :
  Q1z P f [.slice p l.length c,.func (.func g) #[] cb] Φ [.own e sz R (.slice p l.length c) l] fun v Φr Hr=>v = .tuple #[] ∧ Φr = [] ∧ Hr = [.own e sz R (.slice p l.length c) (sortL cf l)]:=by
 intro F N w hF hΦ hH hlt hap
 obtain ⟨hblk,xs,hown,hch⟩:=hH 0 _ rfl
 have hz:sortL cf [] = ([] : List α):=sortL_is (List.Perm.refl _) List.Pairwise.nil (fun a ha=>by simp at ha)
 have none' : l = [] → Calls P f #[.slice p l.length c,.func (.func g) #[] cb] w (Ret ⟨w,fun k=>∃ i,i < 1 ∧ N i k,F⟩ fun v Φr Hr=>v = .tuple #[] ∧ Φr = [] ∧ Hr = [.own e sz R (.slice p l.length c) (sortL cf l)]):=by
  rintro rfl
  refine (hnil p c _ w).mono ?_
  rintro e' w' ⟨rfl,rfl⟩
  refine ⟨_,[],_,rfl,⟨rfl,rfl,rfl⟩,F,N,hF,fun _ h=>h,fun _ h=>.inl h,fun φ h=>(by cases h),fun i x hx=>?_,fun i k hi hk=>⟨(hlt i k hi hk).1,.inr ⟨i,hi,hk⟩,(hlt i k hi hk).2⟩,hap,Mod.refl _ _⟩
  rw [hz] at hx
  exact hH i x hx
 rcases hown.2 with ⟨h0,hn⟩ | ⟨g',cap,cur,hv,_,hg,hle,hcm,hcs,htk⟩
 · exact none' (List.eq_nil_of_length_eq_zero hn)
 ·cases hv
  rcases Nat.eq_zero_or_pos l.length with hn | hpos
  · exact none' (List.eq_nil_of_length_eq_zero hn)
  ·have hN:N 0 g':=hblk g' rfl
   have hgF : ¬ F g':=(hlt 0 g' (by simp) hN).2
   have hgs:g' < w.heap.size:=(hlt 0 g' (by simp) hN).1
   haveI:Inhabited (Fin l.length):=⟨⟨0,hpos⟩⟩
   have hat : ∀ i:Fin l.length,∃ cs,cs.length = sz ∧ R.p F w cs l[i] ∧ ∀ j u,cs[j]? = some u → xs[i.val * sz + j]? = some u:=fun i=>hch.at (List.getElem?_eq_getElem i.isLt)
   let enc:Fin l.length → List Value:=fun i=>(hat i).choose
   have henc : ∀ i,(enc i).length = sz ∧ R.p F w (enc i) l[i] ∧ ∀ j u,(enc i)[j]? = some u → xs[i.val * sz + j]? = some u:=fun i=>(hat i).choose_spec
   clear_value enc
   let d:Array (Fin l.length):=(List.finRange l.length).toArray
   have hd:d.size = l.length:=by simp [d]
   have hdl:d.toList = List.finRange l.length:=by simp [d]
   clear_value d
   have hk : ∀ x,(enc x).length = sz:=fun x=>(henc x).1
   have hflat:(flatK enc sz d).toList = xs:=by
     rw [flatK_list hk,hdl]
     refine (Q1F.flat_iff enc (Q8P hk (by rw [hown.1]; simp) fun i x hx c hc=>?_)).symm
     have hx2:x.val = i:=by
       obtain ⟨h5,h6⟩:=List.getElem?_eq_some_iff.1 hx
       rw [← h6]; simp
     have hc2:c < (enc x).length:=by rw [hk]; exact hc
     rw [List.getElem?_eq_getElem hc2,← hx2]
     exact (henc x).2.2 c _ (List.getElem?_eq_getElem hc2)
   have hag : ∀ (m:Nat) (os:Array Obj) (dk:Array (Fin l.length)),Q2b F w (sortWorldK enc sz w g' 0 m dk os):=fun m os dk k hk'=>mod_sortK.block k (hF k hk') (fun h=>hgF (h ▸ hk'))
   have hcon := hS l.length enc (fun i j => cf l[i] l[j]) g cb g' c d w hk (fun x v hv => R.one (henc x).2.1 v hv)
     { irrefl:=fun x=>decide_eq_false (h1 _ (List.getElem_mem x.isLt))
       trans:=fun x y z q r=>decide_eq_true (h2 _ (List.getElem_mem x.isLt) _ (List.getElem_mem y.isLt) _ (List.getElem_mem z.isLt) (of_decide_eq_true q) (of_decide_eq_true r))
       ntrans:=fun x y z q r=>decide_eq_false (h3 _ (List.getElem_mem x.isLt) _ (List.getElem_mem y.isLt) _ (List.getElem_mem z.isLt) (of_decide_eq_false q) (of_decide_eq_false r)) } eg
     (fun m os dk hs x y => (calls_drawn (hcmp (enc x) (enc y) l[x] l[y] F (sortWorldK enc sz w g' 0 m dk os) (fun k hk' => Nat.lt_of_lt_of_le (hF k hk') mod_sortK.size) (fun φ hφ => φ.good (fun _ h => h) (hag m os dk) (hΦ φ hφ)) (R.good (fun _ h => h) (hag m os dk) (henc x).2.1) (R.good (fun _ h => h) (hag m os dk) (henc y).2.1) (List.getElem_mem x.isLt) (List.getElem_mem y.isLt))).mono
       fun _ _ ⟨⟨he,hm⟩,hdr⟩=>⟨he,grown_of hm (hdr _ he)⟩)
     (holds_own hown hflat) hgs (by rw [hd]; exact hlen)
   rw [hd] at hcon
   refine hcon.mono ?_
   rintro e' w' ⟨rfl,d',m,os,hp,hs,rfl⟩
   have hd' : d'.size = l.length:=by rw [hp.1]; exact hd
   have hperm:(d'.toList.map fun i=>l[i]).Perm l:=by
     have h5:=(perm_in (d:=d) (d':=d') (by rw [hd]; exact hp)).map (fun i:Fin l.length=>l[i])
     rw [hdl] at h5
     have h6:(List.finRange l.length).map (fun i=>l[i]) = l:=by
       apply List.ext_getElem (by simp)
       intro i h7 h8
       simp
     rwa [h6] at h5
   have hsort:(d'.toList.map fun i=>l[i]).Pairwise fun a b=>¬ cf b a < 0:=by
     rw [List.pairwise_map]
     exact (sorted_in hd' hs).imp fun h=>of_decide_eq_false h
   have hL:sortL cf l = d'.toList.map fun i=>l[i]:=sortL_is hperm hsort h4
   have hm:Mod (fun j=>j = g') w (sortWorldK enc sz w g' 0 m d' os):=mod_sortK
   refine ⟨_,[],_,rfl,⟨rfl,rfl,rfl⟩,F,N,fun k h=>Nat.lt_of_lt_of_le (hF k h) hm.size,fun _ h=>h,fun _ h=>.inl h,fun φ h=>(by cases h),fun i x hx=>?_,fun i k hi hk=>⟨Nat.lt_of_lt_of_le (hlt i k (by simpa using hi) hk).1 hm.size,.inr ⟨i,by simpa using hi,hk⟩,(hlt i k (by simpa using hi) hk).2⟩,fun i j k hi hj=>hap i j k (by simpa using hi) (by simpa using hj),hm.mono fun k _ h=>⟨0,by simp,h ▸ hN⟩⟩
   cases i with
   | succ i=>simp at hx
   | zero =>
     simp only [List.getElem?_cons_zero,Option.some.injEq] at hx
     subst hx
     refine ⟨hblk,(flatK enc sz d').toList,?_,?_⟩
     · have hll:(sortL cf l).length = l.length:=by rw [hL,List.length_map,Array.length_toList,hd']
       rw [hll]
       exact own_put hown (by simp [hd']) (by rw [heap_sortK hgs])
     · rw [hL,flatK_list hk]
       refine (Q1F.flat enc hk d'.toList).mapF (fun i=>l[i]) fun cs i h=>?_
       subst h
       exact R.good (fun _ h=>h) (hag m os d') (henc i).2.1
end Go.Proofs.YtgangmegcejllaaGreatDoor
