import Derived.Test.YtgangmegcejllaaGreatDoorMapE
import Derived.Test.YtgangmegcejllaaGreatDoorPart
namespace Go.Proofs.YtgangmegcejllaaGreatDoor
open Go Go.RowKit
section
variable {κ α:Type} [DecidableEq κ]
def mins (lt : κ → κ → Bool) (x : κ) (a : α):List (κ × α) → List (κ × α)
 | []=>[(x,a)]
 | y :: l=>if lt x y.1 = true then (x,a) :: y :: l else y :: mins lt x a l
def Q7p (lt : κ → κ → Bool) (x : κ) (a : α) (l:List (κ × α)):List (κ × α):=match Q4P x l with
 | some _=>mput x a l
 | none=>mins lt x a l
omit [DecidableEq κ] in
theorem mins_perm (lt : κ → κ → Bool) (x : κ) (a : α) : ∀ (l:List (κ × α)),(mins lt x a l).Perm ((x,a) :: l)
 | []=>List.Perm.refl _
 | y :: l=>by
   unfold mins
   split
   · exact List.Perm.refl _
   · exact ((mins_perm lt x a l).cons y).trans (List.Perm.swap _ _ _)
theorem QaG {x : κ} {a : α} {l:List (κ × α)} (hn:(l.map (·.1)).Nodup):Q4P x l = some a ↔ (x,a) ∈ l :=
 ⟨mlook_mem,fun h=>by obtain ⟨i,hi⟩:=List.mem_iff_getElem?.1 h; exact mlook_at hn hi⟩
theorem Q8q {x : κ} {l l' : List (κ × α)} (h:l.Perm l') (hn:(l.map (·.1)).Nodup):Q4P x l = Q4P x l':=by
 have hn' : (l'.map (·.1)).Nodup:=(h.map _).nodup_iff.1 hn
 cases h1:Q4P x l with
 | some a=>exact ((QaG hn').2 (h.mem_iff.1 ((QaG hn).1 h1))).symm
 | none =>
   cases h2:Q4P x l' with
   | none=>rfl
   | some a=>rw [(QaG hn).2 (h.mem_iff.2 ((QaG hn').1 h2))] at h1; cases h1
theorem Q93 {x : κ} : ∀ {l:List (κ × α)},Q4P x l = none → x ∉ l.map (·.1)
 | [],_=>by simp
 | y :: l,h=>by
   unfold Q4P at h
   split at h
   · cases h
   ·rename_i hne
    simp only [List.map_cons,List.mem_cons,not_or]
    exact ⟨fun e=>hne e.symm,Q93 h⟩
theorem mdel_cons {x : κ} {b : α} : ∀ {l:List (κ × α)},Q4P x l = some b → l.Perm ((x,b) :: mdel x l)
 | [],h=>by cases h
 | y :: l,h=>by
   unfold Q4P at h
   unfold mdel
   split at h
   ·rename_i e
    rw [if_pos e]
    cases h
    subst e
    exact List.Perm.refl _
   ·rename_i hne
    rw [if_neg hne]
    exact ((mdel_cons h).cons y).trans (List.Perm.swap _ _ _)
theorem mput_cons {x : κ} {a b : α} : ∀ {l:List (κ × α)},Q4P x l = some b → (mput x a l).Perm ((x,a) :: mdel x l)
 | [],h=>by cases h
 | y :: l,h=>by
   unfold Q4P at h
   unfold mdel mput
   split at h
   ·rename_i e
    rw [if_pos e,if_pos e]
   ·rename_i hne
    rw [if_neg hne,if_neg hne]
    exact ((mput_cons h).cons y).trans (List.Perm.swap _ _ _)
theorem mdel_perm {x : κ} {l l' : List (κ × α)} (h:l.Perm l') (hn:(l.map (·.1)).Nodup):(mdel x l).Perm (mdel x l'):=by
 cases h1:Q4P x l with
 | none =>
   have h2:Q4P x l' = none:=by rw [← Q8q h hn]; exact h1
   rw [mdel_new (Q93 h1),mdel_new (Q93 h2)]; exact h
 | some b =>
   have h2:Q4P x l' = some b:=by rw [← Q8q h hn]; exact h1
   exact List.Perm.cons_inv (((mdel_cons h1).symm.trans h).trans (mdel_cons h2))
theorem mputP_perm (lt : κ → κ → Bool) {x : κ} {a : α} {l l' : List (κ × α)} (h:l.Perm l') (hn:(l.map (·.1)).Nodup):(mput x a l).Perm (Q7p lt x a l'):=by
 unfold Q7p
 rw [← Q8q h hn]
 cases h1:Q4P x l with
 | none => 
   show (mput x a l).Perm (mins lt x a l')
   rw [mput_new (Q93 h1)]
   exact (List.perm_append_comm.trans (h.cons _)).trans (mins_perm lt x a l').symm
 | some b =>
   have h2:Q4P x l' = some b:=by rw [← Q8q h hn]; exact h1
   show (mput x a l).Perm (mput x a l')
   exact ((mput_cons h1).trans ((mdel_perm h hn).cons _)).trans (mput_cons h2).symm
end
def MapP {κ α:Type} {P:Program} {k:TypeId} (K:KeyL P k κ) (ag:Bool) (R:Rep α) (N F:Q2a) (b:Nat) (es:List (κ × α)) (w:World):Prop:=∃ es0:List (κ × α),es0.Perm es ∧ MapE K ag R N F b es0 w
theorem MapP.good {κ α:Type} {P:Program} {k:TypeId} {K:KeyL P k κ} {ag:Bool} {R:Rep α} {b:Nat} {es:List (κ × α)} {N N' F G:Q2a} {w w' : World} (hN : ∀ k,N k → N' k) (ha:Q2b N w w') (hF : ∀ k,F k → G k) (hb:Q2b F w w') (h:MapP K ag R N F b es w):MapP K ag R N' G b es w':=by
 obtain ⟨es0,h1,h2⟩:=h
 exact ⟨es0,h1,h2.good hN ha hF hb⟩
def Q1Y {κ α:Type} {P:Program} {k:TypeId} (K:KeyL P k κ) (ag:Bool) (R:Rep α) (b:Nat) (es:List (κ × α)):Fact:=.duo (fun N F w=>MapP K ag R N F b es w) MapP.good
section rules
variable {P:Program} {C:Ctx} {n:Nat} {Q:Exit → Act → World → Prop} {Φ Φ' : List Fact} {H H' : List Fact} {S S' : List (Nat × Value)} {ops:Array Oper} {rest:List Oper} {o:Oper} {d:Nat}
variable {κ α:Type} [DecidableEq κ] {k:TypeId} {K:KeyL P k κ} {ag:Bool} {R:Rep α} {b g:Nat} {es:List (κ × α)}
omit [DecidableEq κ] in
theorem MapE.nodup {N F:Q2a} {w:World} (h:MapE K ag R N F b es w):(es.map (·.1)).Nodup:=by obtain ⟨_,_,_,_,_,_,h5,_⟩:=h; exact h5
omit [DecidableEq κ] in
theorem Q89 {t:Nat} (K:KeyL P k κ) (ag:Bool) (R:Rep α) (hg:Q1L ops S o = some true) (hd:o.dst = some d) (hn:Nat.blt d n = true) (hS:Q2r d S = S') (ho:o.op = .makeMap t none)
  (next : ∀ g,WL P C n Q Φ (Q1Y K ag R g [] :: H) ((d,.map (some g)) :: S') ops rest):WL P C n Q Φ H S ops (o :: rest) :=
 Q72 hg hd hn hS fun a w hf hw=>⟨.map (some w.heap.size),w.alloc (.map #[] 0),(by simp [execOp,ho,run_makeMap]),Φ,Q1Y K ag R w.heap.size [] :: H,by
  obtain ⟨F,N,hi⟩:=hw.allocMapE K ag R
  have h0:MapE K ag R (N 0) F w.heap.size [] (w.alloc (.map #[] 0)):=hi.owns 0 _ rfl
  exact ⟨F,N,hi.set 0 (by simp) (Mod.refl _ _) (Q1Y K ag R w.heap.size []) (⟨[],List.Perm.refl _,h0⟩ : MapP K ag R (N 0) F w.heap.size [] _)⟩,next _⟩
theorem Qan {t e:Nat} {x y:Operand} {i : κ} {z v:Value} {c:Bool} (j:Nat) (hg:Q1L ops S o = some true) (hd:o.dst = some d) (hn:Nat.blt d n = true) (hS:Q2r d S = S') (ho:o.op = .lookup t x y c)
  (hφ:H[j]? = some (Q1Y K ag R b es)) (hx:evS S x = some (.map (some b))) (hy:evS S y = some (K.enc i)) (hz:Q6I P e = some z) (ht:P.underlying t = some (.map k e)) (hi:K.ok i) (hm:Q4P i es = none)
  (hv:(if c then .tuple #[z,.bool false] else z) = v) (next:WL P C n Q Φ H ((d,v) :: S') ops rest):WL P C n Q Φ H S ops (o :: rest):=by
 refine Q8l hg hd hn hS (fun a w hf hw=>?_) next
 obtain ⟨F,N,hi'⟩:=hw
 obtain ⟨es0,hp,h0⟩ : MapP K ag R (N j) F b es w:=hi'.owns j _ hφ
 have:=h0.lookNo c hi ht hz (by rw [Q8q hp h0.nodup]; exact hm)
 rw [hv] at this
 simp [execOp,ho,hf.eval hx,hf.eval hy,this]
theorem Q9O {t e:Nat} {x y:Operand} {i : κ} {a : α} {Λ:Type} {cells : α → Λ → List Value} {pure : α → Λ → Prop} {facts : α → Λ → List Fact} {c:Bool} {v u : Λ → Value} (op:Q7L R cells pure facts) (j:Nat) (hg:Q1L ops S o = some true) (hd:o.dst = some d) (hn:Nat.blt d n = true) (hS:Q2r d S = S') (ho:o.op = .lookup t x y c)
  (hφ:H[j]? = some (Q1Y K ag R b es)) (hx:evS S x = some (.map (some b))) (hy:evS S y = some (K.enc i)) (ht:P.underlying t = some (.map k e)) (hi:K.ok i) (hm:Q4P i es = some a)
  (hu : ∀ r,Q86 ag (cells a r) = some (u r)) (hv : ∀ r,(if c then .tuple #[u r,.bool true] else u r) = v r) (next : ∀ r,pure a r → WL P C n Q (facts a r ++ Φ) H ((d,v r) :: S') ops rest):WL P C n Q Φ H S ops (o :: rest):=by
 refine Q72 hg hd hn hS fun ac w hf hw=>?_
 obtain ⟨F,N,hi'⟩:=hw
 obtain ⟨es0,hp,h0⟩ : MapP K ag R (N j) F b es w:=hi'.owns j _ hφ
 obtain ⟨v0,cs,h1,h2,h3⟩:=h0.lookYes c hi ht (by rw [Q8q hp h0.nodup]; exact hm)
 obtain ⟨r,q1,q2,q3⟩:=op F w cs a h3
 subst q1
 rw [hu r] at h2; cases h2
 rw [hv r] at h1
 refine ⟨v r,w,?_,facts a r ++ Φ,H,⟨F,N,{ hi' with facts:=fun φ hφ'=>?_ }⟩,next r q2⟩
 · simp [execOp,ho,hf.eval hx,hf.eval hy,h1]
 ·rcases List.mem_append.1 hφ' with hφ' | hφ'
  · exact q3 φ hφ'
  · exact hi'.facts φ hφ'
theorem Q81 {t e:Nat} {x y z:Operand} {i : κ} {u : α} {cs:List Value} {v:Value} (lt : κ → κ → Bool) (j:Nat) (hg:Q1L ops S o = some true) (hd:o.dst = none) (ho:o.op = .mapUpdate t x y z ∨ o.op = .insert t x y z)
  (hφ:H[j]? = some (Q1Y K ag R b es)) (hx:evS S x = some (.map (some b))) (hy:evS S y = some (K.enc i)) (hz:evS S z = some v) (ht:P.underlying t = some (.map k e)) (hi:K.ok i) (hv:Q86 ag cs = some v)
  (hr : ∀ F w,(∀ ψ ∈ Φ,ψ.p F w) → R.p F w cs u) (hH:H.set j (Q1Y K ag R b (Q7p lt i u es)) = H') (next:WL P C n Q Φ H' S ops rest):WL P C n Q Φ H S ops (o :: rest):=by
 refine wl_do (Φ':=Φ) hg hd (fun a w hf hw=>?_) next
 obtain ⟨F,N,hi'⟩:=hw
 have hlt:=(List.getElem?_eq_some_iff.1 hφ).1
 obtain ⟨es0,hp,h0⟩ : MapP K ag R (N j) F b es w:=hi'.owns j _ hφ
 obtain ⟨w',r1,r2,r3⟩:=h0.put (u:=u) hi ht hv
 refine ⟨w',by rcases ho with ho | ho <;> simp [execOp,ho,hf.eval hx,hf.eval hy,hf.eval hz,r1],?_⟩
 subst hH
 have hag:Q2b F w w':=fun q hq=>r2.block q (hi'.flt q hq) (fun hn=>(hi'.nlt j q hlt hn).2.2 hq)
 exact ⟨F,N,hi'.set j hlt r2 _ ⟨_,mputP_perm lt hp h0.nodup,r3 (R.good (fun _ h=>h) hag (hr F w hi'.facts)) (fun _ _ h=>R.good (fun _ h=>h) hag h)⟩⟩
def ltB (a b:ByteArray):Bool:=decide (a.data.toList < b.data.toList)
end rules
end Go.Proofs.YtgangmegcejllaaGreatDoor
