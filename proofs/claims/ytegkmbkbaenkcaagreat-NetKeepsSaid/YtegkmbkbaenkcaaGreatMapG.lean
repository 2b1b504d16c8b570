import Derived.Test.YtegkmbkbaenkcaaGreatTree
import Derived.Test.YtegkmbkbaenkcaaGreatMapK
import Derived.Test.YtegkmbkbaenkcaaGreatMapP
import Derived.Test.YtegkmbkbaenkcaaGreatStr
namespace Go.Proofs.YtegkmbkbaenkcaaGreat
open Go Go.RowKit
def keyOfK {κ : Type} {P : Program} {k : TypeId} (K : MKey P k κ) : KeyL P k κ where
  enc := K.enc
  ok := K.ok
  check := fun hx b w => K.law.check w b (K.key _ hx)
  find := fun {x} hx es ks h hks w => by
    have hall : ∀ e ∈ es, ∃ l, keyOf P k e.key = some l := fun e he => by
      have h1 : e.key ∈ ks.map K.enc := by rw [← h]; exact List.mem_map.2 ⟨e, he, rfl⟩
      obtain ⟨y, hy, e1⟩ := List.mem_map.1 h1
      exact ⟨K.lit y, by rw [← e1]; exact K.key y (hks y hy)⟩
    rcases K.law.find w (K.key x hx) es hall with ⟨h1, h2⟩ | ⟨j, e, h1, h2, h3⟩
    · refine ⟨none, h1, .inl ⟨rfl, fun hm => ?_⟩⟩
      have h4 : K.enc x ∈ es.map (·.key) := by rw [h]; exact List.mem_map.2 ⟨x, hm, rfl⟩
      obtain ⟨e, he, e1⟩ := List.mem_map.1 h4
      exact h2 e he e1
    · refine ⟨some (j, e.val), h1, .inr ⟨j, e, rfl, h2, ?_⟩⟩
      have h4 : (es.map (·.key))[j]? = some e.key := by rw [List.getElem?_map, h2]; rfl
      rw [h, List.getElem?_map, h3] at h4
      cases hk : ks[j]? with
      | none => rw [hk] at h4; cases h4
      | some y =>
        rw [hk] at h4
        simp only [Option.map_some, Option.some.injEq] at h4
        rw [K.inj _ _ h4]
  stays := fun hx w => K.law.stays w (K.key _ hx)
section
variable {κ α : Type} [DecidableEq κ]
theorem mlook_mput {x : κ} {a : α} : ∀ {l : List (κ × α)}, mlook x (mput x a l) = some a
  | [] => by simp [mput, mlook]
  | y :: l => by
    unfold mput
    split
    · simp [mlook]
    · rename_i h
      unfold mlook
      rw [if_neg h]; exact mlook_mput
theorem mlook_mput_ne {x y : κ} {a : α} (hxy : y ≠ x) : ∀ {l : List (κ × α)}, mlook y (mput x a l) = mlook y l
  | [] => by simp [mput, mlook, Ne.symm hxy]
  | z :: l => by
    unfold mput
    split
    · rename_i h
      unfold mlook
      rw [if_neg (Ne.symm hxy), if_neg (by rw [h]; exact Ne.symm hxy)]
    · unfold mlook
      split
      · rfl
      · exact mlook_mput_ne hxy
theorem mlook_mdel {x : κ} : ∀ {l : List (κ × α)}, (l.map (·.1)).Nodup → mlook x (mdel x l) = none
  | [], _ => rfl
  | z :: l, h => by
    simp only [List.map_cons, List.nodup_cons] at h
    unfold mdel
    split
    · rename_i e; subst e; exact mlook_none h.1
    · rename_i e; unfold mlook; rw [if_neg e]; exact mlook_mdel h.2
theorem mlook_mdel_ne {x y : κ} (hxy : y ≠ x) : ∀ {l : List (κ × α)}, mlook y (mdel x l) = mlook y l
  | [] => rfl
  | z :: l => by
    unfold mdel
    split
    · rename_i h
      conv => rhs; unfold mlook
      rw [if_neg (by rw [h]; exact Ne.symm hxy)]
    · unfold mlook
      split
      · rfl
      · exact mlook_mdel_ne hxy
theorem mlook_keysP {β : Type} {x : κ} {l : List (κ × α)} {m : List (κ × β)} (h : (l.map (·.1)).Perm (m.map (·.1))) : mlook x l = none ↔ mlook x m = none := by
  constructor
  · intro q; exact mlook_none (fun hm => mlook_isNone q (h.mem_iff.2 hm))
  · intro q; exact mlook_none (fun hm => mlook_isNone q (h.mem_iff.1 hm))
theorem mput_keysP {β : Type} {x : κ} {a : α} {c : β} {l : List (κ × α)} {m : List (κ × β)} (h : (l.map (·.1)).Perm (m.map (·.1))) : ((mput x a l).map (·.1)).Perm ((mput x c m).map (·.1)) := by
  cases h1 : mlook x l with
  | none =>
    have h2 := (mlook_keysP h).1 h1
    rw [mput_new (mlook_isNone h1), mput_new (mlook_isNone h2)]
    simp only [List.map_append, List.map_cons, List.map_nil]
    exact h.append_right _
  | some u =>
    cases h2 : mlook x m with
    | none => rw [(mlook_keysP h).2 h2] at h1; cases h1
    | some v => rw [mput_old_keys h1, mput_old_keys h2]; exact h
theorem mdel_keysP {β : Type} {x : κ} {l : List (κ × α)} {m : List (κ × β)} (h : (l.map (·.1)).Perm (m.map (·.1))) : ((mdel x l).map (·.1)).Perm ((mdel x m).map (·.1)) := by
  cases h1 : mlook x l with
  | none =>
    have h2 := (mlook_keysP h).1 h1
    rw [mdel_new (mlook_isNone h1), mdel_new (mlook_isNone h2)]; exact h
  | some u =>
    cases h2 : mlook x m with
    | none => rw [(mlook_keysP h).2 h2] at h1; cases h1
    | some v =>
      have e1 := (mdel_cons h1).map (·.1)
      have e2 := (mdel_cons h2).map (·.1)
      exact List.Perm.cons_inv (e1.symm.trans (h.trans e2))
end
def FormT {α : Type} (T : Value → List α → Fact) : Prop := (∀ N F w v l, (T v l).op N F w → ∃ p c, v = .slice p l.length c) ∧ ∀ F w, (T (.slice none 0 0) []).op (fun _ => False) F w
theorem form_own {α : Type} {e sz : Nat} {R : Rep α} : FormT (Fact.own e sz R) := by
  refine ⟨fun N F w v l h => ?_, fun F w => ⟨fun k hk => (by cases hk), OwnL.nil⟩⟩
  obtain ⟨_, xs, ho, hch⟩ := h
  rcases ho.2 with ⟨q1, q2⟩ | ⟨g, cap, cur, hv, _⟩
  · exact ⟨none, 0, by rw [q1, q2]⟩
  · exact ⟨_, _, hv⟩
theorem form_tree {α Λ : Type} {T : Tre α Λ} {e sz : Nat} : FormT (treeF T e sz) := by
  refine ⟨fun N F w v l h => ?_, fun F w => nil_tree⟩
  obtain ⟨zs, A, B, h0, _, _, h, _⟩ : TreeP T e sz v l N F w := h
  obtain ⟨p, c, rfl⟩ := form_own.1 _ _ _ _ _ h
  exact ⟨p, c, by rw [← h0, List.length_map]⟩
def MapG {κ α : Type} [DecidableEq κ] {P : Program} {k : TypeId} (K : KeyL P k κ) (T : Value → List α → Fact) (o : Option (κ × Value)) (b : Nat) (es : List (κ × List α)) (N F : Foot) (w : World) : Prop :=
  ∃ (zs : List (κ × Value)) (N0 : Foot) (Ns : κ → Foot), MapE K false valRep N0 F b zs w ∧ (zs.map (·.1)).Perm (es.map (·.1)) ∧ (∀ q, N0 q → N q) ∧ (∀ x q, Ns x q → N q ∧ ¬ N0 q) ∧ (∀ x y q, x ≠ y → Ns x q → ¬ Ns y q) ∧
    (∀ x v l, mlook x zs = some v → mlook x es = some l → (∀ xv, o = some xv → x ≠ xv.1) → (T v l).op (Ns x) F w) ∧ (∀ xv, o = some xv → (mlook xv.1 zs).getD (.slice none 0 0) = xv.2)
section
variable {κ α : Type} [DecidableEq κ] {P : Program} {k : TypeId} {K : KeyL P k κ} {T : Value → List α → Fact} {o : Option (κ × Value)} {b : Nat} {es : List (κ × List α)}
theorem MapG.good {N N' F G : Foot} {w w' : World} (hN : ∀ k, N k → N' k) (ha : Agree N w w') (hF : ∀ k, F k → G k) (hb : Agree F w w') (h : MapG K T o b es N F w) : MapG K T o b es N' G w' := by
  obtain ⟨zs, N0, Ns, h1, h2, h3, h4, h5, h6, h7⟩ := h
  exact ⟨zs, N0, Ns, h1.good (fun _ h => h) (fun q hq => ha q (h3 q hq)) hF hb, h2, fun q hq => hN q (h3 q hq), fun i q hq => ⟨hN q (h4 i q hq).1, (h4 i q hq).2⟩, h5,
    fun i z y hz hy hc => Fact.opgood _ (fun _ h => h) (fun q hq => ha q (h4 i q hq).1) hF hb (h6 i z y hz hy hc), h7⟩
def mapG (K : KeyL P k κ) (T : Value → List α → Fact) (o : Option (κ × Value)) (b : Nat) (es : List (κ × List α)) : Fact := .duo (fun N F w => MapG K T o b es N F w) MapG.good
theorem MapG.open_ (hT : FormT T) {N F : Foot} {w : World} {x : κ} {l : List α} (h : MapG K T none b es N F w) (hm : (mlook x es).getD [] = l) :
    ∃ (r : Option Addr × Nat) (A B : Foot), (∀ q, A q → N q) ∧ (∀ q, B q → N q ∧ ¬ A q) ∧ (mapG K T (some (x, .slice r.1 l.length r.2)) b es).op B F w ∧ (T (.slice r.1 l.length r.2) l).op A F w := by
  obtain ⟨zs, N0, Ns, h1, h2, h3, h4, h5, h6, h7⟩ := h
  cases hm' : mlook x es with
  | none =>
    rw [hm'] at hm
    simp only [Option.getD_none] at hm
    subst hm
    have hmz := (mlook_keysP h2).2 hm'
    refine ⟨(none, 0), fun _ => False, N, fun q hq => hq.elim, fun q hq => ⟨hq, fun h => h⟩, ⟨zs, N0, Ns, h1, h2, h3, h4, h5, fun y v l hy hl _ => h6 y v l hy hl (fun xv q => by cases q), fun xv q => ?_⟩, hT.2 F w⟩
    cases q
    show (mlook x zs).getD _ = _
    rw [hmz]; rfl
  | some l' =>
    rw [hm'] at hm
    simp only [Option.getD_some] at hm
    subst hm
    cases hmz : mlook x zs with
    | none => rw [(mlook_keysP h2).1 hmz] at hm'; cases hm'
    | some v =>
      have hown := h6 x v l' hmz hm' (fun xv q => by cases q)
      obtain ⟨p, c, rfl⟩ := hT.1 _ _ _ _ _ hown
      refine ⟨(p, c), Ns x, fun q => N q ∧ ¬ Ns x q, fun q hq => (h4 x q hq).1, fun q hq => hq, ⟨zs, N0, fun y q => Ns y q ∧ y ≠ x, h1, h2, fun q hq => ⟨h3 q hq, fun hn => (h4 x q hn).2 hq⟩, fun y q hq => ⟨⟨(h4 y q hq.1).1, fun hn => h5 y x q hq.2 hq.1 hn⟩, (h4 y q hq.1).2⟩, fun y y' q hne hq hq' => h5 y y' q hne hq.1 hq'.1, fun y v l hy hl hc => ?_, fun xv q => ?_⟩, hown⟩
      · have hyx : y ≠ x := hc _ rfl
        exact Fact.opgood _ (fun q hq => ⟨hq, hyx⟩) (Agree.refl _ _) (fun _ h => h) (Agree.refl _ _) (h6 y v l hy hl (fun xv q => by cases q))
      · cases q
        show (mlook x zs).getD _ = _
        rw [hmz]; rfl
theorem MapG.put {N F : Foot} {w : World} {t f : TypeId} {x : κ} {v : Value} (ho : o = none ∨ ∃ v0, o = some (x, v0)) (h : MapG K T o b es N F w) (hx : K.ok x) (ht : P.underlying t = some (.map k f)) (hv : v.oneCell' = true)
    (hlt : ∀ q, N q → q < w.heap.size) (hF : ∀ q, F q → q < w.heap.size ∧ ¬ N q) (l0 : List α) :
    ∃ w', (Instr.mapUpdate t (.map (some b)) (K.enc x) v).run P w = .ok () w' ∧ Mod N w w' ∧ MapG K T (some (x, v)) b (mput x l0 es) N F w' := by
  obtain ⟨zs, N0, Ns, h1, h2, h3, h4, h5, h6, h7⟩ := h
  obtain ⟨w', r1, r2, r3⟩ := h1.put (u := v) (cs := [v]) (v := v) hx ht rfl
  refine ⟨w', r1, r2.mono fun q _ hq => h3 q hq, mput x v zs, N0, Ns, r3 ⟨rfl, hv⟩ (fun _ _ h => h), mput_keysP h2, h3, h4, h5, fun y u l hy hl hc => ?_, fun xv q => ?_⟩
  · have hyx : y ≠ x := hc _ rfl
    rw [mlook_mput_ne hyx] at hy hl
    have hop := h6 y u l hy hl (fun xv q => by
      rcases ho with rfl | ⟨v0, rfl⟩
      · cases q
      · cases q; exact hyx)
    exact Fact.opgood _ (fun _ h => h) (fun q hq => r2.block q (hlt q (h4 y q hq).1) (fun hn => (h4 y q hq).2 hn)) (fun _ h => h) (fun q hq => r2.block q (hF q hq).1 (fun hn => (hF q hq).2 (h3 q hn))) hop
  · cases q
    show (mlook x (mput x v zs)).getD _ = v
    rw [mlook_mput]; rfl
theorem MapG.close_ {A B F : Foot} {w : World} {x : κ} {v : Value} {l : List α} (h : MapG K T (some (x, v)) b es A F w) (hr : (T v l).op B F w) (hd : ∀ q, A q → ¬ B q) (hm : (mlook x es).getD [] = l) : MapG K T none b es (fun q => A q ∨ B q) F w := by
  obtain ⟨zs, N0, Ns, h1, h2, h3, h4, h5, h6, h7⟩ := h
  have hv := h7 _ rfl
  simp only at hv
  refine ⟨zs, N0, fun y q => if y = x then B q else Ns y q, h1, h2, fun q hq => .inl (h3 q hq), fun y q hq => ?_, fun y y' q hne hq hq' => ?_, fun y u m hy hl _ => ?_, fun xv q => by cases q⟩
  · dsimp only at hq
    split at hq
    · exact ⟨.inr hq, fun hn => hd q (h3 q hn) hq⟩
    · exact ⟨.inl (h4 y q hq).1, (h4 y q hq).2⟩
  · dsimp only at hq hq'
    by_cases hi : y = x
    · rw [if_pos hi] at hq
      by_cases hj : y' = x
      · exact hne (hi.trans hj.symm)
      · rw [if_neg hj] at hq'; exact hd q (h4 y' q hq').1 hq
    · rw [if_neg hi] at hq
      by_cases hj : y' = x
      · rw [if_pos hj] at hq'; exact hd q (h4 y q hq).1 hq'
      · rw [if_neg hj] at hq'; exact h5 y y' q hne hq hq'
  · by_cases hi : y = x
    · subst hi
      rw [hy] at hv
      rw [hl] at hm
      simp only [Option.getD_some] at hv hm
      subst hv; subst hm
      simp only [if_true]
      exact hr
    · simp only [if_neg hi]
      exact h6 y u m hy hl (fun xv q => by cases q; exact hi)
theorem MapG.del {N F : Foot} {w : World} {t f : TypeId} {x : κ} {v : Value} (h : MapG K T (some (x, v)) b es N F w) (hx : K.ok x) (ht : P.underlying t = some (.map k f))
    (hlt : ∀ q, N q → q < w.heap.size) (hF : ∀ q, F q → q < w.heap.size ∧ ¬ N q) (ty : TypeId) :
    ∃ w', (Builtin.delete_ #[t, k] ty #[.map (some b), K.enc x]).run P w = .ok (.tuple #[]) w' ∧ Mod N w w' ∧ MapG K T none b (mdel x es) N F w' := by
  obtain ⟨zs, N0, Ns, h1, h2, h3, h4, h5, h6, h7⟩ := h
  have hne : (es.map (·.1)).Nodup := h2.nodup_iff.1 h1.nodup
  have hcase : ∃ w', (Builtin.delete_ #[t, k] ty #[.map (some b), K.enc x]).run P w = .ok (.tuple #[]) w' ∧ Mod N0 w w' ∧ MapE K false valRep N0 F b (mdel x zs) w' := by
    cases hm : mlook x zs with
    | none => exact ⟨w, h1.delNo hx ht hm ty, Mod.refl _ _, by rw [mdel_new (mlook_isNone hm)]; exact h1⟩
    | some u =>
      obtain ⟨w', r1, r2, r3⟩ := h1.del hx ht hm ty
      exact ⟨w', r1, r2, r3 (fun _ _ h => h)⟩
  obtain ⟨w', r1, r2, r3⟩ := hcase
  refine ⟨w', r1, r2.mono fun q _ hq => h3 q hq, mdel x zs, N0, Ns, r3, mdel_keysP h2, h3, h4, h5, fun y u m hy hl _ => ?_, fun xv q => by cases q⟩
  by_cases hyx : y = x
  · subst hyx
    rw [mlook_mdel hne] at hl; cases hl
  · rw [mlook_mdel_ne hyx] at hy hl
    have hop := h6 y u m hy hl (fun xv q => by cases q; exact hyx)
    exact Fact.opgood _ (fun _ h => h) (fun q hq => r2.block q (hlt q (h4 y q hq).1) (fun hn => (h4 y q hq).2 hn)) (fun _ h => h) (fun q hq => r2.block q (hF q hq).1 (fun hn => (hF q hq).2 (h3 q hn))) hop
def RowsG (T : Value → List α → Fact) (zs : List (κ × Value)) (es : List (κ × List α)) (N F : Foot) (w : World) : Prop :=
  ∃ Ns : κ → Foot, (∀ x q, Ns x q → N q) ∧ (∀ x y q, x ≠ y → Ns x q → ¬ Ns y q) ∧ ∀ x v l, mlook x zs = some v → mlook x es = some l → (T v l).op (Ns x) F w
theorem RowsG.good {zs : List (κ × Value)} {N N' F G : Foot} {w w' : World} (hN : ∀ k, N k → N' k) (ha : Agree N w w') (hF : ∀ k, F k → G k) (hb : Agree F w w') (h : RowsG T zs es N F w) : RowsG T zs es N' G w' := by
  obtain ⟨Ns, h4, h5, h6⟩ := h
  exact ⟨Ns, fun i q hq => hN q (h4 i q hq), h5, fun x v l hz hy => Fact.opgood _ (fun _ h => h) (fun q hq => ha q (h4 x q hq)) hF hb (h6 x v l hz hy)⟩
end
theorem mput_mput {κ β : Type} [DecidableEq κ] {x : κ} {a c : β} : ∀ {l : List (κ × β)}, mput x a (mput x c l) = mput x a l
  | [] => by simp [mput]
  | y :: l => by
    by_cases h : y.1 = x
    · simp [mput, h]
    · have e1 : mput x c (y :: l) = y :: mput x c l := by show (if y.1 = x then _ else _) = _; rw [if_neg h]
      rw [e1]
      show (if y.1 = x then _ else _) = (if y.1 = x then _ else _)
      rw [if_neg h, if_neg h, mput_mput]
theorem modify_same {γ : Type} {E : Array γ} {i : Nat} {e : γ} {f : γ → γ} (h : E.toList[i]? = some e) (hf : f e = e) : E.modify i f = E := by
  apply Array.toList_inj.1
  rw [modify_list h, hf]
  exact set_get h
theorem modify_eq {γ : Type} {E : Array γ} {i : Nat} {e : γ} {f f' : γ → γ} (h : E.toList[i]? = some e) (hf : f e = f' e) : E.modify i f = E.modify i f' := by
  apply Array.toList_inj.1
  rw [modify_list h, modify_list h, hf]
theorem KeyL.inj {κ : Type} {P : Program} {k : TypeId} (K : KeyL P k κ) {x x' : κ} (hx : K.ok x) (hx' : K.ok x') (h : K.enc x = K.enc x') (w : World) : x = x' := by
  obtain ⟨r, p1, p2⟩ := K.find hx [{ key := K.enc x, val := .bool false, born := 0 }] [x] rfl (fun y hy => by simp at hy; subst hy; exact hx) w
  obtain ⟨r', p3, p4⟩ := K.find hx [{ key := K.enc x, val := .bool false, born := 0 }] [x'] (by simp [h]) (fun y hy => by simp at hy; subst hy; exact hx') w
  rw [p1] at p3
  cases p3
  rcases p2 with ⟨rfl, q⟩ | ⟨i, e, rfl, _, _⟩
  · exact absurd (by simp) q
  · rcases p4 with ⟨q, _⟩ | ⟨j, e', _, _, q⟩
    · cases q
    · have hj : j = 0 := by
        have := (List.getElem?_eq_some_iff.1 q).1
        simp at this; exact this
      subst hj
      simpa using q.symm
section
variable {κ : Type} [DecidableEq κ] {P : Program} {k : TypeId} {K : KeyL P k κ} {b : Nat}
theorem MapE.entry {N F : Foot} {w : World} {t e : TypeId} {x : κ} {zs : List (κ × Value)} {z : Value} (h : MapE K false valRep N F b zs w) (hx : K.ok x) (ht : P.underlying t = some (.map k e)) (hz : tZero P e = some z) (hz1 : z.oneCell' = true) :
    ∃ (B : Nat) (w' : World), (Instr.mapEntry t (.map (some b)) (K.enc x)).run P w = .ok (.tuple #[(mlook x zs).getD z, .int .i64 B]) w' ∧ Mod N w w' ∧ MapE K false valRep N F b (mput x ((mlook x zs).getD z) zs) w' ∧
      ∃ (E : Array MapEntry) (clock : Nat) (en : MapEntry), w'.heap[b]? = some (.map E clock) ∧ en ∈ E.toList ∧ en.key = K.enc x ∧ en.born = B := by
  obtain ⟨hN, E, clock, h2, h3, h4, h5, h6, h7, h8⟩ := id h
  obtain ⟨E', clock', g1, g2, g3⟩ := h.find hx
  rw [h2] at g1; cases g1
  rcases g3 with ⟨q1, q2, q3⟩ | ⟨i, e', a, cs', q1, q2, q3, q4, q5, q6⟩
  · rw [q2]
    obtain ⟨w', r1, r2, r3⟩ := h.put (u := z) (cs := [z]) (v := z) hx ht rfl
    have hrun : (Instr.mapUpdate t (.map (some b)) (K.enc x) z).run P w = .ok () { w with heap := w.heap.setIfInBounds b (.map (E.push { key := K.enc x, val := z, born := clock }) (clock + 1)) } := by
      unfold Instr.mapUpdate
      simp only [Sem.run_bind, run_underlying ht, Result.andThen, getObj_at h2, K.check hx, q1]
      exact setObj_at _ h2
    rw [hrun] at r1
    cases r1
    have hlt := (Array.getElem?_eq_some_iff.1 h2).1
    refine ⟨clock, _, ?_, r2, r3 ⟨rfl, hz1⟩ (fun _ _ h => h), E.push { key := K.enc x, val := z, born := clock }, clock + 1, { key := K.enc x, val := z, born := clock }, by simp [Array.getElem?_setIfInBounds, hlt], by simp, rfl, rfl⟩
    unfold Instr.mapEntry
    simp only [Sem.run_bind, run_underlying ht, Result.andThen, getObj_at h2, K.check hx, q1, tZero_run hz w, setObj_at _ h2]
    rfl
  · have e2 : E[i]? = some e' := by simpa using q2
    have hkey : e'.key = K.enc x := by
      have e1 : (E.toList.map (·.key))[i]? = some e'.key := by rw [List.getElem?_map, q2]; rfl
      rw [h3, List.getElem?_map, q3] at e1
      simp only [Option.map_some, Option.some.injEq] at e1
      exact e1.symm
    have hav : a = e'.val := by
      obtain ⟨rfl, _⟩ := q6
      simpa [valOf] using q5
    subst hav
    rw [q4]
    refine ⟨e'.born, w, ?_, Mod.refl _ _, ?_, E, clock, e', h2, List.mem_of_getElem? q2, hkey, rfl⟩
    · unfold Instr.mapEntry
      simp only [Sem.run_bind, run_underlying ht, Result.andThen, getObj_at h2, K.check hx, q1, e2, Option.map_some, Option.getD_some, hkey, K.stays hx]
      rw [modify_same q2 (by rw [← hkey]), setObj_at _ h2, set_same h2]
      rfl
    · show MapE K false valRep N F b (mput x e'.val zs) w
      rw [mput_at h5 q3, set_get q3]; exact h
theorem MapE.store {N F : Foot} {w : World} {t e : TypeId} {x : κ} {zs : List (κ × Value)} {v : Value} {E : Array MapEntry} {clock : Nat} {en : MapEntry} (h : MapE K false valRep N F b zs w) (hx : K.ok x) (ht : P.underlying t = some (.map k e)) (hv : v.oneCell' = true)
    (hE : w.heap[b]? = some (.map E clock)) (hen : en ∈ E.toList) (hkey : en.key = K.enc x) :
    ∃ w', (Instr.entryStore t (.map (some b)) (.int .i64 en.born) v).run P w = .ok () w' ∧ Mod N w w' ∧ MapE K false valRep N F b (mput x v zs) w' := by
  obtain ⟨hN, E', clock', h2, h3, h4, h5, h6, h7, h8⟩ := id h
  rw [hE] at h2; cases h2
  obtain ⟨w', r1, r2, r3⟩ := h.put (u := v) (cs := [v]) (v := v) hx ht rfl
  refine ⟨w', ?_, r2, r3 ⟨rfl, hv⟩ (fun _ _ h => h)⟩
  obtain ⟨E'', clock'', g1, g2, g3⟩ := h.find hx
  rw [hE] at g1; cases g1
  obtain ⟨j, hj⟩ := List.mem_iff_getElem?.1 hen
  have hlen : E.toList.length = zs.length := by simpa using congrArg List.length h3
  have hjl := (List.getElem?_eq_some_iff.1 hj).1
  have hjz : zs[j]? = some zs[j] := List.getElem?_eq_getElem (by omega)
  have hjk : zs[j].1 = x := by
    have e1 : (E.toList.map (·.key))[j]? = some (K.enc x) := by rw [List.getElem?_map, hj, ← hkey]; rfl
    rw [h3, List.getElem?_map, hjz] at e1
    simp only [Option.map_some, Option.some.injEq] at e1
    exact K.inj (h6 _ (List.mem_of_getElem? hjz)) hx e1 w
  rcases g3 with ⟨q1, q2, q3⟩ | ⟨i, e', a, cs', q1, q2, q3, q4, q5, q6⟩
  · exact absurd (List.mem_map.2 ⟨_, List.mem_of_getElem? hjz, hjk⟩) q3
  · have hij : j = i := nodupG h5 (a := x) (by rw [List.getElem?_map, hjz]; simp [hjk]) (by rw [List.getElem?_map, q3]; rfl)
    subst hij
    rw [hj] at q2; cases q2
    have e2 : E[j]? = some en := by simpa using hj
    have hfind : E.findIdx? (fun e => (e.born : Int) == (en.born : Int)) = some j := by
      have hjE : j < E.size := by simpa using hjl
      refine Array.findIdx?_eq_some_iff_getElem.2 ⟨hjE, ?_, fun m hm => ?_⟩
      · have : E[j] = en := by rw [Array.getElem?_eq_getElem hjE] at e2; exact Option.some.inj e2
        simp [this]
      · have hmE : m < E.size := by omega
        intro hb
        have hb' : (E[m]).born = en.born := by
          have h9 := eq_of_beq hb
          exact Int.ofNat.inj h9
        have : m = j := nodupG h7 (a := en.born) (by rw [List.getElem?_map]; simp [Array.getElem?_eq_getElem hmE, hb']) (by rw [List.getElem?_map, hj]; rfl)
        omega
    have hrun : (Instr.mapUpdate t (.map (some b)) (K.enc x) v).run P w = .ok () { w with heap := w.heap.setIfInBounds b (.map (E.modify j fun e => { e with key := K.enc x, val := v }) clock) } := by
      unfold Instr.mapUpdate
      simp only [Sem.run_bind, run_underlying ht, Result.andThen, getObj_at hE, K.check hx, q1, e2, Option.map_some, Option.getD_some, hkey, K.stays hx]
      exact setObj_at _ hE
    rw [hrun] at r1
    cases r1
    unfold Instr.entryStore
    simp only [Sem.run_bind, Result.andThen, getObj_at hE, asInt, asIntOf, Sem.run_pure, hfind]
    rw [setObj_at _ hE, modify_eq (f' := fun e => { e with key := K.enc x, val := v }) hj (by rw [← hkey])]
end
def MapH {κ α : Type} [DecidableEq κ] {P : Program} {k : TypeId} (K : KeyL P k κ) (T : Value → List α → Fact) (x : κ) (v : Value) (B : Nat) (b : Nat) (es : List (κ × List α)) (N F : Foot) (w : World) : Prop :=
  N b ∧ (∃ l0, MapG K T (some (x, v)) b (mput x l0 es) N F w) ∧ ∃ (E : Array MapEntry) (clock : Nat) (en : MapEntry), w.heap[b]? = some (.map E clock) ∧ en ∈ E.toList ∧ en.key = K.enc x ∧ en.born = B
section
variable {κ α : Type} [DecidableEq κ] {P : Program} {k : TypeId} {K : KeyL P k κ} {T : Value → List α → Fact} {x : κ} {v : Value} {B b : Nat} {es : List (κ × List α)}
theorem MapH.good {N N' F G : Foot} {w w' : World} (hN : ∀ k, N k → N' k) (ha : Agree N w w') (hF : ∀ k, F k → G k) (hb : Agree F w w') (h : MapH K T x v B b es N F w) : MapH K T x v B b es N' G w' := by
  obtain ⟨h0, ⟨l0, h1⟩, E, clock, en, h2, h3⟩ := h
  exact ⟨hN _ h0, ⟨l0, h1.good hN ha hF hb⟩, E, clock, en, (ha _ h0).trans h2, h3⟩
def mapH (K : KeyL P k κ) (T : Value → List α → Fact) (x : κ) (v : Value) (B b : Nat) (es : List (κ × List α)) : Fact := .duo (fun N F w => MapH K T x v B b es N F w) MapH.good
theorem MapG.entry {N F : Foot} {w : World} {t f : TypeId} (h : MapG K T (some (x, v)) b es N F w) (hx : K.ok x) (ht : P.underlying t = some (.map k f)) (hz : tZero P f = some (.slice none 0 0)) (hv : v.oneCell' = true)
    (hlt : ∀ q, N q → q < w.heap.size) (hF : ∀ q, F q → q < w.heap.size ∧ ¬ N q) :
    ∃ (B : Nat) (w' : World), (Instr.mapEntry t (.map (some b)) (K.enc x)).run P w = .ok (.tuple #[v, .int .i64 B]) w' ∧ Mod N w w' ∧ MapH K T x v B b es N F w' := by
  obtain ⟨zs, N0, Ns, h1, h2, h3, h4, h5, h6, h7⟩ := h
  have hv' := h7 _ rfl
  simp only at hv'
  obtain ⟨B, w', r1, r2, r3, E, clock, en, r4, r5, r6, r7⟩ := h1.entry hx ht hz rfl
  rw [hv'] at r1 r3
  have hN0 : N0 b := h1.1
  refine ⟨B, w', r1, r2.mono fun q _ hq => h3 q hq, h3 _ hN0, ⟨(mlook x es).getD [], mput x v zs, N0, Ns, r3, mput_keysP h2, h3, h4, h5, fun y u l hy hl hc => ?_, fun xv q => ?_⟩, E, clock, en, r4, r5, r6, r7⟩
  · have hyx : y ≠ x := hc _ rfl
    rw [mlook_mput_ne hyx] at hy hl
    have hop := h6 y u l hy hl (fun xv q => by cases q; exact hyx)
    exact Fact.opgood _ (fun _ h => h) (fun q hq => r2.block q (hlt q (h4 y q hq).1) (fun hn => (h4 y q hq).2 hn)) (fun _ h => h) (fun q hq => r2.block q (hF q hq).1 (fun hn => (hF q hq).2 (h3 q hn))) hop
  · cases q
    show (mlook x (mput x v zs)).getD _ = v
    rw [mlook_mput]; rfl
theorem MapH.store {N F : Foot} {w : World} {t f : TypeId} {u : Value} (h : MapH K T x v B b es N F w) (hx : K.ok x) (ht : P.underlying t = some (.map k f)) (hu : u.oneCell' = true)
    (hlt : ∀ q, N q → q < w.heap.size) (hF : ∀ q, F q → q < w.heap.size ∧ ¬ N q) (l0 : List α) :
    ∃ w', (Instr.entryStore t (.map (some b)) (.int .i64 B) u).run P w = .ok () w' ∧ Mod N w w' ∧ MapG K T (some (x, u)) b (mput x l0 es) N F w' := by
  obtain ⟨_, ⟨l1, zs, N0, Ns, h1, h2, h3, h4, h5, h6, h7⟩, E, clock, en, p1, p2, p3, rfl⟩ := h
  obtain ⟨w', r1, r2, r3⟩ := h1.store hx ht hu p1 p2 p3
  refine ⟨w', r1, r2.mono fun q _ hq => h3 q hq, mput x u zs, N0, Ns, r3, ?_, h3, h4, h5, fun y v' l hy hl hc => ?_, fun xv q => ?_⟩
  · have := mput_keysP (x := x) (a := u) (c := l0) h2
    rw [mput_mput] at this; exact this
  · have hyx : y ≠ x := hc _ rfl
    rw [mlook_mput_ne hyx] at hy hl
    have hop := h6 y v' l hy (by rw [mlook_mput_ne hyx]; exact hl) (fun xv q => by cases q; exact hyx)
    exact Fact.opgood _ (fun _ h => h) (fun q hq => r2.block q (hlt q (h4 y q hq).1) (fun hn => (h4 y q hq).2 hn)) (fun _ h => h) (fun q hq => r2.block q (hF q hq).1 (fun hn => (hF q hq).2 (h3 q hn))) hop
  · cases q
    show (mlook x (mput x u zs)).getD _ = u
    rw [mlook_mput]; rfl
end
section rules
variable {P : Program} {C : Ctx} {n : Nat} {Q : Exit → Act → World → Prop} {Φ : List Fact} {H H' : List Fact} {S S' : List (Nat × Value)} {ops : Array Oper} {rest : List Oper} {o : Oper} {d : Nat}
variable {κ α : Type} [DecidableEq κ] {k : TypeId} {K : KeyL P k κ} {T : Value → List α → Fact} {b : Nat} {es : List (κ × List α)}
theorem wl_makeG {t : Nat} (K : KeyL P k κ) (T : Value → List α → Fact) (hg : wantS ops S o = some true) (hd : o.dst = some d) (hn : Nat.blt d n = true) (hS : outS d S = S') (ho : o.op = .makeMap t none)
    (next : ∀ g, WL P C n Q Φ (mapG K T none g [] :: H) ((d, .map (some g)) :: S') ops rest) : WL P C n Q Φ H S ops (o :: rest) :=
  wl_run hg hd hn hS fun a w hf hw => ⟨.map (some w.heap.size), w.alloc (.map #[] 0), (by simp [execOp, ho, run_makeMap]), Φ, _, (by
    obtain ⟨F, N, hi⟩ := hw.allocMapE K false valRep
    have h0 : MapE K false valRep (N 0) F w.heap.size [] (w.alloc (.map #[] 0)) := hi.owns 0 _ rfl
    have h1 : MapG K T none w.heap.size [] (N 0) F (w.alloc (.map #[] 0)) := ⟨[], N 0, fun _ _ => False, h0, List.Perm.refl _, fun _ h => h, fun _ _ h => h.elim, fun _ _ _ _ h => h.elim, fun x v l hz _ _ => (by cases hz), fun _ h => (by cases h)⟩
    exact ⟨F, N, hi.set 0 (by simp) (Mod.refl _ _) (mapG K T none w.heap.size []) h1⟩), next _⟩
theorem Holds.openG (hT : FormT T) {w : World} {x : κ} {l : List α} (hw : Holds C Φ H w) (j : Nat) (hφ : H[j]? = some (mapG K T none b es)) (hm : (mlook x es).getD [] = l) :
    ∃ r : Option Addr × Nat, Holds C Φ (T (.slice r.1 l.length r.2) l :: H.set j (mapG K T (some (x, .slice r.1 l.length r.2)) b es)) w :=
  hw.split (Λ := Option Addr × Nat) (φ1 := fun r => mapG K T (some (x, .slice r.1 l.length r.2)) b es) (φ2 := fun r => T (.slice r.1 l.length r.2) l) j hφ (fun N F h => MapG.open_ hT h hm)
theorem MapG.look {N F : Foot} {w : World} {t f : Nat} {i : κ} {v : Value} (h : MapG K T (some (i, v)) b es N F w) (hz : tZero P f = some (.slice none 0 0)) (ht : P.underlying t = some (.map k f)) (hi : K.ok i) :
    (Instr.lookup t (.map (some b)) (K.enc i) false).run P w = .ok v w := by
  obtain ⟨zs, N0, Ns, h1, h2, h3, h4, h5, h6, h7⟩ := h
  have hv := h7 _ rfl
  simp only at hv
  cases hm : mlook i zs with
  | none =>
    rw [hm] at hv; simp only [Option.getD_none] at hv; subst hv
    exact h1.lookNo false hi ht hz hm
  | some u =>
    rw [hm] at hv; simp only [Option.getD_some] at hv; subst hv
    obtain ⟨v0, cs, q1, q2, q3⟩ := h1.lookYes false hi ht hm
    obtain ⟨rfl, _⟩ := q3
    simp only [valOf, Option.some.injEq] at q2
    subst q2
    exact q1
theorem wl_lookX {t f : Nat} {x y : Operand} {i : κ} {v : Value} (j : Nat) (hg : wantS ops S o = some true) (hd : o.dst = some d) (hn : Nat.blt d n = true) (hS : outS d S = S') (ho : o.op = .lookup t x y false)
    (hφ : H[j]? = some (mapG K T (some (i, v)) b es)) (hx : evS S x = some (.map (some b))) (hy : evS S y = some (K.enc i)) (hz : tZero P f = some (.slice none 0 0)) (ht : P.underlying t = some (.map k f)) (hi : K.ok i)
    (next : WL P C n Q Φ H ((d, v) :: S') ops rest) : WL P C n Q Φ H S ops (o :: rest) := by
  refine wl_val hg hd hn hS (fun a w hf hw => ?_) next
  obtain ⟨F, N, hi'⟩ := hw
  have h0 : MapG K T (some (i, v)) b es (N j) F w := hi'.owns j _ hφ
  simp [execOp, ho, hf.eval hx, hf.eval hy, h0.look hz ht hi]
theorem wl_lookG {t f : Nat} {x y : Operand} {i : κ} {l : List α} (hT : FormT T) (j : Nat) (hg : wantS ops S o = some true) (hd : o.dst = some d) (hn : Nat.blt d n = true) (hS : outS d S = S') (ho : o.op = .lookup t x y false)
    (hφ : H[j]? = some (mapG K T none b es)) (hx : evS S x = some (.map (some b))) (hy : evS S y = some (K.enc i)) (hz : tZero P f = some (.slice none 0 0)) (ht : P.underlying t = some (.map k f)) (hi : K.ok i) (hm : (mlook i es).getD [] = l)
    (next : ∀ p c, WL P C n Q Φ (T (.slice p l.length c) l :: H.set j (mapG K T (some (i, .slice p l.length c)) b es)) ((d, .slice p l.length c) :: S') ops rest) : WL P C n Q Φ H S ops (o :: rest) := by
  refine wl_run hg hd hn hS fun a w hf hw => ?_
  obtain ⟨r, h⟩ := hw.openG hT j hφ hm
  refine ⟨_, w, ?_, Φ, _, h, next r.1 r.2⟩
  obtain ⟨F, N, hi'⟩ := h
  have hlt := (List.getElem?_eq_some_iff.1 hφ).1
  have h0 : MapG K T (some (i, .slice r.1 l.length r.2)) b es (N (j + 1)) F w := hi'.owns (j + 1) (mapG K T (some (i, .slice r.1 l.length r.2)) b es) (by rw [List.getElem?_cons_succ, List.getElem?_set_self hlt])
  simp [execOp, ho, hf.eval hx, hf.eval hy, h0.look hz ht hi]
theorem wl_putG {t f : Nat} {x y z : Operand} {i : κ} {v : Value} {q : Option (κ × Value)} (j : Nat) (l0 : List α) (hg : wantS ops S o = some true) (hd : o.dst = none) (ho : o.op = .mapUpdate t x y z ∨ o.op = .insert t x y z) (hq : q = none ∨ ∃ v0, q = some (i, v0))
    (hφ : H[j]? = some (mapG K T q b es)) (hx : evS S x = some (.map (some b))) (hy : evS S y = some (K.enc i)) (hz : evS S z = some v) (ht : P.underlying t = some (.map k f)) (hi : K.ok i) (hv : v.oneCell' = true)
    (hH : H.set j (mapG K T (some (i, v)) b (mput i l0 es)) = H') (next : WL P C n Q Φ H' S ops rest) : WL P C n Q Φ H S ops (o :: rest) := by
  refine wl_do (Φ' := Φ) hg hd (fun a w hf hw => ?_) next
  obtain ⟨F, N, hi'⟩ := hw
  have hlt := (List.getElem?_eq_some_iff.1 hφ).1
  have h0 : MapG K T q b es (N j) F w := hi'.owns j _ hφ
  obtain ⟨w', r1, r2, r3⟩ := h0.put hq hi ht hv (fun k hk => (hi'.nlt j k hlt hk).1) (fun k hk => ⟨hi'.flt k hk, fun hn => (hi'.nlt j k hlt hn).2.2 hk⟩) l0
  refine ⟨w', by rcases ho with ho | ho <;> simp [execOp, ho, hf.eval hx, hf.eval hy, hf.eval hz, r1], ?_⟩
  subst hH
  exact ⟨F, N, hi'.set j hlt r2 (mapG K T (some (i, v)) b (mput i l0 es)) r3⟩
theorem wl_delG {t f : Nat} {x y : Operand} {i : κ} {v : Value} (j : Nat) (hg : wantS ops S o = some true) (hd : o.dst = none) (ho : o.op = .call { callee := .builtin .delete, args := #[x, y], argTypes := #[t, k] })
    (hφ : H[j]? = some (mapG K T (some (i, v)) b es)) (hx : evS S x = some (.map (some b))) (hy : evS S y = some (K.enc i)) (ht : P.underlying t = some (.map k f)) (hi : K.ok i)
    (hH : H.set j (mapG K T none b (mdel i es)) = H') (next : WL P C n Q Φ H' S ops rest) : WL P C n Q Φ H S ops (o :: rest) := by
  refine wl_doV (Φ' := Φ) hg hd (fun a w hf hw => ?_) next
  obtain ⟨F, N, hi'⟩ := hw
  have hlt := (List.getElem?_eq_some_iff.1 hφ).1
  have h0 : MapG K T (some (i, v)) b es (N j) F w := hi'.owns j _ hφ
  obtain ⟨w', r1, r2, r3⟩ := h0.del hi ht (fun k hk => (hi'.nlt j k hlt hk).1) (fun k hk => ⟨hi'.flt k hk, fun hn => (hi'.nlt j k hlt hn).2.2 hk⟩) o.type
  refine ⟨.tuple #[], w', by simp [execOp, ho, resolve, invoke, builtin, hf.eval hx, hf.eval hy, r1], ?_⟩
  subst hH
  exact ⟨F, N, hi'.set j hlt r2 (mapG K T none b (mdel i es)) r3⟩
theorem wl_entryX {t f : Nat} {x y : Operand} {i : κ} {v : Value} (j : Nat) (hg : wantS ops S o = some true) (hd : o.dst = some d) (hn : Nat.blt d n = true) (hS : outS d S = S') (ho : o.op = .mapEntry t x y)
    (hφ : H[j]? = some (mapG K T (some (i, v)) b es)) (hx : evS S x = some (.map (some b))) (hy : evS S y = some (K.enc i)) (hz : tZero P f = some (.slice none 0 0)) (ht : P.underlying t = some (.map k f)) (hi : K.ok i) (hv : v.oneCell' = true)
    (next : ∀ B, WL P C n Q Φ (H.set j (mapH K T i v B b es)) ((d, .tuple #[v, .int .i64 (B : Nat)]) :: S') ops rest) : WL P C n Q Φ H S ops (o :: rest) := by
  refine wl_run hg hd hn hS fun a w hf hw => ?_
  obtain ⟨F, N, hi'⟩ := hw
  have hlt := (List.getElem?_eq_some_iff.1 hφ).1
  have h0 : MapG K T (some (i, v)) b es (N j) F w := hi'.owns j _ hφ
  obtain ⟨B, w', r1, r2, r3⟩ := h0.entry hi ht hz hv (fun k hk => (hi'.nlt j k hlt hk).1) (fun k hk => ⟨hi'.flt k hk, fun hn => (hi'.nlt j k hlt hn).2.2 hk⟩)
  exact ⟨_, w', by simp [execOp, ho, hf.eval hx, hf.eval hy, r1], Φ, _, ⟨F, N, hi'.set j hlt r2 (mapH K T i v B b es) r3⟩, next B⟩
theorem wl_entryG {t f : Nat} {x y : Operand} {i : κ} {l : List α} (hT : FormT T) (j : Nat) (hg : wantS ops S o = some true) (hd : o.dst = some d) (hn : Nat.blt d n = true) (hS : outS d S = S') (ho : o.op = .mapEntry t x y)
    (hφ : H[j]? = some (mapG K T none b es)) (hx : evS S x = some (.map (some b))) (hy : evS S y = some (K.enc i)) (hz : tZero P f = some (.slice none 0 0)) (ht : P.underlying t = some (.map k f)) (hi : K.ok i) (hm : (mlook i es).getD [] = l)
    (next : ∀ p c B, WL P C n Q Φ (T (.slice p l.length c) l :: H.set j (mapH K T i (.slice p l.length c) B b es)) ((d, .tuple #[.slice p l.length c, .int .i64 (B : Nat)]) :: S') ops rest) : WL P C n Q Φ H S ops (o :: rest) := by
  intro a w hf hw
  obtain ⟨r, h⟩ := hw.openG hT j hφ hm
  have hlt := (List.getElem?_eq_some_iff.1 hφ).1
  refine wl_entryX (C := C) (Φ := Φ) (H := T (.slice r.1 l.length r.2) l :: H.set j (mapG K T (some (i, .slice r.1 l.length r.2)) b es)) (v := .slice r.1 l.length r.2) (b := b) (i := i) (K := K) (T := T) (es := es) (j + 1) hg hd hn hS ho (by rw [List.getElem?_cons_succ, List.getElem?_set_self hlt]) hx hy hz ht hi rfl (fun B => ?_) a w hf h
  rw [List.set_cons_succ, List.set_set]
  exact next r.1 r.2 B
theorem wl_entryStore {t f : Nat} {x y z : Operand} {i : κ} {u v : Value} {B : Nat} (j : Nat) (l0 : List α) (hg : wantS ops S o = some true) (hd : o.dst = none) (ho : o.op = .entryStore t x y z)
    (hφ : H[j]? = some (mapH K T i v B b es)) (hx : evS S x = some (.map (some b))) (hy : evS S y = some (.int .i64 (B : Nat))) (hz : evS S z = some u) (ht : P.underlying t = some (.map k f)) (hi : K.ok i) (hv : u.oneCell' = true)
    (hH : H.set j (mapG K T (some (i, u)) b (mput i l0 es)) = H') (next : WL P C n Q Φ H' S ops rest) : WL P C n Q Φ H S ops (o :: rest) := by
  refine wl_do (Φ' := Φ) hg hd (fun a w hf hw => ?_) next
  obtain ⟨F, N, hi'⟩ := hw
  have hlt := (List.getElem?_eq_some_iff.1 hφ).1
  have h0 : MapH K T i v B b es (N j) F w := hi'.owns j _ hφ
  obtain ⟨w', r1, r2, r3⟩ := h0.store hi ht hv (fun k hk => (hi'.nlt j k hlt hk).1) (fun k hk => ⟨hi'.flt k hk, fun hn => (hi'.nlt j k hlt hn).2.2 hk⟩) l0
  refine ⟨w', by simp [execOp, ho, hf.eval hx, hf.eval hy, hf.eval hz, r1], ?_⟩
  subst hH
  exact ⟨F, N, hi'.set j hlt r2 (mapG K T (some (i, u)) b (mput i l0 es)) r3⟩
theorem Holds.closeG {w : World} {x : κ} {v : Value} {l : List α} (h : Holds C Φ H w) (j m : Nat) (hne : Nat.beq j m = false) (hφ : H[j]? = some (mapG K T (some (x, v)) b es)) (hr : H[m]? = some (T v l)) (hm : (mlook x es).getD [] = l) : Holds C Φ ((H.set j (mapG K T none b es)).eraseIdx m) w :=
  h.join j m (fun q => by subst q; rw [Nat.beq_refl] at hne; cases hne) hφ hr (fun _ _ _ h1 h2 hd => MapG.close_ h1 h2 hd hm)
end rules
end Go.Proofs.YtegkmbkbaenkcaaGreat
