import Derived.Test.YtbgodclhmgmcgaaGreatDoorNaivM
namespace Go.Proofs.YtbgodclhmgmcgaaGreatDoor
open Go Go.RowKit
abbrev N0:Nat:=9223372036855775808
def holdsB:Option Say → Bool
 | some (k,n,_,e)=>e == 0 && (k == 1 && n != 0)
 | none=>false
def tells (facts:List Qz):Tells:=⟨fun c hs vs f=>Q7z c f hs vs,fun c vs=>holdsB (at_ (Q2j N0) vs c.test),fun c hs vs=>facts.any fun f=>(Q7z c f hs vs).isSome⟩
def InvE (hs:List Bool) (vs:List V):Prop:=hs.length = vs.length ∧ vs.length ≤ 16 ∧ ∀ v ∈ vs,okV v
theorem fitOne_ok {a:Q4O} {x:V} {hs:List Bool} {vs:List V} {p:List Bool × List V} (hx:okV x) (hv : ∀ v ∈ vs,okV v) (h:Qa1 a x hs vs = some p) : ∀ v ∈ p.2,okV v:=by
 unfold Qa1 at h
 split at h
 · cases h; exact hv
 ·split at h
  ·split at h
   · cases h; exact hv
   · cases h
  ·split at h
   ·split at h
    · cases h; exact hv
    · cases h
   ·split at h
    ·split at h
     ·cases h
      intro v hm
      rcases List.mem_or_eq_of_mem_set hm with hm | rfl
      · exact hv v hm
      · exact hx
     · cases h
    · cases h
theorem argsTo_ok : ∀ {al:List Q4O} {xs:List V} {hs:List Bool} {vs:List V} {p:List Bool × List V},(∀ x ∈ xs,okV x) → (∀ v ∈ vs,okV v) → Qa0 al xs hs vs = some p → ∀ v ∈ p.2,okV v
 | [],_,hs,vs,p,_,hv,h=>by cases h; exact hv
 | _ :: _,[],_,_,_,_,_,h=>by cases h
 | a :: al,x :: xs,hs,vs,p,hx,hv,h=>by
   unfold Qa0 at h
   split at h
   ·rename_i q hq
    exact argsTo_ok (fun y hy=>hx y (List.mem_cons_of_mem _ hy)) (fitOne_ok (hx x List.mem_cons_self) hv hq) h
   · cases h
theorem matchF_ok {c:QL} {f:Qz} {hs:List Bool} {vs:List V} {p:List Bool × List V} (hf : ∀ x ∈ f.args,okV x) (hv : ∀ v ∈ vs,okV v) (h:Q7z c f hs vs = some p) : ∀ v ∈ p.2,okV v:=by
 unfold Q7z at h
 split at h
 · exact argsTo_ok hf hv h
 · cases h
structure LightC (conds:List QL) (facts:List Qz):Prop where
 args : ∀ c ∈ conds,c.args.length ≤ 1000
 test : ∀ c ∈ conds,nodes c.test ≤ 1000 ∧ ok_Api_ExprD c.test
 few:facts.length ≤ 1000
 vals : ∀ f ∈ facts,∀ x ∈ f.args,okV x
theorem some_is {N:Nat} (hN : 9223372036855775808 ≤ N) {c:QL} {facts:List Qz} {hs:List Bool} {vs:List V} (hh:hs.length ≤ 1000) (hv:vs.length ≤ 1000) (ha:c.args.length ≤ 1000000) (hf:facts.length ≤ 1000) :
  Q5i N c.kind c.type c.args c.test.kind c.test.value.k c.test.value.n c.test.value.s c.test.var c.test.op c.test.kids hs vs facts = some (facts.any fun f=>(Q7z c f hs vs).isSome):=by
 unfold Q5i Q3M Q4G
 rw [Q85 (l:=facts) (p:=fun f=>(Q7z c f hs vs).isSome) (fun i hi=>by
  unfold Q2U Q7L
  obtain ⟨a,b,hm,_⟩:=match_is (N:=N) (by omega) (c:=c) (f:=facts[i]) hh hv ha
  rw [if_pos (by simpa using hi),List.getElem?_eq_getElem hi,Q7,hm,Q7,Q7]
  by_cases hb:(Q7z c facts[i] hs vs).isSome = true
  · rw [if_pos hb,if_pos hb]
  · rw [if_neg hb,if_neg hb,QY (by omega)]) (by
  unfold Q2U
  rw [if_neg (by simp)]) facts.length 0 N (by omega) (by omega),Q7,Q7,List.drop_zero,Q9Y]
theorem okTells {conds:List QL} {facts:List Qz} (h:LightC conds facts):OkS (tells facts) InvE conds facts:={
 mt:=fun N hN c hc _ _ f hf hs vs hI=>by
  obtain ⟨a,b,hm,hp⟩:=match_is (N:=N) (by omega) (c:=c) (f:=f) (hs:=hs) (vs:=vs) (by have:=hI.1; have:=hI.2.1; omega) (by have:=hI.2.1; omega) (by have:=h.args c hc; omega)
  refine ⟨a,b,hm,fun p hq=>?_⟩
  obtain ⟨h1,h2,h3⟩:=hp p hq
  have h4:=matchF_ok (h.vals f hf) hI.2.2 hq
  rw [h1] at h4
  exact ⟨h1,by rw [h2,h3]; exact hI.1,by rw [h3]; exact hI.2.1,h4⟩
 ev:=fun N hN c hc _ hs vs hI=>by
  obtain ⟨t1,t2⟩:=h.test c hc
  have hlen:vs.length ≤ 1000000:=by have:=hI.2.1; omega
  obtain ⟨⟨k,n,s,e⟩,hr,_⟩:=both 1000 N c.test vs t2 t1 (by omega) (by omega) hI.2.2 hlen
  have hsame:=both2 1000 N N0 c.test vs t2 t1 (by omega) (by omega) (by unfold N0; omega) hI.2.2 hlen
  refine ⟨k,n,s,e,hr,?_⟩
  show holdsB (at_ (Q2j N0) vs c.test) = _
  rw [← hsame,hr]; rfl
 sm:=fun N hN c hc _ hs vs hI=>some_is hN (by have:=hI.1; have:=hI.2.1; omega) (by have:=hI.2.1; omega) (by have:=h.args c hc; omega) h.few
 len:=fun hs vs hI=>by have:=hI.2.1; omega }
end Go.Proofs.YtbgodclhmgmcgaaGreatDoor
