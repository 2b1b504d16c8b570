import Derived.Test.YtbgodclhmgmcgaaGreatDoorLend
import Derived.Maps.Own
import Derived.Maps.OwnSet
import Derived.Maps.Views
import Derived.Test.YtbgodclhmgmcgaaGreatDoorRep
import Derived.Deep.DeepAppendRoom
namespace Go.Proofs.YtbgodclhmgmcgaaGreatDoor
open Go.RowKit
theorem Qaa {α:Type} {sz:Nat} {R:Rep α} {F:Q2t} {w:World}:(Fact.sli sz R none 0 ([] : List α)).p F w:=⟨none,0,0,[],rfl,rfl,Nat.le_refl _,by omega,rfl,fun h=>absurd h (by omega)⟩
theorem sli_to {α:Type} {sz c:Nat} {R:Rep α} {p:Option Addr} {l:List α} {F:Q2t} {w:World} (k:Nat) (h:(Fact.sli sz R p c l).p F w):(Fact.sli sz R p c (l.take k)).p F w:=by
 obtain ⟨p',n',c',xs,e1,e2,h1,h2,h3,h4⟩:=h
 cases e1
 refine ⟨p,_,c,xs.take (k * sz),rfl,rfl,by simp only [List.length_take]; omega,h2,h3.take k,fun h0=>?_⟩
 obtain ⟨b,o,e3,h5,h6⟩:=h4 (by simp only [List.length_take] at h0; omega)
 refine ⟨b,o,e3,h5,fun j u hu=>h6 j u ?_⟩
 rw [List.getElem?_take] at hu
 split at hu
 · exact hu
 · cases hu
theorem sli_rel {α:Type} {sz c:Nat} {R R' : Rep α} {p:Option Addr} {l:List α} {F:Q2t} {w:World} (h:(Fact.sli sz R p c l).p F w) (hR : ∀ cs x,R.p F w cs x → R'.p F w cs x):(Fact.sli sz R' p c l).p F w:=by
 obtain ⟨p',n',c',xs,e1,e2,h1,h2,h3,h4⟩:=h
 exact ⟨p',n',c',xs,e1,e2,h1,h2,h3.mono fun cs x _=>hR cs x,h4⟩
end Go.Proofs.YtbgodclhmgmcgaaGreatDoor
namespace Go.Proofs.YtbgodclhmgmcgaaGreatDoor
open Go.RowKit
def Qa1 (a:Q4O) (v:V) (has:List Bool) (vals:List V):Option (List Bool × List V) :=
 if a.k = 1 then some (has,vals)
 else if a.k = 4 then if a.v = v then some (has,vals) else none
 else if a.k = 3 then if 0 ≤ a.var ∧ a.var < has.length ∧ has[a.var.toNat]? = some true ∧ vals[a.var.toNat]? = some v then some (has,vals) else none
 else if a.k = 2 then if 0 ≤ a.var ∧ a.var < has.length then some (has.set a.var.toNat true,vals.set a.var.toNat v) else none
 else none
theorem fitOne_len {a:Q4O} {v:V} {h:List Bool} {vs:List V} {h' : List Bool} {vs' : List V} (e:Qa1 a v h vs = some (h',vs')):h'.length = h.length ∧ vs'.length = vs.length:=by
 unfold Qa1 at e
 repeat' split at e
 all_goals first | (cases e; done) | (simp at e; obtain ⟨rfl,rfl⟩:=e; simp)
end Go.Proofs.YtbgodclhmgmcgaaGreatDoor
namespace Go.Proofs.YtbgodclhmgmcgaaGreatDoor
open Go.RowKit
section
variable {P:Program} {C:Ctx} {n:FD} {Q:Exit → Act → World → Prop} {Φ Φ' : List Fact} {H H' : List Fact} {S S' : List (Nat × Value)} {ops:Array Oper} {rest:List Oper} {o:Oper} {d:Nat}
theorem call_any {f:FuncId} {args:List Value} {Φf Hf:List Fact} {R:Value → List Fact → List Fact → Prop} (l m:List Nat) (hg:Q1O ops S o = some true)
  (hrun : ∀ a w,Frm n S a → (execOp a.eval o).run P w = .ok (.enter f args.toArray) w)
  (hH:Q2q H l = Hf) (spec:Q17 P f args Φf Hf R) (hΦ : ∀ F w,(∀ ψ ∈ Φ,ψ.p F w) → ∀ φ ∈ Φf,φ.p F w) (hl:Q3a (l ++ m) H.length = true) (hm:Q2q H m = H')
  (next : ∀ v Φr Hr,R v Φr Hr → ∀ a w,Frm n S a → Q16 C (Φr ++ Φ) (Hr ++ H') w → wpList P ops Q rest (a.put o.dst v) w):WL P C n Q Φ H S ops (o :: rest):=by
 subst hH; subst hm
 intro a w hf ⟨F,N,hi⟩
 have hl1:Q3a l H.length = true:=by
  clear spec next
  have : ∀ (l:List Nat),Q3a (l ++ m) H.length = true → Q3a l H.length = true:=by
   intro l
   induction l with
   | nil=>intro _; rfl
   | cons i l ih =>
     intro h
     simp only [List.cons_append,Q3a,Bool.and_eq_true,Bool.not_eq_true',List.any_append,Bool.or_eq_false_iff] at h ⊢
     exact ⟨⟨h.1.1,h.1.2.1⟩,ih h.2⟩
  exact this l hl
 have hp:=hi.pick l hl1
 have hcall:=spec F _ w hi.flt (fun φ hφ=>hΦ F w hi.facts φ hφ) hp.owns (fun i k hik hk=>⟨(hp.nlt i k hik hk).1,(hp.nlt i k hik hk).2.2⟩) hp.apart
 refine wpList_step fun K hK=>?_
 rw [Q5s hf hg,if_pos rfl]
 unfold Oper.wp
 rw [hrun a w hf,Oper.upon_enter]
 refine hcall.mono ?_
 rintro e w' ⟨v,Φr,Hr,rfl,hR,hh⟩
 exact hK _ _ (next v Φr Hr hR a w' hf (hi.after hl hh))
theorem dyn_run {f:FuncId} {y:Operand} {xs:Array Operand} {ts:Array TypeId} {args0 args:List Value} {caps:Array Value} (ho:o.op = .call { callee:=.value y,args:=xs,argTypes:=ts }) (hy:evS S y = some (.func (.func f) #[] caps)) (hx:evL S xs.toList = some args0)
  (hfn:Q1t P f = true) (ha:args0 ++ caps.toList = args) : ∀ a w,Frm n S a → (execOp a.eval o).run P w = .ok (.enter f args.toArray) w:=by
 intro a w hf
 have hargs:xs.map a.eval = args0.toArray:=by
  have:=hf.evalL hx
  have h0:xs = xs.toList.toArray:=by simp
  rw [← this,h0,List.map_toArray]
 have h2:(resolve a.eval { callee:=.value y,args:=xs,argTypes:=ts } o.type).run P w = .ok { target:=.fn (.func f) caps,args:=args0.toArray } w:=by
  simp [resolve,hf.eval hy,Deferred.ofValue,hargs]
 have h3:args0.toArray ++ caps = args.toArray:=by rw [← ha]; simp
 unfold execOp
 simp only [ho,Sem.run_bind,h2,Result.andThen_ok]
 simp [invoke,Qb5 hfn,h3]
theorem Q1K {f:FuncId} {y:Operand} {xs:Array Operand} {ts:Array TypeId} {args0 args:List Value} {caps:Array Value} {Φf Hf:List Fact} {R:Value → List Fact → List Fact → Prop} (l m:List Nat) (hg:Q1O ops S o = some true) (hd:o.dst = some d) (hn:Nat.blt d n = true) (hS:Q37 d S = S')
  (ho:o.op = .call { callee:=.value y,args:=xs,argTypes:=ts }) (hy:evS S y = some (.func (.func f) #[] caps)) (hx:evL S xs.toList = some args0) (hfn:Q1t P f = true) (ha:args0 ++ caps.toList = args)
  (hH:Q2q H l = Hf) (spec:Q17 P f args Φf Hf R) (hΦ : ∀ F w,(∀ ψ ∈ Φ,ψ.p F w) → ∀ φ ∈ Φf,φ.p F w) (hl:Q3a (l ++ m) H.length = true) (hm:Q2q H m = H')
  (next : ∀ v Φr Hr,R v Φr Hr → WL P C n Q (Φr ++ Φ) (Hr ++ H') ((d,v) :: S') ops rest):WL P C n Q Φ H S ops (o :: rest) :=
 call_any l m hg (dyn_run ho hy hx hfn ha) hH spec hΦ hl hm fun v Φr Hr hR a w hf hw=>by rw [hd]; exact next v Φr Hr hR _ w (hf.put (Nat.le_of_ble_eq_true hn) hS) hw
theorem Q2o {f:FuncId} {xs:Array Operand} {caps:List Value} (hg:Q1O ops S o = some true) (hd:o.dst = some d) (hn:Nat.blt d n = true) (hS:Q37 d S = S') (ho:o.op = .makeFunc (.func f) #[] xs) (hx:evL S xs.toList = some caps)
  (next:WL P C n Q Φ H ((d,.func (.func f) #[] caps.toArray) :: S') ops rest):WL P C n Q Φ H S ops (o :: rest) :=
 Qb1 hg hd hn hS (fun a w hf _=>by
  have hargs:xs.map a.eval = caps.toArray:=by
   have:=hf.evalL hx
   have h0:xs = xs.toList.toArray:=by simp
   rw [← this,h0,List.map_toArray]
  simp [execOp,ho,Instr.makeFunc,hargs]) next
end
end Go.Proofs.YtbgodclhmgmcgaaGreatDoor
namespace Go.Proofs.YtbgodclhmgmcgaaGreatDoor
open Go Go.RowKit
section
variable {P:Program} {C:Ctx} {n:FD} {Q:Exit → Act → World → Prop} {Φ Φ' : List Fact} {H H' : List Fact} {S S' : List (Nat × Value)} {ops:Array Oper} {rest:List Oper} {o:Oper} {d:Nat}
theorem Q89 {α:Type} {t e e2 sz by_ m2:Nat} {s x:Operand} {R:Rep α} {v z:Value} {l l2:List α} {p:Option Addr} {cp:Nat} (k j:Nat) (hg:Q1O ops S o = some true) (hd:o.dst = some d) (hn:Nat.blt d n = true) (hS:Q37 d S = S')
  (ho:o.op = .call { callee:=.builtin .append,args:=#[s,x],argTypes:=#[t,t] }) (hφ:H[k]? = some (.own e sz R v l)) (hs:evS S s = some v) (hψ:H[j]? = some (.own e2 sz R (.slice p m2 cp) l2)) (hx:evS S x = some (.slice p l2.length cp))
  (he:Q3f P t = some e) (hr:tRow P e = some (z,sz,by_)) (hzs:Nat.beq z.cells.size sz = true) (hsz:Nat.blt 0 sz = true) (h63:l.length + l2.length ≤ 9223372036854775807) (hby:(l.length + l2.length) * by_ ≤ 140737488355328)
  {H2:Option Addr → Nat → List Fact} (hH : ∀ p' c',H.set k (.own e sz R (.slice p' (l ++ l2).length c') (l ++ l2)) = H2 p' c') (next : ∀ p' c',WL P C n Q Φ (H2 p' c') ((d,.slice p' (l ++ l2).length c') :: S') ops rest):WL P C n Q Φ H S ops (o :: rest) :=
 Qc9 k hg hd hn hS ho hφ hs hx (fun F N w hi=>by
  obtain ⟨_,xs,ho,hch⟩:=hi.owns j _ hψ
  rcases ho.2 with ⟨h0,h00⟩ | ⟨g,cap,cur,hv,_⟩
  · exact ⟨xs,hch,fun h=>absurd h (by omega)⟩
  ·cases hv
   refine ⟨xs,hch,fun _=>⟨g,0,rfl,fun q u hq=>?_⟩⟩
   have:=ho.cells (g:=g) rfl q u hq
   rwa [Q71] at this) he hr hzs hsz h63 hby hH next
end
theorem set_get {α:Type} {l:List α} {k:Nat} {x : α} (h:l[k]? = some x):l.set k x = l:=by
 obtain ⟨h1,rfl⟩:=List.getElem?_eq_some_iff.1 h
 exact List.set_getElem_self h1
end Go.Proofs.YtbgodclhmgmcgaaGreatDoor
