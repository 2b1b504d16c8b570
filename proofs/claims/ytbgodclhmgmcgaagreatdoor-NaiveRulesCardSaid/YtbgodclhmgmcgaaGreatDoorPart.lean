import Derived.Test.YtbgodclhmgmcgaaGreatDoorPatD
import Derived.Deep.DeepAppendRoom
namespace Go.Proofs.YtbgodclhmgmcgaaGreatDoor
open Go.RowKit
section
variable {P:Program} {C:Ctx} {n:FD} {Q:Exit → Act → World → Prop} {Φ Φ' : List Fact} {H H' : List Fact} {S S' : List (Nat × Value)} {ops:Array Oper} {rest:List Oper} {o:Oper} {d:Nat}
theorem call_any {f:FuncId} {args:List Value} {Φf Hf:List Fact} {R:Value → List Fact → List Fact → Prop} (l m:List Nat) (hg:Q1O ops S o = some true)
  (hrun : ∀ a w,Frm n S a → (execOp a.eval o).run P w = .ok (.enter f args.toArray) w)
  (hH:Q2l H l = Hf) (spec:Q14 P f args Φf Hf R) (hΦ : ∀ F w,(∀ ψ ∈ Φ,ψ.p F w) → ∀ φ ∈ Φf,φ.p F w) (hl:Q30 (l ++ m) H.length = true) (hm:Q2l H m = H')
  (next : ∀ v Φr Hr,R v Φr Hr → ∀ a w,Frm n S a → Q13 C (Φr ++ Φ) (Hr ++ H') w → wpList P ops Q rest (a.put o.dst v) w):WL P C n Q Φ H S ops (o :: rest):=by
 subst hH; subst hm
 intro a w hf ⟨F,N,hi⟩
 have hl1:Q30 l H.length = true:=by
  clear spec next
  have : ∀ (l:List Nat),Q30 (l ++ m) H.length = true → Q30 l H.length = true:=by
   intro l
   induction l with
   | nil=>intro _; rfl
   | cons i l ih =>
     intro h
     simp only [List.cons_append,Q30,Bool.and_eq_true,Bool.not_eq_true',List.any_append,Bool.or_eq_false_iff] at h ⊢
     exact ⟨⟨h.1.1,h.1.2.1⟩,ih h.2⟩
  exact this l hl
 have hp:=hi.pick l hl1
 have hcall:=spec F _ w hi.flt (fun φ hφ=>hΦ F w hi.facts φ hφ) hp.owns (fun i k hik hk=>⟨(hp.nlt i k hik hk).1,(hp.nlt i k hik hk).2.2⟩) hp.apart
 refine wpList_step fun K hK=>?_
 rw [Q5h hf hg,if_pos rfl]
 unfold Oper.wp
 rw [hrun a w hf,Oper.upon_enter]
 refine hcall.mono ?_
 rintro e w' ⟨v,Φr,Hr,rfl,hR,hh⟩
 exact hK _ _ (next v Φr Hr hR a w' hf (hi.after hl hh))
theorem dyn_run {f:FuncId} {y:Operand} {xs:Array Operand} {ts:Array TypeId} {args0 args:List Value} {caps:Array Value} (ho:o.op = .call { callee:=.value y,args:=xs,argTypes:=ts }) (hy:evS S y = some (.func (.func f) #[] caps)) (hx:evL S xs.toList = some args0)
  (hfn:Q1s P f = true) (ha:args0 ++ caps.toList = args) : ∀ a w,Frm n S a → (execOp a.eval o).run P w = .ok (.enter f args.toArray) w:=by
 intro a w hf
 have hargs:xs.map a.eval = args0.toArray:=by
  have:=hf.evalL hx
  have h0:xs = xs.toList.toArray:=by simp
  rw [← this,h0,List.map_toArray]
 have h2:(resolve a.eval { callee:=.value y,args:=xs,argTypes:=ts } o.type).run P w = .ok { target:=.fn (.func f) caps,args:=args0.toArray } w:=by
  simp [resolve,hf.eval hy,Deferred.ofValue,hargs]
 have h3:args0.toArray ++ caps = args.toArray:=by rw [← ha]; simp
 unfold execOp
 simp only [ho,Sem.run_bind,h2,Result.andThen_ok]
 simp [invoke,QaV hfn,h3]
theorem Q1J {f:FuncId} {y:Operand} {xs:Array Operand} {ts:Array TypeId} {args0 args:List Value} {caps:Array Value} {Φf Hf:List Fact} {R:Value → List Fact → List Fact → Prop} (l m:List Nat) (hg:Q1O ops S o = some true) (hd:o.dst = some d) (hn:Nat.blt d n = true) (hS:Q36 d S = S')
  (ho:o.op = .call { callee:=.value y,args:=xs,argTypes:=ts }) (hy:evS S y = some (.func (.func f) #[] caps)) (hx:evL S xs.toList = some args0) (hfn:Q1s P f = true) (ha:args0 ++ caps.toList = args)
  (hH:Q2l H l = Hf) (spec:Q14 P f args Φf Hf R) (hΦ : ∀ F w,(∀ ψ ∈ Φ,ψ.p F w) → ∀ φ ∈ Φf,φ.p F w) (hl:Q30 (l ++ m) H.length = true) (hm:Q2l H m = H')
  (next : ∀ v Φr Hr,R v Φr Hr → WL P C n Q (Φr ++ Φ) (Hr ++ H') ((d,v) :: S') ops rest):WL P C n Q Φ H S ops (o :: rest) :=
 call_any l m hg (dyn_run ho hy hx hfn ha) hH spec hΦ hl hm fun v Φr Hr hR a w hf hw=>by rw [hd]; exact next v Φr Hr hR _ w (hf.put (Nat.le_of_ble_eq_true hn) hS) hw
theorem Q2i {f:FuncId} {xs:Array Operand} {caps:List Value} (hg:Q1O ops S o = some true) (hd:o.dst = some d) (hn:Nat.blt d n = true) (hS:Q36 d S = S') (ho:o.op = .makeFunc (.func f) #[] xs) (hx:evL S xs.toList = some caps)
  (next:WL P C n Q Φ H ((d,.func (.func f) #[] caps.toArray) :: S') ops rest):WL P C n Q Φ H S ops (o :: rest) :=
 QaR hg hd hn hS (fun a w hf _=>by
  have hargs:xs.map a.eval = caps.toArray:=by
   have:=hf.evalL hx
   have h0:xs = xs.toList.toArray:=by simp
   rw [← this,h0,List.map_toArray]
  simp [execOp,ho,Instr.makeFunc,hargs]) next
end
end Go.Proofs.YtbgodclhmgmcgaaGreatDoor
namespace Go.Proofs.YtbgodclhmgmcgaaGreatDoor
open Go Go.RowKit
section
variable {P:Program} {C:Ctx} {n:FD} {Q:Exit → Act → World → Prop} {Φ Φ' : List Fact} {H H' : List Fact} {S S' : List (Nat × Value)} {ops:Array Oper} {rest:List Oper} {o:Oper} {d:Nat}
theorem Q81 {α:Type} {t e e2 sz by_ m2:Nat} {s x:Operand} {R:Rep α} {v z:Value} {l l2:List α} {p:Option Addr} {cp:Nat} (k j:Nat) (hg:Q1O ops S o = some true) (hd:o.dst = some d) (hn:Nat.blt d n = true) (hS:Q36 d S = S')
  (ho:o.op = .call { callee:=.builtin .append,args:=#[s,x],argTypes:=#[t,t] }) (hφ:H[k]? = some (.own e sz R v l)) (hs:evS S s = some v) (hψ:H[j]? = some (.own e2 sz R (.slice p m2 cp) l2)) (hx:evS S x = some (.slice p l2.length cp))
  (he:Q3h P t = some e) (hr:tRow P e = some (z,sz,by_)) (hzs:Nat.beq z.cells.size sz = true) (hsz:Nat.blt 0 sz = true) (h63:l.length + l2.length ≤ 9223372036854775807) (hby:(l.length + l2.length) * by_ ≤ 140737488355328)
  {H2:Option Addr → Nat → List Fact} (hH : ∀ p' c',H.set k (.own e sz R (.slice p' (l ++ l2).length c') (l ++ l2)) = H2 p' c') (next : ∀ p' c',WL P C n Q Φ (H2 p' c') ((d,.slice p' (l ++ l2).length c') :: S') ops rest):WL P C n Q Φ H S ops (o :: rest) :=
 QbY k hg hd hn hS ho hφ hs hx (fun F N w hi=>by
  obtain ⟨_,xs,ho,hch⟩:=hi.owns j _ hψ
  rcases ho.2 with ⟨h0,h00⟩ | ⟨g,cap,cur,hv,_⟩
  · exact ⟨xs,hch,fun h=>absurd h (by omega)⟩
  ·cases hv
   refine ⟨xs,hch,fun _=>⟨g,0,rfl,fun q u hq=>?_⟩⟩
   have:=ho.cells (g:=g) rfl q u hq
   rwa [Q6Q] at this) he hr hzs hsz h63 hby hH next
end
theorem set_get {α:Type} {l:List α} {k:Nat} {x : α} (h:l[k]? = some x):l.set k x = l:=by
 obtain ⟨h1,rfl⟩:=List.getElem?_eq_some_iff.1 h
 exact List.set_getElem_self h1
end Go.Proofs.YtbgodclhmgmcgaaGreatDoor
