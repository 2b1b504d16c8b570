import Derived.Test.YtgangmegcejllaaGreatDoorBase
namespace Go.Proofs.YtgangmegcejllaaGreatDoor
open Go
def Result.wld {α:Type}:Result α → World
 | .ok _ w=>w
 | .halt _ w=>w
theorem ask_dr {α:Type} : ∀ (a:Ask α) (w:World),w.drawn ≤ (w.ask a).2.drawn
 | .done _,_=>Nat.le_refl _
 | .ask what range k,w=>by
   unfold World.ask
   simp only
   split
   · exact ask_dr (k 0) w
   · exact Nat.le_trans (Nat.le_succ _) (ask_dr _ { w with drawn:=w.drawn + 1 })
theorem sys_dr (w:World) (c:Sys):w.drawn ≤ (w.sys c).2.drawn:=by
 have h:=ask_dr (Kernel.perform c w.os) w
 unfold World.sys
 split
 · exact Nat.le_refl _
 ·rename_i r os w' _ e
  rw [e] at h
  exact h
theorem freeze_dr (w:World) (a:Addr) (n:Nat):(w.freeze a n).drawn = w.drawn:=by
 unfold World.freeze; split <;> rfl
theorem farStore_dr {p:Program} {w w' : World} {a:Addr} {v:Value} {b:Bool} {l:List Addr} (h:w.farStore p a v b = .ok (w',l)):w'.drawn = w.drawn:=by
 unfold World.farStore at h
 split at h
 ·split at h
  ·rename_i r hr
   cases h
   unfold World.viewStore at hr
   simp only [bind,Except.bind,pure,Except.pure,throw,throwThe,MonadExceptOf.throw] at hr
   repeat' split at hr
   all_goals first | (cases hr; done) | (cases hr; rfl) | skip
  · cases h
 · cases h
theorem run_dr {α:Type} (p:Program) : ∀ (s:Sem α) (w:World),w.drawn ≤ (Result.wld (s.run p w)).drawn:=by
 intro s
 induction s with
 | pure a=>intro w; exact Nat.le_refl _
 | load m a k ih =>
   intro w; unfold Sem.run
   split
   · exact ih _ w
   ·split
    · exact ih _ w
    · exact Nat.le_refl _
 | store m a v k ih =>
   intro w
   cases v <;> unfold Sem.run <;> first
    | exact Nat.le_refl _
    | (split
       ·split
        · exact Nat.le_refl _
        · exact ih (w.setCell a _)
       ·split
        ·rename_i hf
         have:=ih (by assumption)
         rw [farStore_dr hf] at this; exact this
        · exact Nat.le_refl _)
 | new o k ih=>intro w; exact ih _ { w with heap:=w.heap.push o }
 | shape r k ih=>intro w; exact ih _ w
 | freeze a n k ih=>intro w; have:=ih (w.freeze a n); rw [freeze_dr] at this; exact this
 | frozen a k ih=>intro w; exact ih _ w
 | getObj r k ih =>
   intro w; unfold Sem.run
   split
   · exact Nat.le_refl _
   · exact ih _ w
   · exact Nat.le_refl _
 | setObj r o k ih =>
   intro w; unfold Sem.run
   split
   · exact Nat.le_refl _
   · exact ih { w with heap:=w.heap.setIfInBounds r o }
   · exact Nat.le_refl _
 | choose q k ih =>
   intro w; unfold Sem.run
   split
   · exact ih _ w
   · exact Nat.le_trans (Nat.le_succ _) (ih _ { w with drawn:=w.drawn + 1 })
 | sys c k ih=>intro w; exact Nat.le_trans (sys_dr w c) (ih _ (w.sys c).2)
 | program k ih=>intro w; exact ih _ w
 | mark m k ih=>intro w; exact ih w
 | halt h=>intro w; exact Nat.le_refl _
theorem runT_run {α:Type} (p:Program) : ∀ (s:Sem α) (w:World) (es:Array Event),(s.runT p w es).1 = s.run p w:=by
 intro s
 induction s with
 | pure a=>intro w es; rfl
 | load m a k ih =>
   intro w es; simp only [Sem.runT,Sem.run]
   cases w.cell? a with
   | some v=>exact ih _ _ _
   | none =>
     simp only
     cases w.farLoad p a (m == .atomic) with
     | ok r=>exact ih _ _ _
     | error h=>rfl
 | store m a v k ih =>
   intro w es
   cases v <;> simp only [Sem.runT,Sem.run] <;>
     (cases w.cell? a with
      | some v =>
        simp only
        split
        · rfl
        · exact ih _ _
      | none =>
        simp only
        split
        · exact ih _ _
        · rfl)
 | new o k ih=>intro w es; exact ih _ _ _
 | shape r k ih=>intro w es; exact ih _ _ _
 | freeze a n k ih=>intro w es; exact ih _ _
 | frozen a k ih=>intro w es; exact ih _ _ _
 | getObj r k ih =>
   intro w es; simp only [Sem.runT,Sem.run]
   split
   · rfl
   · exact ih _ _ _
   · rfl
 | setObj r o k ih =>
   intro w es; simp only [Sem.runT,Sem.run]
   split
   · rfl
   · exact ih _ _
   · rfl
 | choose q k ih =>
   intro w es; simp only [Sem.runT,Sem.run]
   split
   · exact ih _ _ _
   · exact ih _ _ _
 | sys c k ih=>intro w es; exact ih _ _ _
 | program k ih=>intro w es; exact ih _ _ _
 | mark m k ih=>intro w es; exact ih _ _
 | halt h=>intro w es; rfl
theorem Qae {α:Type} (p:Program) (s:Sem α) (w:World) (es:Array Event):w.drawn ≤ (Result.wld (s.runT p w es).1).drawn:=by
 rw [runT_run]; exact run_dr p s w
theorem runT_le {α:Type} {p:Program} {s:Sem α} {w:World} {es es' : Array Event} {r:Result α} (e:s.runT p w es = (r,es')):w.drawn ≤ (Result.wld r).drawn:=by
 have h:=Qae p s w es
 rw [e] at h; exact h
theorem Q8R {α:Type} {p:Program} {s:Sem α} {w:World} {r:Result α} (e:s.run p w = r):w.drawn ≤ (Result.wld r).drawn:=by
 have h:=run_dr p s w
 rw [e] at h; exact h
def GStep.dr (d:Nat):GStep → Prop
 | .go _ w _=>d ≤ w.drawn
 | .comm _ _ _ _ w _=>d ≤ w.drawn
 | .spawn _ _ w _=>d ≤ w.drawn
 | .count _ w _=>d ≤ w.drawn
 | .timer _ _ w _=>d ≤ w.drawn
 | .alone _ _ w _=>d ≤ w.drawn
 | .newcoro _ _ _ w _=>d ≤ w.drawn
 | .coroswitch _ _ _ w _=>d ≤ w.drawn
 | .collect _ w _=>d ≤ w.drawn
 | .watch _ w _=>d ≤ w.drawn
 | .ended _ _ _=>True
theorem ite_dr {d:Nat} {c:Prop} [Decidable c] {a b:GStep} (ha:GStep.dr d a) (hb:GStep.dr d b):GStep.dr d (if c then a else b):=by split <;> assumption
theorem Q8z {d:Nat} {es:Array Event} {g:GStep} (h:GStep.dr d g):GStep.dr d (g.after es):=by cases g <;> exact h
section
variable {p:Program} {main:Bool} {fr:Frame} {callers:List Frame} {dying:Option Dying} {w:World} {d:Nat}
theorem Qax (h:d ≤ w.drawn) (v:Value):GStep.dr d (doReturn p main fr callers dying v w):=by
 unfold doReturn
 repeat' split
 all_goals first | trivial | exact h
theorem Qaz (h:d ≤ w.drawn) (m:String):GStep.dr d (endThrow fr m w):=h
theorem Qay (h:d ≤ w.drawn) (v:Value):GStep.dr d (endPrinting p fr v w):=by
 unfold endPrinting
 simp only
 split
 · exact h
 · trivial
theorem endFatal_dr (h:d ≤ w.drawn) (m:String):GStep.dr d (endFatal p fr callers dying m w):=by
 unfold endFatal
 extract_lets chain raw shown
 have h1:=run_dr p shown w
 generalize shown.run p w = r at h1
 match r with
 | .ok (texts,tabs) w'=>exact Nat.le_trans h h1
 | .halt (.unsupported u) w'=>trivial
 | .halt (.panic _) _ | .halt .goexit _ | .halt .blocked _ | .halt .waiting _ | .halt (.exit _) _ | .halt (.fatal _) _ | .halt (.throw _) _ | .halt (.stuck _) _=>trivial
theorem endWith_dr (fd:Nat) (text:ByteArray) (o:Outcome):GStep.dr d (endWith w fd text o):=by
 unfold endWith
 simp only
 split
 · split <;> trivial
 · trivial
 · trivial
theorem writeOn_dr (h:d ≤ w.drawn) (y:Dying) (f:Fatal):GStep.dr d (writeOn p fr y f w):=by
 unfold writeOn
 extract_lets on
 split
 · trivial
 ·extract_lets
  split
  all_goals first | trivial | exact Nat.le_trans h (runT_le (by assumption))
theorem die_dr (h:d ≤ w.drawn) (y:Dying):GStep.dr d (die p fr y w):=by
 unfold die
 split
 · exact writeOn_dr h _ _
 ·split
  ·split
   · exact h
   · exact endWith_dr _ _ _
  ·extract_lets y2
   split
   · exact h
   ·rename_i s _
    have h1:=run_dr p (withAddress s) w
    generalize (withAddress s).run p w = r at h1
    match r with
    | .ok s w'=>exact Nat.le_trans h h1
    | .halt _ w'=>trivial
   ·rename_i v _ _ _ t recv name _
    have h1:=Qae p (invoke (.fn (.method name) #[]) #[.iface t recv]) w #[]
    generalize (invoke (.fn (.method name) #[]) #[.iface t recv]).runT p w #[] = r at h1
    obtain ⟨r,es⟩:=r
    simp only
    refine Q8z ?_
    split
    · exact Nat.le_trans h h1
    · exact Nat.le_trans h h1
    · trivial
    · exact Qay (Nat.le_trans h h1) _
    · trivial
   · trivial
theorem callDeferred_dr (h:d ≤ w.drawn) (y:Deferred):GStep.dr d (callDeferred p fr callers dying y w):=by
 unfold callDeferred
 refine ite_dr trivial ?_
 ·have h1:=Qae p (invoke y.target y.args) w #[]
  generalize (invoke y.target y.args).runT p w #[] = r at h1
  obtain ⟨r,es⟩:=r
  simp only
  refine Q8z ?_
  split
  all_goals first | trivial | exact Nat.le_trans h h1 | exact endFatal_dr (Nat.le_trans h h1) _ | exact Qaz (Nat.le_trans h h1) _ | (split <;> exact Nat.le_trans h h1)
theorem unwind_dr (h:d ≤ w.drawn):GStep.dr d (unwind p main fr callers dying w):=by
 unfold unwind
 split
 ·rename_i block _ ds _
  have h1:=Qae p (Instr.takeDeferred block) w #[]
  generalize (Instr.takeDeferred block).runT p w #[] = r at h1
  obtain ⟨r,es⟩:=r
  simp only
  refine Q8z ?_
  split
  · exact Nat.le_trans h h1
  · trivial
 · exact callDeferred_dr h _
 ·split
  · trivial
  ·split
   · trivial
   ·split
    · exact h
    ·split
     ·split
      · exact h
      ·rename_i chain _ _ _ _ _
       have h1:=run_dr p (reportChain chain false) w
       generalize (reportChain chain false).run p w = r at h1
       split
       · exact Nat.le_trans h h1
       · trivial
       · trivial
     ·split
      · exact Qay h _
      · trivial
  ·split
   · exact Qax h _
   ·rename_i fn _
    have h1:=Qae p (results fn fr.tmps) w #[]
    generalize (results fn fr.tmps).runT p w #[] = r at h1
    obtain ⟨r,es⟩:=r
    simp only
    refine Q8z ?_
    split
    · exact Qax (Nat.le_trans h h1) _
    · trivial
    · trivial
theorem early_dr (h:d ≤ w.drawn) (g:Nat):GStep.dr d (early p fr callers dying g w):=by
 unfold early
 extract_lets refuse notYet
 have hn : ∀ w:World,d ≤ w.drawn → GStep.dr d (notYet w):=fun w hw=>by
  show GStep.dr d (match w.heap[g]? with
   | some (.pending c elem)=>.go { frame:=fr,callers,status:=.running,dying } { w with heap:=w.heap.setIfInBounds g (.cells c elem) }
   | _=>.ended (.stuck "early: the variable does not wait" (fr.pos p)) w)
  split
  · exact hw
  · trivial
 split
 · exact hn w h
 ·split
  · trivial
  ·rename_i f _
   extract_lets there
   have ht : ∀ w:World,d ≤ w.drawn → GStep.dr d (there w):=fun w hw=>hw
   split
   · exact hn w h
   ·split
    · exact hn w h
    ·split
     · trivial
     · exact ht w h
     · trivial
     · exact hn w h
     ·split
      · exact ht w h
      ·split
       · exact hn w h
       ·have h1:=run_dr p (choose (.early g)) w
        generalize (choose (.early g)).run p w = r at h1
        split
        · exact hn _ (Nat.le_trans h h1)
        · exact ht _ (Nat.le_trans h h1)
        · trivial
theorem elim_dr {α:Type} {d:Nat} {o:Option α} {a:GStep} {f : α → GStep} (ha:GStep.dr d a) (hf : ∀ x,GStep.dr d (f x)):GStep.dr d (o.elim a f):=by
 cases o with
 | none=>exact ha
 | some x=>exact hf x
theorem Qaw {listen:Bool} (h:d ≤ w.drawn) (s:Sem Next):GStep.dr d (stepG.apply p listen fr callers dying s w):=by
 unfold stepG.apply
 extract_lets go kind
 have key:w.drawn ≤ (Result.wld (if listen = true then s.runT p w #[] else (s.run p w,#[])).1).drawn:=by
  split
  · exact Qae p s w #[]
  · exact run_dr p s w
 generalize (if listen = true then s.runT p w #[] else (s.run p w,#[])) = re at key
 obtain ⟨r,es⟩:=re
 simp only
 refine Q8z ?_
 have h1:=Nat.le_trans h key
 simp only at h1
 clear key
 split
 all_goals first
  | trivial
  | exact h1
  | exact endFatal_dr h1 _
  | exact Qaz h1 _
  | exact early_dr h1 _
  | exact ite_dr (Qaz h1 _) h1
  | (split <;> exact h1)
  | (split <;> split <;> exact h1)
theorem oper_dr {listen:Bool} (h:d ≤ w.drawn):GStep.dr d (stepG.oper p listen fr callers dying w):=by
 unfold stepG.oper
 split
 · trivial
 ·split
  · exact Qaw h _
  · exact Qaw h _
theorem exec_dr {listen:Bool} (h:d ≤ w.drawn):GStep.dr d (stepG.exec p main listen fr callers dying w):=by
 unfold stepG.exec
 extract_lets go toK lost leave
 have hgo : ∀ f w',d ≤ w'.drawn → GStep.dr d (go f w'):=fun f w' hw=>hw
 have hto : ∀ k,GStep.dr d (toK k):=fun k=>h
 have hlost : ∀ s,GStep.dr d (lost s):=fun s=>trivial
 have hleave : ∀ j,GStep.dr d (leave j):=by
  intro j
  simp only [leave]
  split
  · exact ite_dr h trivial
  ·rename_i l _
   have h1:=Qae p (Instr.endRound l j) w #[]
   generalize (Instr.endRound l j).runT p w #[] = r at h1
   obtain ⟨r,es⟩:=r
   simp only
   refine Q8z ?_
   split
   · exact Qax (Nat.le_trans h h1) _
   · trivial
 clear_value leave
 split
 all_goals first
  | exact hleave _
  | exact hto _
  | exact hlost _
  | trivial
  | exact Qaw h _
  | exact elim_dr (hleave _) hto
  | exact elim_dr (hlost _) (fun _=>Qaw h _)
  | exact ite_dr (oper_dr h) (hgo _ _ h)
  | (split <;> first | exact hto _ | exact hlost _)
  | (refine ite_dr (hto _) ?_
     split
     · exact hgo _ _ (Nat.le_trans h (Q8R (by assumption)))
     · trivial)
  | (split
     rename_i r es heq
     have h1:=Nat.le_trans h (runT_le heq)
     refine Q8z ?_
     split
     · exact hgo _ _ h1
     · exact hgo _ _ h1
     · trivial)
  | (split
     rename_i r es heq
     have h1:=Nat.le_trans h (runT_le heq)
     refine Q8z ?_
     split
     · exact Qaw h1 _
     · trivial)
theorem stepG_dr {listen:Bool} {g:Goroutine} (h:d ≤ w.drawn):GStep.dr d (stepG p main g w listen):=by
 unfold stepG
 split
 split
 · exact die_dr h _
 · exact exec_dr h
 · exact unwind_dr h
end
def Stepped.dr (d:Nat):Stepped → Prop
 | .next m=>d ≤ m.world.drawn
 | .ended _ _=>True
section
variable {p:Program} {d:Nat}
theorem look_dr {gs:Array Goroutine} {rest:Rest} {w:World} (h:d ≤ w.drawn):Stepped.dr d (look p gs rest w):=by
 unfold look
 repeat' first
  | trivial
  | exact Nat.le_trans h (Q8R (by assumption))
  | split
  | extract_lets
theorem serve_dr {m:Machine} (h:d ≤ m.world.drawn) (k:Nat):Stepped.dr d (serve p m k):=by
 unfold serve
 split
 · trivial
 · exact h
 ·extract_lets
  split
  · trivial
  · exact h
theorem waitingAt_dr {rest:Rest} {cases:Array CommCase} {w w' : World} (e:waitingAt rest cases w = some w'):w'.drawn = w.drawn:=by
 unfold waitingAt at e
 split at e
 ·split at e
  · cases e; rfl
  · cases e
 · cases e; rfl
theorem drain_dr (w:World) (c:Nat):(drain w c).2.drawn = w.drawn:=by
 unfold drain
 split <;> rfl
theorem retime_dr (m:Machine) (k:Nat) (t:Timer) (a b:Nat):(retime m k t a b).2.world.drawn = m.world.drawn:=by
 unfold retime
 split
 rename_i had world heq
 simp only
 split at heq
 ·rename_i c _
  have:=drain_dr m.world c
  rw [heq] at this; exact this
 · cases heq; rfl
theorem timerOp_dr {m m' : Machine} {op:TimerOp} {v:Value} (e:timerOp m op = .ok (v,m')):m'.world.drawn = m.world.drawn:=by
 have hn : ∀ (m0:Machine) (var:Addr) (f:Nat → Timer → Value × Machine),(∀ k t,(f k t).2.world.drawn = m0.world.drawn) → timerOp.named m0 var f = .ok (v,m') → m'.world.drawn = m0.world.drawn:=fun m0 var f hf h=>by
  unfold timerOp.named at h
  split at h
  ·rename_i k _
   have:=hf k (m0.rest.timers.getD k default)
   cases hv:f k (m0.rest.timers.getD k default) with
   | mk a b =>
     rw [hv] at h this
     cases h; exact this
  · cases h
 unfold timerOp at e
 split at e
 ·split at e
  · cases e; rfl
  ·split at e
   · split at e
     · cases e
     · cases e; rfl
   · cases e
 · exact hn m _ _ (fun k t=>retime_dr m k t _ _) e
 ·split at e
  ·rename_i m1 hm
   have h1:m1.world.drawn = m.world.drawn:=by
     unfold timerOp.opened at hm
     split at hm
     ·split at hm
      · cases hm; rfl
      · cases hm
     · cases hm; rfl
   exact hn m _ _ (fun k t=>(retime_dr m1 k t _ _).trans h1) e
  · cases e
 · cases e; rfl
theorem communicate_dr {rest:Rest} {gs:Array Goroutine} {i:Nat} {g:Goroutine} {cases:Array CommCase} {blocking:Bool} {shape:CommShape} {w:World} (h:d ≤ w.drawn):Stepped.dr d (communicate p rest gs i g cases blocking shape w).1:=by
 unfold communicate
 extract_lets put illMade me other ready pick
 split
 · trivial
 ·split
  ·split
   ·split
    ·rename_i w1 e
     show d ≤ w1.drawn
     rw [waitingAt_dr e]; exact h
    · trivial
   · exact h
  ·split
   · trivial
   ·rename_i k c way w1 e
    have h1:d ≤ w1.drawn:=Nat.le_trans h (Q8R e)
    repeat' first
     | exact h1
     | trivial
     | exact Nat.le_trans h1 (Q8R (by assumption))
     | split
     | extract_lets
     | (have e2:=‹Sem.run p (runtimePanic _) w1 = _›; exact Nat.le_trans h1 (Q8R e2))
theorem runTm_dr {m:Machine} (h:d ≤ m.world.drawn) (i:Nat) (listen:Bool):Stepped.dr d (runT p m i listen).1:=by
 unfold runT
 extract_lets rest world
 split
 extract_lets wake fn pos s ops done
 have hs:GStep.dr d s:=stepG_dr h
 clear_value s
 split
 · trivial
 ·rename_i g cases blocking shape w es
  split
  rename_i r more e
  show Stepped.dr d (r,more).1
  rw [← e]
  exact communicate_dr (show d ≤ w.drawn from hs)
 · exact hs
 · exact hs
 ·extract_lets
  refine (?_:Stepped.dr d _)
  split
  · trivial
  · exact hs
 · exact hs
 · exact look_dr hs
 · exact hs
 · exact hs
 ·split
  · exact hs
  · exact hs
  · trivial
 ·split
  ·rename_i e
   show d ≤ _
   have:=timerOp_dr e
   rw [this]; exact hs
  · exact hs
  · trivial
  · trivial
def Move.dr (d:Nat):Move → Prop
 | .goroutine m _=>d ≤ m.world.drawn
 | .machine s _=>Stepped.dr d s
theorem askOn_dr {m:Machine} (h:d ≤ m.world.drawn):Move.dr d (askOn p m):=by
 unfold askOn
 extract_lets mono rs ds pick
 have hp : ∀ m1:Machine,d ≤ m1.world.drawn → Move.dr d (pick m1):=fun m1 h1=>by
  simp only [pick]
  split
  · trivial
  ·rename_i k w1 e
   have h2:=Nat.le_trans h1 (Q8R e)
   split
   · exact h2
   ·split
    · trivial
    ·rename_i n w2 e2
     exact Nat.le_trans h2 (Q8R e2)
 clear_value pick
 split
 · trivial
 ·rename_i k w1 e
  have h1:d ≤ w1.drawn:=Nat.le_trans h (Q8R e)
  clear_value rs
  extract_lets m1
  repeat' first
   | exact h1
   | trivial
   | exact serve_dr h1 _
   | exact hp _ h1
   | exact hp _ (Nat.le_trans h1 (Q8R (by assumption)))
   | exact Nat.le_trans h1 (Q8R (by assumption))
   | split
   | extract_lets
theorem ask_mdr {m:Machine} (h:d ≤ m.world.drawn):Move.dr d (Go.ask p m):=by
 unfold Go.ask
 split
 ·split
  · trivial
  ·rename_i w1 e
   have h1:d ≤ w1.drawn:=Nat.le_trans h (Q8R e)
   have hl:=look_dr (p:=p) (gs:=m.gs) (rest:=m.rest) h1
   split
   ·rename_i m2 e2
    rw [e2] at hl
    exact askOn_dr hl
   · exact hl
  ·rename_i w1 e
   exact askOn_dr (Nat.le_trans h (Q8R e))
 · exact askOn_dr h
theorem move_dr {m:Machine} (h:d ≤ m.world.drawn):Move.dr d (move p m):=by
 unfold move
 split
 ·split
  · exact h
  · trivial
 ·split
  ·split
   · exact h
   · exact ask_mdr h
  · exact ask_mdr h
theorem step_dr {m m' : Machine} (e:step p m = .next m'):m.world.drawn ≤ m'.world.drawn:=by
 have h:Stepped.dr m.world.drawn (step p m):=by
  unfold step stepT
  have hm:=move_dr (p:=p) (Nat.le_refl m.world.drawn)
  split
  ·rename_i m1 i e1
   rw [e1] at hm
   exact runTm_dr hm i true
  ·rename_i s ops e1
   rw [e1] at hm
   exact hm
 rw [e] at h
 exact h
theorem steps_dr {m m' : Machine} (h:Steps p m m'):m.world.drawn ≤ m'.world.drawn:=by
 obtain ⟨n,hn⟩:=h
 induction n generalizing m with
 | zero=>cases hn; exact Nat.le_refl _
 | succ n ih =>
   unfold runN at hn
   split at hn
   ·rename_i m1 e
    exact Nat.le_trans (step_dr e) (ih hn)
   ·rename_i hne
    exact absurd hn (fun e=>hne _ e)
theorem calls_drawn {f:FuncId} {args:Array Value} {w:World} {R:Ending → World → Prop} (h:Calls p f args w R):Calls p f args w (fun e w'=>R e w' ∧ ∀ v,e = .returned v → w.drawn ≤ w'.drawn):=fun cs=>by
 obtain ⟨e,w',fr,hR,hC,hf,hl⟩:=h cs
 refine ⟨e,w',fr,⟨hR,fun v hv=>?_⟩,hC,hf,hl⟩
 subst hv
 exact steps_dr (m:=lone (Frame.enter p f args .normal) cs w) (m':=lone fr cs w') hC
end
end Go.Proofs.YtgangmegcejllaaGreatDoor
