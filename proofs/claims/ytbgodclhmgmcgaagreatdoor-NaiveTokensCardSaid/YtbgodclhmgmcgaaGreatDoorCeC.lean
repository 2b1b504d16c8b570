import Derived.Test.YtbgodclhmgmcgaaGreatDoorCeN
import Derived.Test.YtbgodclhmgmcgaaGreatDoorPtr
namespace Go.Proofs.YtbgodclhmgmcgaaGreatDoor
open Go.RowKit
noncomputable section
abbrev Q7M:=Nat→List SV→Q1a→Nat→Nat→Option (SV×Q1a×Nat)
def opCall (P:Program)(call:Q7M)(fr:Tr)(hp:Q1a)(lo hi:Nat)(o:Oper)(y:Operand)(xs:Array Operand):Option (Option SV×Q1a×Nat):=match evC fr y,evCL fr xs.toList with
 | some (.fn f fi caps),some vs=>match Q15 P f with
   | true=>match call f (fi ++ vs ++ caps) hp lo hi with
     | some (v,hp',lo')=>some (some v,hp',lo')
     | none=>none
   | false=>match genC P fr o with
     | some v=>some (some v,hp,lo)
     | none=>none
 | _,_=>none
def opHeavy (P:Program)(fr:Tr)(hp:Q1a)(lo hi:Nat)(op:Op):Option (Option SV×Q1a×Nat):=match heavyG P fr hp lo op with
 | some (r,hp',lo')=>match Nat.ble lo' hi with
   | true=>some (r,hp',lo')
   | false=>none
 | none=>none
def opRead (P:Program)(fr:Tr)(hp:Q1a)(o:Oper):Option SV:=match pureC fr o.op with
 | some v=>some v
 | none=>match readA P fr hp o with
   | some (v,_)=>some v
   | none=>none
def isHeavy:Op→Bool
 | .alloc _ | .box _ _ | .makeSlice _ _ _ | .buildSlice _ _ _ | .store _ _ _ | .makeMap _ _ | .mapUpdate _ _ _ _ | .mapEntry _ _ _ | .entryStore _ _ _ _ | .range _ _ | .next _ _ | .entry _=>true
 | .call { callee:=.builtin .append,args:=_,argTypes:=_ }=>true
 | .call { callee:=.builtin .clear,args:=_,argTypes:=_ }=>true
 | .call { callee:=.builtin .delete,args:=_,argTypes:=_ }=>true
 | _=>false
def opC (P:Program)(call:Q7M)(fr:Tr)(hp:Q1a)(lo hi:Nat)(o:Oper):Option (Option SV×Q1a×Nat) :=
 match o.op with
 | .call { callee:=.value y,args:=xs,argTypes:=_ }=>opCall P call fr hp lo hi o y xs
 | op=>match isHeavy op with
   | true=>opHeavy P fr hp lo hi op
   | false=>match opRead P fr hp o with
     | some v=>some (some v,hp,lo)
     | none=>opHeavy P fr hp lo hi op
def oneC (P:Program)(call:Q7M)(n:Nat)(ops:Array Oper)(o:Oper)(fr:Tr)(hp:Q1a)(lo hi:Nat):Option (Tr×Q1a×Nat) :=
 match wantC ops fr o with
 | some false=>match o.dst with
   | some d=>match Nat.blt d n && Nat.blt d 16000 with
     | true=>some (fr.put d (.v undef),hp,lo)
     | false=>none
   | none=>none
 | some true=>match opC P call fr hp lo hi o with
   | some (some v,hp',lo')=>match o.dst with
     | some d=>match Nat.blt d n && Nat.blt d 16000 with
       | true=>some (fr.put d v,hp',lo')
       | false=>none
     | none=>some (fr,hp',lo')
   | some (none,hp',lo')=>match o.dst with
     | none=>some (fr,hp',lo')
     | some _=>none
   | none=>none
 | none=>none
def opsC (P:Program)(call:Q7M)(n:Nat)(ops:Array Oper)(hi:Nat):List Oper→Tr→Q1a→Nat→Option (Tr×Q1a×Nat)
 | [],fr,hp,lo=>some (fr,hp,lo)
 | o :: rest,fr,hp,lo=>match oneC P call n ops o fr hp lo hi with
   | some (fr',hp',lo')=>opsC P call n ops hi rest fr' hp' lo'
   | none=>none
def Q8c (P:Program)(E:List Value)(call:Q7M):Prop :=
 ∀ f args hp lo hi v hp' lo',call f args hp lo hi = some (v,hp',lo') → ∀ ρ vals H,SV.dens ρ E args = some vals → Q4q ρ E hp H → Q9h ρ lo hi →
   QY P f vals [] H (fun x Φr Hr=>Φr=[]∧∃ ρ',Ext ρ ρ' lo hi∧v.den ρ' E=some x∧Q4q ρ' E hp' Hr∧Q9h ρ' lo' hi∧lo≤lo')
theorem okIdx_mk : ∀ {l:List Nat} {m:Nat},(∀ i∈l,i < m)→l.Nodup→Q2o l m=true
 | [],_,_,_=>rfl
 | i :: l,m,h,hn=>by
   simp only [Q2o,Bool.and_eq_true,Bool.not_eq_true',List.any_eq_false]
   have hn':=List.nodup_cons.1 hn
   refine ⟨⟨Nat.ble_eq_true_of_le (h i (by simp)),fun j hj hb=>?_⟩,okIdx_mk (fun j hj=>h j (by simp [hj])) hn'.2⟩
   exact hn'.1 (by rw [Qw hb];exact hj)
theorem pickH_all (H:List Fact):Q1d H (List.range H.length)=H:=by
 unfold Q1d
 have : ∀ (A B:List Fact),(List.range B.length).filterMap (fun i=>(A++B)[A.length+i]?)=B:=by
  intro A B
  induction B generalizing A with
  | nil=>rfl
  | cons b B ih =>
    rw [List.length_cons,List.range_succ_eq_map,List.filterMap_cons]
    simp only [Nat.add_zero,List.getElem?_append_right (Nat.le_refl _),Nat.sub_self,List.getElem?_cons_zero]
    rw [List.filterMap_map]
    have:=ih (A++[b])
    simp only [List.append_assoc,List.singleton_append,List.length_append,List.length_singleton] at this
    have e:((fun i=>(A++b :: B)[A.length+i]?) ∘ Nat.succ)=fun i=>(A++b :: B)[A.length+1+i]?:=by
     funext i
     simp only [Function.comp,Nat.succ_eq_add_one]
     rw [show A.length+(i+1)=A.length+1+i from by omega]
    rw [e,this]
 simpa using this [] H
theorem dyn_run2 {P:Program} {n:FD} {S:List (Nat×Value)} {o:Oper} {f:FuncId} {y:Operand} {xs:Array Operand} {ts:Array TypeId} {args0 args:List Value} {fi caps:Array Value} (ho:o.op=.call { callee:=.value y,args:=xs,argTypes:=ts })(hy:evS S y=some (.func (.func f) fi caps))(hx:evL S xs.toList=some args0)
  (hfn:Q15 P f=true) (ha:fi.toList++args0++caps.toList=args) : ∀ (a:Act) w,Frm n S a→(execOp a.eval o).run P w=.ok (.enter f args.toArray) w:=by
 intro a w hf
 have hargs:xs.map a.eval=args0.toArray:=by
  have:=hf.evalL hx
  have h0:xs=xs.toList.toArray:=by simp
  rw [← this,h0,List.map_toArray]
 have h2:(resolve a.eval { callee:=.value y,args:=xs,argTypes:=ts } o.type).run P w=.ok { target:=.fn (.func f) caps,args:=fi++args0.toArray } w:=by
  simp [resolve,hf.eval hy,Deferred.ofValue,hargs]
 have h3:fi++args0.toArray++caps=args.toArray:=by rw [← ha];simp
 unfold execOp
 simp only [ho,Sem.run_bind,h2,Result.andThen_ok]
 simp [invoke,QbA hfn,← h3]
section run
variable {P:Program} {C:Ctx} {n:FD} {Q:Exit → Act → World → Prop} {E:List Value} {call:Q7M} {ops:Array Oper} {rest:List Oper}
def GoesC (P:Program)(C:Ctx)(n:FD)(Q:Exit→Act→World→Prop)(E:List Value)(ops:Array Oper)(rest:List Oper)(ρ:Env)(lo hi:Nat)(fr:Tr)(hp:Q1a)(lo' : Nat):Prop :=
 ∀ ρ' S' H',Ext ρ ρ' lo hi→Rel ρ' E fr hp S' H' →Q9h ρ' lo' hi→lo≤lo' →WL P C n Q [] H' S' ops rest
theorem opC_spec (hcall:Q8c P E call) {fr:Tr} {hp hp' : Q1a} {lo lo' hi:Nat} {o:Oper} {r:Option SV} (he:opC P call fr hp lo hi o=some (r,hp',lo')) {ρ:Env} {S:List (Nat×Value)} {H:List Fact} (h:Rel ρ E fr hp S H)(hf:Q9h ρ lo hi)
  (hg:Q18 ops S o=some true)
  (next : ∀ ρ' H' x,Ext ρ ρ' lo hi→Q4q ρ' E hp' H' →Q9h ρ' lo' hi→lo≤lo' →(match r with | some v=>v.den ρ' E=some x | none=>o.dst=none)→(∀ a w,Frm n S a→QC C [] H' w→wpList P ops Q rest (a.put o.dst x) w)) (hr:r=none→o.dst=none) :
  WL P C n Q [] H S ops (o :: rest):=by
 have heavy : ∀ {op:Op},op = o.op → opHeavy P fr hp lo hi op = some (r,hp',lo') → WL P C n Q [] H S ops (o :: rest):=by
  intro op hop he
  unfold opHeavy at he
  subst hop
  split at he
  ·rename_i r' hp2 lo2 hh
   split at he
   ·rename_i hle
    cases he
    intro a w hfr hw
    obtain ⟨nx,w',h1,ρ',H',e1,e2,e3,e4,e5,e6⟩:=heavyG_spec (P:=P) h hf hh (Nat.le_of_ble_eq_true hle) a w hfr hw
    refine wpList_step fun K hK=>?_
    rw [Q5J hfr hg,if_pos rfl]
    unfold Oper.wp
    rw [h1]
    cases r with
    | some v =>
      obtain ⟨x,rfl,h2⟩:=e6
      rw [Oper.upon_value]
      exact hK _ _ (next ρ' H' x e1 e2 e3 e4 h2 a w' hfr e5)
    | none =>
      obtain rfl:=e6
      rw [Oper.upon_skip]
      exact hK _ _ (next ρ' H' undef e1 e2 e3 e4 (hr rfl) a w' hfr e5)
   · cases he
  · cases he
 have read : ∀ {v:SV} {d:Option Nat},ReadOk P n ρ E hp S H o v d→(r,hp',lo')=(some v,hp,lo)→WL P C n Q [] H S ops (o :: rest):=by
  rintro v d ⟨x,B,m,h1,h2,_,_,h3⟩ e
  cases e
  intro a w hfr hw
  have hdep:DepW [] B w:=by
   obtain ⟨F,N,hi'⟩:=hw
   refine ⟨⟨F,fun φ hφ=>by cases hφ⟩,fun b hb=>?_⟩
   rw [← h2] at hb
   obtain ⟨i,_,hb⟩:=List.mem_filterMap.1 hb
   exact ⟨_,_,hi'.owns i b hb⟩
  refine wpList_step fun K hK=>?_
  rw [Q5J hfr hg,if_pos rfl]
  unfold Oper.wp
  rw [h3 a w hfr hdep,Oper.upon_value]
  exact hK _ _ (next ρ H x (Ext.refl _ _ _) h.hp hf (Nat.le_refl _) h1 a w hfr hw)
 unfold opC at he
 split at he
 ·
  rename_i y xs ts ho
  unfold opCall at he
  split at he
  ·rename_i f fi caps vs hy hxs
   split at he
   ·rename_i hfn
    split at he
    · rename_i v hp2 lo2 hc
      cases he
      obtain ⟨u,h1,h2⟩:=Q1r h hy
      obtain ⟨us,cs,h6,h3,rfl⟩:=fn_den h1
      obtain ⟨ys,h4,h5⟩:=Qek h hxs
      have hspec:=hcall _ _ _ _ _ _ _ _ hc ρ (us++ys++cs) H (Q7p (Q7p h6 h4) h3) h.hp hf
      refine call_any (List.range H.length) [] hg (dyn_run2 (args:=us++ys++cs) ho h2 h5 hfn (by simp)) (pickH_all H) hspec (fun F w _ φ hφ=>by cases hφ) (okIdx_mk (by simp) (by simpa using List.nodup_range)) (H':=[]) rfl ?_
      rintro x Φr Hr ⟨rfl,ρ',e1,e2,e3,e4,e5⟩ a w hfr hw
      exact next ρ' Hr x e1 e3 e4 e5 e2 a w hfr (by simpa using hw)
    · cases he
   ·split at he
    · rename_i v hv
      exact read (genC_spec (P:=P) (n:=n) h hv) (Option.some.inj he).symm
    · cases he
  · cases he
 ·split at he
  · exact heavy rfl he
  ·split at he
   ·rename_i v hv
    unfold opRead at hv
    split at hv
    · rename_i v' hv'
      cases hv
      obtain ⟨x,h1,h2⟩:=pureC_spec h hv'
      exact read (d:=none) ⟨x,[],[],h1,rfl,fun _=>rfl,(fun _ h=>by cases h),fun a w hf _=>pureOp_run hf h2 w⟩ (Option.some.inj he).symm
    · split at hv
      ·rename_i v' d hv'
       cases hv
       exact read (readA_spec (P:=P) (n:=n) h hv') (Option.some.inj he).symm
      · cases hv
   · exact heavy rfl he
theorem oneC_spec (hcall:Q8c P E call) {fr fr' : Tr} {hp hp' : Q1a} {lo lo' hi:Nat} {o:Oper} (he:oneC P call n ops o fr hp lo hi=some (fr',hp',lo')) {ρ:Env} {S:List (Nat×Value)} {H:List Fact} (h:Rel ρ E fr hp S H)(hf:Q9h ρ lo hi)
  (next:GoesC P C n Q E ops rest ρ lo hi fr' hp' lo'):WL P C n Q [] H S ops (o :: rest):=by
 unfold oneC at he
 split at he
 ·
  rename_i hw
  split at he
  ·rename_i d hd
   split at he
   ·rename_i hb
    cases he
    simp only [Bool.and_eq_true] at hb
    have:=Nat.le_of_ble_eq_true hb.2
    exact wl_off (QdG h hw) hd hb.1 rfl (next ρ _ H (Ext.refl _ _ _) (h.put (fun _ _ h=>h) (by omega) rfl h.hp) hf (Nat.le_refl _))
   · cases he
  · cases he
 ·rename_i hw
  have hg:=QdG h hw
  split at he
  ·rename_i v hp2 lo2 ho
   split at he
   ·rename_i d hd
    split at he
    ·rename_i hb
     cases he
     simp only [Bool.and_eq_true] at hb
     have h16:=Nat.le_of_ble_eq_true hb.2
     refine opC_spec hcall ho h hf hg (fun ρ' H' x e1 e2 e3 e4 e5 a w hfr hw'=>?_) (fun e=>by cases e)
     rw [hd]
     exact next ρ' _ H' e1 (h.put e1.le (by omega) e5 e2) e3 e4 _ w (hfr.put (Nat.le_of_ble_eq_true hb.1) rfl) hw'
    · cases he
   ·rename_i hd
    cases he
    refine opC_spec hcall ho h hf hg (fun ρ' H' x e1 e2 e3 e4 e5 a w hfr hw'=>?_) (fun e=>by cases e)
    rw [hd]
    exact next ρ' S H' e1 (h.mono e1.le e2) e3 e4 _ w hfr hw'
  ·rename_i hp2 lo2 ho
   split at he
   ·rename_i hd
    cases he
    refine opC_spec hcall ho h hf hg (fun ρ' H' x e1 e2 e3 e4 e5 a w hfr hw'=>?_) (fun _=>hd)
    rw [hd]
    exact next ρ' S H' e1 (h.mono e1.le e2) e3 e4 _ w hfr hw'
   · cases he
  · cases he
 · cases he
theorem opsC_spec (hcall:Q8c P E call) {hi:Nat} : ∀ {l:List Oper} {fr fr' : Tr} {hp hp' : Q1a} {lo lo' : Nat},opsC P call n ops hi l fr hp lo=some (fr',hp',lo')→∀ {ρ:Env} {S:List (Nat×Value)} {H:List Fact},Rel ρ E fr hp S H→Q9h ρ lo hi→
   (∀ ρ' S' H',Ext ρ ρ' lo hi→Rel ρ' E fr' hp' S' H' →Q9h ρ' lo' hi→lo≤lo' →WE C n Q [] H' S' .normal)→WL P C n Q [] H S ops l
 | [],fr,fr',hp,hp',lo,lo',he,ρ,S,H,h,hf,next=>by
   cases he
   exact Q2 (next ρ S H (Ext.refl _ _ _) h hf (Nat.le_refl _))
 | o :: l,fr,fr',hp,hp',lo,lo',he,ρ,S,H,h,hf,next=>by
   unfold opsC at he
   split at he
   ·rename_i fr2 hp2 lo2 h1
    exact oneC_spec hcall h1 h hf fun ρ' S' H' e1 e2 e3 e4=>opsC_spec hcall he e2 e3 fun ρ'' S'' H'' f1 f2 f3 f4=>next ρ'' S'' H'' (e1.trans f1 e4 (Nat.le_refl _)) f2 f3 (by omega)
   · cases he
end run
end
end Go.Proofs.YtbgodclhmgmcgaaGreatDoor
