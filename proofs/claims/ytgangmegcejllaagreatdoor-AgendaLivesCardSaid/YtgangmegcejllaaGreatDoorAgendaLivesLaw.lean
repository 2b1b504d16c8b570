import Derived.Test.YtgangmegcejllaaGreatDoorRows
import Derived.Test.YtgangmegcejllaaGreatDoorCards
import Derived.Test.YtgangmegcejllaaGreatDoorTie
import Derived.ProofKit
import Derived.LaidMore
import Derived.OpenShut
import Derived.Stop.Joined
import Derived.SevenTiedAt
import Derived.Test.YtgangmegcejllaaGreatDoorXW9
import Derived.Test.YtgangmegcejllaaGreatDoorAgLivP
namespace Go.Proofs.YtgangmegcejllaaGreatDoor
open Go.ChangeShapes Go.WideShapes Go.ChangeAt Go.RowKit Go.Deep
set_option maxRecDepth 100000 in
theorem open_i64_3 {H:Type} {enc:TypeId × Value → H} {w:World} {base:Nat} {spare:Nat → Bool} {held:Bool} {fuel:Nat} {cs:List Value} {y:DataW H × List MemPlace} (h:DataW.trod enc Tryz.prog w base spare held fuel 3 cs = some y) (hw:Snug Tryz.prog 3 y.1) : ∃ x:Int,Qi.p (fun k=>k < w.heap.size) w cs x ∧ inK .i64 x:=by
 obtain ⟨x,e,_,ok⟩:=DataW.trod_int Tryz.underlying3 h
 exact ⟨x,⟨(),e,Qv⟩,wf_inK ok⟩
set_option maxRecDepth 100000 in
theorem open_Api_TokenD_45 {H:Type} {enc:TypeId × Value → H} {w:World} {base:Nat} {spare:Nat → Bool} {held:Bool} {fuel:Nat} {cs:List Value} {y:DataW H × List MemPlace} (h:DataW.trod enc Tryz.prog w base spare held fuel 45 cs = some y) (hw:Snug Tryz.prog 45 y.1) : ∃ x:Q1,Q9.p (fun k=>k < w.heap.size) w cs x ∧ Q9a x:=by
 obtain ⟨n,hl,hf⟩:=trod_fields Tryz.underlying45 h hw
 have c:Tryz.prog.cellsOf 45 = 2:=by kernel_rfl
 rw [c] at hl
 match cs,hl with
 | [c0,c1],_ =>
 obtain ⟨z0,h0,g0⟩ : ∃ z,DataW.trod enc Tryz.prog w base spare held n 3 ((List.drop 0 [c0,c1]).take (Tryz.prog.cellsOf 3)) = some z ∧ Snug Tryz.prog 3 z.1:=hf 0 _ rfl
 have d0:Tryz.prog.cellsOf 3 = 1:=by kernel_rfl
 simp only [d0,List.drop_zero,List.take_succ_cons,List.take_zero,List.drop_succ_cons] at h0
 obtain ⟨z1,h1,g1⟩ : ∃ z,DataW.trod enc Tryz.prog w base spare held n 22 ((List.drop 1 [c0,c1]).take (Tryz.prog.cellsOf 22)) = some z ∧ Snug Tryz.prog 22 z.1:=hf 1 _ rfl
 have d1:Tryz.prog.cellsOf 22 = 1:=by kernel_rfl
 simp only [d1,List.drop_zero,List.take_succ_cons,List.take_zero,List.drop_succ_cons] at h1
 obtain ⟨x0,⟨r0,e0,f0⟩,ok0⟩:=open_i64_3 h0 g0
 simp only [C_i64,List.cons.injEq,and_true] at e0
 obtain rfl:=e0
 obtain ⟨p1,k1,x1,e1,f1,ok1⟩:=Q9x Tryz.underlying22 (sz:=1) (R:=Qi) (q:=fun y=>inK .i64 y) (by kernel_rfl) (by decide) (fun _ _ _ h hw=>open_i64_3 h hw) h1 g1
 replace ok1:=And.intro (Q92 (m:=17592186043904) ok1.1 (by kernel_rfl:Tryz.prog.bytesOf 3 = 8) (by decide) (by decide) (by decide)) ok1.2
 simp only [List.cons.injEq,and_true] at e1
 subst e1
 exact ⟨⟨x0,x1⟩,⟨(p1,k1),rfl,(Qh f1 Qv)⟩,ok0,ok1⟩
set_option maxRecDepth 100000 in
theorem open_Ropewalklaw14_DoD_42 {H:Type} {enc:TypeId × Value → H} {w:World} {base:Nat} {spare:Nat → Bool} {held:Bool} {fuel:Nat} {cs:List Value} {y:DataW H × List MemPlace} (h:DataW.trod enc Tryz.prog w base spare held fuel 42 cs = some y) (hw:Snug Tryz.prog 42 y.1) : ∃ x:Q3c,Q2p.p (fun k=>k < w.heap.size) w cs x ∧ Q5C x:=by
 obtain ⟨n,hl,hf⟩:=trod_fields Tryz.underlying42 h hw
 have c:Tryz.prog.cellsOf 42 = 3:=by kernel_rfl
 rw [c] at hl
 match cs,hl with
 | [c0,c1,c2],_ =>
 obtain ⟨z0,h0,g0⟩ : ∃ z,DataW.trod enc Tryz.prog w base spare held n 3 ((List.drop 0 [c0,c1,c2]).take (Tryz.prog.cellsOf 3)) = some z ∧ Snug Tryz.prog 3 z.1:=hf 0 _ rfl
 have d0:Tryz.prog.cellsOf 3 = 1:=by kernel_rfl
 simp only [d0,List.drop_zero,List.take_succ_cons,List.take_zero,List.drop_succ_cons] at h0
 obtain ⟨z1,h1,g1⟩ : ∃ z,DataW.trod enc Tryz.prog w base spare held n 3 ((List.drop 1 [c0,c1,c2]).take (Tryz.prog.cellsOf 3)) = some z ∧ Snug Tryz.prog 3 z.1:=hf 1 _ rfl
 have d1:Tryz.prog.cellsOf 3 = 1:=by kernel_rfl
 simp only [d1,List.drop_zero,List.take_succ_cons,List.take_zero,List.drop_succ_cons] at h1
 obtain ⟨z2,h2,g2⟩ : ∃ z,DataW.trod enc Tryz.prog w base spare held n 40 ((List.drop 2 [c0,c1,c2]).take (Tryz.prog.cellsOf 40)) = some z ∧ Snug Tryz.prog 40 z.1:=hf 2 _ rfl
 have d2:Tryz.prog.cellsOf 40 = 1:=by kernel_rfl
 simp only [d2,List.drop_zero,List.take_succ_cons,List.take_zero,List.drop_succ_cons] at h2
 obtain ⟨x0,⟨r0,e0,f0⟩,ok0⟩:=open_i64_3 h0 g0
 simp only [C_i64,List.cons.injEq,and_true] at e0
 obtain rfl:=e0
 obtain ⟨x1,⟨r1,e1,f1⟩,ok1⟩:=open_i64_3 h1 g1
 simp only [C_i64,List.cons.injEq,and_true] at e1
 obtain rfl:=e1
 obtain ⟨p2,k2,x2,e2,f2,ok2⟩:=Q9x Tryz.underlying40 (sz:=2) (R:=Q9) (q:=fun y=>Q9a y) (by kernel_rfl) (by decide) (fun _ _ _ h hw=>open_Api_TokenD_45 h hw) h2 g2
 replace ok2:=And.intro (Q92 (m:=4398046510976) ok2.1 (by kernel_rfl:Tryz.prog.bytesOf 45 = 32) (by decide) (by decide) (by decide)) ok2.2
 simp only [List.cons.injEq,and_true] at e2
 subst e2
 exact ⟨⟨x0,x1,x2⟩,⟨(p2,k2),rfl,(Qh f2 Qv)⟩,ok0,ok1,ok2⟩
theorem law_own:ownKnob Tryz.prog.godebug = none:=by kernel_rfl
theorem law_laid:laidOutB Tryz.prog = true:=by kernel_rfl
theorem door_met (os:Os) (args:Array Value):laidMetH Tryz.prog Rows.agendaLivesRow.laid ((World.doorLaid Tryz.prog 4000 os).forCall (fun _ _=>0) ⟨#[],args,[]⟩).memory :=
 laidMetH_of_parts3 (fuel:=8) (laidMet_of_run' 8 (by kernel_rfl) (by kernel_rfl)) (by kernel_rfl) (by kernel_rfl)
set_option maxRecDepth 100000 in
theorem agendaLives_lifted (os:Os) (started:os.Started) (H:Type) (enc:TypeId × Value → H) :
  ReturnsInHanded {} Tryz.checked os 3 .any (fun w args => (Rows.agendaLivesSpec.pre enc Tryz.prog Tryz.f3 [] false w args ∧ laidMetH Tryz.prog Rows.agendaLivesRow.laid w) ∧ sizedMet enc Tryz.prog Tryz.f3 (OpenSpec.ofChange Rows.agendaLivesSpec) false w args)
   (Rows.agendaLivesSpec.post enc Tryz.prog Tryz.f3 false true false false):=by
 refine returnsInHanded_of_change_and (C := Tryz.checked) (X := fun w _ => laidMetH Tryz.prog Rows.agendaLivesRow.laid w) (fun _ _ _ hh h => h.of_heap hh) law_own started (by kernel_rfl) Tryz.func3
  (ChangeSpec.witness_shaped (enc:=enc) (C:=Tryz.checked) (os:=os) (X:=fun w _=>laidMetH Tryz.prog Rows.agendaLivesRow.laid w) false (World.doorLaid Tryz.prog 4000 os) #[.slice none 0 0,.slice none 0 0] 8 rfl (World.shaped_of_RefB (by kernel_rfl) (by kernel_rfl)) (by kernel_rfl) (by kernel_rfl) (by kernel_rfl) (door_met os _)) ?_
 intro W base args ds gs before hval0 hW hcnd hsz0 hL _
 have hval : ∀ (j:Nat) t v,Tryz.f3.params[j]? = some t → args[j]? = some v → Value.okWide Tryz.prog W .any base t v:=hval0
 have hW':=hW
 obtain ⟨p,q,hA0,hV,rfl,hfz,hnd⟩:=hW
 have hA:DataW.TrodAll enc Tryz.prog W 0 (fun _=>true) true Tryz.f3.params.toList args.toList ds p:=hA0
 have hsz:(DataW.weightsEach Tryz.prog (Tryz.f3.params.toList ++ _) (ds ++ gs)).all (· ≤ reachBytes) = true:=hsz0
 rw [Tryz.params3] at hA hval hsz
 clear hA0 hval0 hsz0
 obtain ⟨args⟩:=args
 obtain ⟨v0,r0,d0,s0,p0,q0,e0,rfl,rfl,⟨n0,h0⟩,hA⟩:=trodAll_cons hA
 obtain ⟨v1,r1,d1,s1,p1,q1,e1,rfl,rfl,⟨n1,h1⟩,hA⟩:=trodAll_cons hA
 obtain ⟨e2,rfl,rfl⟩:=trodAll_nil hA
 subst e2; subst e1
 simp only at e0
 subst e0
 obtain ⟨rfl,rfl⟩:=trodVars_none hV
 rw [okWide_sl Tryz.underlying22 (hval 0 _ v0 rfl rfl)] at h0
 obtain ⟨pa0,ca0,x0,e,hs0,ok0⟩:=Q9x Tryz.underlying22 (sz:=1) (R:=Qi) (q:=fun y=>inK .i64 y) (by kernel_rfl) (by decide) (fun _ _ _ h hw=>open_i64_3 h hw) h0 (fits_arg hsz 0 rfl rfl)
 replace ok0:=And.intro (Nat.le_trans (Q92 (m:=17592186043904) ok0.1 (by kernel_rfl:Tryz.prog.bytesOf 3 = 8) (by decide) (by decide) (by decide)) (by decide : 17592186043904 ≤ 140737488351232)) ok0.2
 simp only [List.cons.injEq,and_true] at e
 subst e
 rw [okWide_sl Tryz.underlying23 (hval 1 _ v1 rfl rfl)] at h1
 obtain ⟨pa1,ca1,x1,e,hs1,ok1⟩:=Q9x Tryz.underlying23 (sz:=3) (R:=Q2p) (q:=fun y=>Q5C y) (by kernel_rfl) (by decide) (fun _ _ _ h hw=>open_Ropewalklaw14_DoD_42 h hw) h1 (fits_arg hsz 1 rfl rfl)
 replace ok1:=And.intro (Nat.le_trans (Q92 (m:=3518437208780) ok1.1 (by kernel_rfl:Tryz.prog.bytesOf 42 = 40) (by decide) (by decide) (by decide)) (by decide : 3518437208780 ≤ 140737488351232)) ok1.2
 simp only [List.cons.injEq,and_true] at e
 subst e
 have hfil:=(laidMetH_iff.1 hL).1.filter (fun x=>x.1 == "internal/strconv.uint64pow10")
 have efil:((Rows.agendaLivesRow.laid.filter fun x=>x.2.handleName?.isNone).filter fun x=>x.1 == "internal/strconv.uint64pow10") = [("internal/strconv.uint64pow10",Lib.tabData .u64 Lib.pow10Tab)]:=by kernel_rfl
 rw [efil] at hfil
 have htab:Lib.TabIs Tryz.prog W "internal/strconv.uint64pow10" .u64 Lib.pow10Tab:=Lib.tabIs_of_head (t:=332) (e:=163) (n:=20) pow10_g (by kernel_rfl) (by kernel_rfl) (by kernel_rfl) (by kernel_rfl) (by kernel_rfl) hfil
 have hcall:=spec_calls (Q8f 9223372036854776808 pa0 ca0 x0 pa1 ca1 x1 _ (agliv_arg x0 ok0 x1 ok1)) (w:=W) (Qh hs0 (Qh hs1 (Qh (tabF_of htab) Qv)))
 refine hcall.mono fun e W' ⟨he,hm⟩=>?_
 subst he
 have hb:Below W.heap.size W W':=hm.to_below (Nat.le_refl _) (fun _ h=>h.elim)
 refine ⟨_,rfl,law_post law_laid ?_ rfl Tryz.underlying4 rfl hW' rfl rfl rfl hb⟩
 rw [Tryz.params3]
 intro t ht
 simp only [List.mem_cons,List.not_mem_nil,or_false] at ht
 rcases ht with rfl | rfl <;> exact ⟨by kernel_rfl,of_decide_eq_true (by kernel_rfl)⟩
theorem agendaLives_row:Rows.AgendaLivesSaid :=
 OpenClaim.holds_of_wide 3 Tryz.f3 rfl rfl rfl rfl rfl rfl rfl ⟨rfl, rfl, rfl, rfl, rfl⟩ rfl rfl rfl rfl rfl (by kernel_rfl) Tryz.func3 (by kernel_rfl)
  (of_decide_eq_true (by kernel_rfl)) (by unfold Func.isWrapper; first | (rw [if_pos (by decide +kernel)]; kernel_rfl) | (rw [if_neg (by decide +kernel)]; exact ⟨rfl,rfl⟩))
  (fun os started H enc _=>agendaLives_lifted os started H enc)
theorem agenda_lives:Rows.AgendaLivesCardSaid :=
 Claim7.holds_tied_plain_at .later [] [.data,.data,.data] true (true,"dc8217bd6819ecd668e8d2e7ab6a3bcf24b62d3b312f3cba4077581d8b3217ab") false
  agendaLives_row (fun _ h=>by cases h) (by kernel_rfl) (fun _ h=>by cases h) agendaLives_row_tie rfl ⟨rfl,rfl⟩ (by kernel_rfl) rfl
  (fun f fn hf hfn=>by
   obtain rfl:f = 3:=Option.some.inj ((show Tryz.prog.funcNamed "ropewalk/ropewalklaw14.AgendaLives" = some 3 by kernel_rfl).symm.trans hf) |>.symm
   obtain rfl:fn = Tryz.f3:=(Option.some.inj (Tryz.func3.symm.trans hfn)).symm
   exact ⟨by kernel_rfl,fun j t ht=>by
    rw [Tryz.params3] at ht
    have hm:t ∈ [22,23]:=by simpa using Array.mem_of_getElem? ht
    have hall:([22,23].all fun u=>!Tryz.prog.wantsStandIn u) = true:=by kernel_rfl
    exact (show Tryz.prog.wantsStandIn t = false by simpa using List.all_eq_true.1 hall t hm)⟩)
  (by kernel_rfl)
#print axioms agenda_lives
end Go.Proofs.YtgangmegcejllaaGreatDoor
