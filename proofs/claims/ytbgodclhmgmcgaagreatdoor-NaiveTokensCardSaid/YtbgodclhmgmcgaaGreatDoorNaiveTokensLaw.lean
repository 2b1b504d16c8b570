import Derived.Test.YtbgodclhmgmcgaaGreatDoorRows
import Derived.Test.YtbgodclhmgmcgaaGreatDoorCards
import Derived.Test.YtbgodclhmgmcgaaGreatDoorTie
import Derived.ProofKit
import Derived.LaidMore
import Derived.OpenShut
import Derived.Stop.Joined
import Derived.SevenTiedAt
import Derived.Test.YtbgodclhmgmcgaaGreatDoorXW5
import Derived.Test.YtbgodclhmgmcgaaGreatDoorNaivTokP
namespace Go.Proofs.YtbgodclhmgmcgaaGreatDoor
open Go.ChangeShapes Go.WideShapes Go.ChangeAt Go.RowKit Go.Deep
section
variable {H:Type} {enc:TypeId × Value → H} {w:World} {base:Nat} {spare:Nat → Bool} {held:Bool} {fuel:Nat} {cs:List Value} {y:DataW H × List MemPlace}
set_option maxRecDepth 100000 in
theorem open_str_9 (h:DataW.trod enc Tryz.prog w base spare held fuel 9 cs = some y) (hw:Q41 Tryz.prog 9 y.1) : ∃ x:ByteArray,R_str.p (fun k=>k < w.heap.size) w cs x ∧ x.size ≤ 140737488351232:=by
 obtain ⟨x,e,e2,ok⟩:=DataW.trod_string Tryz.underlying9 h
 subst e2
 exact ⟨x,⟨(),e,Q16⟩,fits_str hw⟩
set_option maxRecDepth 100000 in
theorem Q7F (h:DataW.trod enc Tryz.prog w base spare held fuel 3 cs = some y) (hw:Q41 Tryz.prog 3 y.1) : ∃ x:Int,Q3B.p (fun k=>k < w.heap.size) w cs x ∧ inK .i64 x:=by
 obtain ⟨x,e,_,ok⟩:=DataW.trod_int Tryz.underlying3 h
 exact ⟨x,⟨(),e,Q16⟩,wf_inK ok⟩
set_option maxRecDepth 100000 in
theorem open_Api_TypeD_69 (h:DataW.trod enc Tryz.prog w base spare held fuel 69 cs = some y) (hw:Q41 Tryz.prog 69 y.1) : ∃ x:Q8,Qd.p (fun k=>k < w.heap.size) w cs x ∧ Qb9 x:=by
 obtain ⟨n,hl,hf⟩:=Q8b Tryz.underlying69 h hw
 have c:Tryz.prog.cellsOf 69 = 2:=by kernel_rfl
 rw [c] at hl
 match cs,hl with
 | [c0,c1],_ =>
 obtain ⟨z0,h0,g0⟩ : ∃ z,DataW.trod enc Tryz.prog w base spare held n 9 ((List.drop 0 [c0,c1]).take (Tryz.prog.cellsOf 9)) = some z ∧ Q41 Tryz.prog 9 z.1:=hf 0 _ rfl
 have d0:Tryz.prog.cellsOf 9 = 1:=by kernel_rfl
 simp only [d0,List.drop_zero,List.take_succ_cons,List.take_zero,List.drop_succ_cons] at h0
 obtain ⟨z1,h1,g1⟩ : ∃ z,DataW.trod enc Tryz.prog w base spare held n 3 ((List.drop 1 [c0,c1]).take (Tryz.prog.cellsOf 3)) = some z ∧ Q41 Tryz.prog 3 z.1:=hf 1 _ rfl
 have d1:Tryz.prog.cellsOf 3 = 1:=by kernel_rfl
 simp only [d1,List.drop_zero,List.take_succ_cons,List.take_zero,List.drop_succ_cons] at h1
 obtain ⟨x0,⟨r0,e0,f0⟩,ok0⟩:=open_str_9 h0 g0
 simp only [C_str,List.cons.injEq,and_true] at e0
 obtain rfl:=e0
 obtain ⟨x1,⟨r1,e1,f1⟩,ok1⟩:=Q7F h1 g1
 simp only [Qco,List.cons.injEq,and_true] at e1
 obtain rfl:=e1
 exact ⟨⟨x0,x1⟩,⟨(),rfl,Q16⟩,ok0,ok1⟩
set_option maxRecDepth 100000 in
theorem open_u8_55 (h:DataW.trod enc Tryz.prog w base spare held fuel 55 cs = some y) (hw:Q41 Tryz.prog 55 y.1) : ∃ x:Int,R_u8.p (fun k=>k < w.heap.size) w cs x ∧ inK .u8 x:=by
 obtain ⟨x,e,_,ok⟩:=DataW.trod_int Tryz.underlying55 h
 exact ⟨x,⟨(),e,Q16⟩,wf_inK ok⟩
set_option maxRecDepth 100000 in
theorem open_i64_2 (h:DataW.trod enc Tryz.prog w base spare held fuel 2 cs = some y) (hw:Q41 Tryz.prog 2 y.1) : ∃ x:Int,Q3B.p (fun k=>k < w.heap.size) w cs x ∧ inK .i64 x:=by
 obtain ⟨x,e,_,ok⟩:=DataW.trod_int Tryz.underlying2 h
 exact ⟨x,⟨(),e,Q16⟩,wf_inK ok⟩
set_option maxRecDepth 100000 in
theorem open_V_57 (h:DataW.trod enc Tryz.prog w base spare held fuel 57 cs = some y) (hw:Q41 Tryz.prog 57 y.1) : ∃ x:V,R_V.p (fun k=>k < w.heap.size) w cs x ∧ ok_V x:=by
 obtain ⟨n,hl,hf⟩:=Q8b Tryz.underlying57 h hw
 have c:Tryz.prog.cellsOf 57 = 3:=by kernel_rfl
 rw [c] at hl
 match cs,hl with
 | [c0,c1,c2],_ =>
 obtain ⟨z0,h0,g0⟩ : ∃ z,DataW.trod enc Tryz.prog w base spare held n 55 ((List.drop 0 [c0,c1,c2]).take (Tryz.prog.cellsOf 55)) = some z ∧ Q41 Tryz.prog 55 z.1:=hf 0 _ rfl
 have d0:Tryz.prog.cellsOf 55 = 1:=by kernel_rfl
 simp only [d0,List.drop_zero,List.take_succ_cons,List.take_zero,List.drop_succ_cons] at h0
 obtain ⟨z1,h1,g1⟩ : ∃ z,DataW.trod enc Tryz.prog w base spare held n 2 ((List.drop 1 [c0,c1,c2]).take (Tryz.prog.cellsOf 2)) = some z ∧ Q41 Tryz.prog 2 z.1:=hf 1 _ rfl
 have d1:Tryz.prog.cellsOf 2 = 1:=by kernel_rfl
 simp only [d1,List.drop_zero,List.take_succ_cons,List.take_zero,List.drop_succ_cons] at h1
 obtain ⟨z2,h2,g2⟩ : ∃ z,DataW.trod enc Tryz.prog w base spare held n 9 ((List.drop 2 [c0,c1,c2]).take (Tryz.prog.cellsOf 9)) = some z ∧ Q41 Tryz.prog 9 z.1:=hf 2 _ rfl
 have d2:Tryz.prog.cellsOf 9 = 1:=by kernel_rfl
 simp only [d2,List.drop_zero,List.take_succ_cons,List.take_zero,List.drop_succ_cons] at h2
 obtain ⟨x0,⟨r0,e0,f0⟩,ok0⟩:=open_u8_55 h0 g0
 simp only [C_u8,List.cons.injEq,and_true] at e0
 obtain rfl:=e0
 obtain ⟨x1,⟨r1,e1,f1⟩,ok1⟩:=open_i64_2 h1 g1
 simp only [Qco,List.cons.injEq,and_true] at e1
 obtain rfl:=e1
 obtain ⟨x2,⟨r2,e2,f2⟩,ok2⟩:=open_str_9 h2 g2
 simp only [C_str,List.cons.injEq,and_true] at e2
 obtain rfl:=e2
 exact ⟨⟨x0,x1,x2⟩,⟨(),rfl,Q16⟩,ok0,ok1,ok2⟩
set_option maxRecDepth 100000 in
theorem open_u8_54 (h:DataW.trod enc Tryz.prog w base spare held fuel 54 cs = some y) (hw:Q41 Tryz.prog 54 y.1) : ∃ x:Int,R_u8.p (fun k=>k < w.heap.size) w cs x ∧ inK .u8 x:=by
 obtain ⟨x,e,_,ok⟩:=DataW.trod_int Tryz.underlying54 h
 exact ⟨x,⟨(),e,Q16⟩,wf_inK ok⟩
set_option maxRecDepth 100000 in
theorem open_ArgD_59 (h:DataW.trod enc Tryz.prog w base spare held fuel 59 cs = some y) (hw:Q41 Tryz.prog 59 y.1) : ∃ x:Q1n,Q1p.p (fun k=>k < w.heap.size) w cs x ∧ ok_ArgD x:=by
 obtain ⟨n,hl,hf⟩:=Q8b Tryz.underlying59 h hw
 have c:Tryz.prog.cellsOf 59 = 5:=by kernel_rfl
 rw [c] at hl
 match cs,hl with
 | [c0,c1,c2,c3,c4],_ =>
 obtain ⟨z0,h0,g0⟩ : ∃ z,DataW.trod enc Tryz.prog w base spare held n 54 ((List.drop 0 [c0,c1,c2,c3,c4]).take (Tryz.prog.cellsOf 54)) = some z ∧ Q41 Tryz.prog 54 z.1:=hf 0 _ rfl
 have d0:Tryz.prog.cellsOf 54 = 1:=by kernel_rfl
 simp only [d0,List.drop_zero,List.take_succ_cons,List.take_zero,List.drop_succ_cons] at h0
 obtain ⟨z1,h1,g1⟩ : ∃ z,DataW.trod enc Tryz.prog w base spare held n 3 ((List.drop 1 [c0,c1,c2,c3,c4]).take (Tryz.prog.cellsOf 3)) = some z ∧ Q41 Tryz.prog 3 z.1:=hf 1 _ rfl
 have d1:Tryz.prog.cellsOf 3 = 1:=by kernel_rfl
 simp only [d1,List.drop_zero,List.take_succ_cons,List.take_zero,List.drop_succ_cons] at h1
 obtain ⟨z2,h2,g2⟩ : ∃ z,DataW.trod enc Tryz.prog w base spare held n 57 ((List.drop 2 [c0,c1,c2,c3,c4]).take (Tryz.prog.cellsOf 57)) = some z ∧ Q41 Tryz.prog 57 z.1:=hf 2 _ rfl
 have d2:Tryz.prog.cellsOf 57 = 3:=by kernel_rfl
 simp only [d2,List.drop_zero,List.take_succ_cons,List.take_zero,List.drop_succ_cons] at h2
 obtain ⟨x0,⟨r0,e0,f0⟩,ok0⟩:=open_u8_54 h0 g0
 simp only [C_u8,List.cons.injEq,and_true] at e0
 obtain rfl:=e0
 obtain ⟨x1,⟨r1,e1,f1⟩,ok1⟩:=Q7F h1 g1
 simp only [Qco,List.cons.injEq,and_true] at e1
 obtain rfl:=e1
 obtain ⟨x2,⟨r2,e2,f2⟩,ok2⟩:=open_V_57 h2 g2
 simp only [C_V,List.cons.injEq,and_true] at e2
 obtain ⟨rfl,rfl,rfl⟩:=e2
 exact ⟨⟨x0,x1,x2⟩,⟨(),rfl,Q16⟩,ok0,ok1,ok2⟩
set_option maxRecDepth 100000 in
theorem open_u8_61 (h:DataW.trod enc Tryz.prog w base spare held fuel 61 cs = some y) (hw:Q41 Tryz.prog 61 y.1) : ∃ x:Int,R_u8.p (fun k=>k < w.heap.size) w cs x ∧ inK .u8 x:=by
 obtain ⟨x,e,_,ok⟩:=DataW.trod_int Tryz.underlying61 h
 exact ⟨x,⟨(),e,Q16⟩,wf_inK ok⟩
set_option maxRecDepth 100000 in
theorem open_u8_62 (h:DataW.trod enc Tryz.prog w base spare held fuel 62 cs = some y) (hw:Q41 Tryz.prog 62 y.1) : ∃ x:Int,R_u8.p (fun k=>k < w.heap.size) w cs x ∧ inK .u8 x:=by
 obtain ⟨x,e,_,ok⟩:=DataW.trod_int Tryz.underlying62 h
 exact ⟨x,⟨(),e,Q16⟩,wf_inK ok⟩
set_option maxRecDepth 100000 in
theorem Qcu {H:Type} {enc:TypeId × Value → H} {w:World} {base:Nat} {spare:Nat → Bool} {held:Bool} : ∀ (fuel:Nat) (cs:List Value) (y:DataW H × List MemPlace) (h:DataW.trod enc Tryz.prog w base spare held fuel 65 cs = some y) (hw:Q41 Tryz.prog 65 y.1),∃ x:Q4,Qj.p (fun k=>k < w.heap.size) w cs x ∧ ok_Api_ExprD x:=by
 intro fuel
 induction fuel using Nat.strongRecOn with
 | _ fuel ih =>
 intro cs y h hw
 obtain ⟨n,hn,hl,hf⟩:=trod_fieldsN Tryz.underlying65 h hw
 have c:Tryz.prog.cellsOf 65 = 7:=by kernel_rfl
 rw [c] at hl
 match cs,hl with
 | [c0,c1,c2,c3,c4,c5,c6],_ =>
 obtain ⟨z0,h0,g0⟩ : ∃ z,DataW.trod enc Tryz.prog w base spare held n 61 ((List.drop 0 [c0,c1,c2,c3,c4,c5,c6]).take (Tryz.prog.cellsOf 61)) = some z ∧ Q41 Tryz.prog 61 z.1:=hf 0 _ rfl
 have d0:Tryz.prog.cellsOf 61 = 1:=by kernel_rfl
 simp only [d0,List.drop_zero,List.take_succ_cons,List.take_zero,List.drop_succ_cons] at h0
 obtain ⟨z1,h1,g1⟩ : ∃ z,DataW.trod enc Tryz.prog w base spare held n 57 ((List.drop 1 [c0,c1,c2,c3,c4,c5,c6]).take (Tryz.prog.cellsOf 57)) = some z ∧ Q41 Tryz.prog 57 z.1:=hf 1 _ rfl
 have d1:Tryz.prog.cellsOf 57 = 3:=by kernel_rfl
 simp only [d1,List.drop_zero,List.take_succ_cons,List.take_zero,List.drop_succ_cons] at h1
 obtain ⟨z2,h2,g2⟩ : ∃ z,DataW.trod enc Tryz.prog w base spare held n 3 ((List.drop 4 [c0,c1,c2,c3,c4,c5,c6]).take (Tryz.prog.cellsOf 3)) = some z ∧ Q41 Tryz.prog 3 z.1:=hf 2 _ rfl
 have d2:Tryz.prog.cellsOf 3 = 1:=by kernel_rfl
 simp only [d2,List.drop_zero,List.take_succ_cons,List.take_zero,List.drop_succ_cons] at h2
 obtain ⟨z3,h3,g3⟩ : ∃ z,DataW.trod enc Tryz.prog w base spare held n 62 ((List.drop 5 [c0,c1,c2,c3,c4,c5,c6]).take (Tryz.prog.cellsOf 62)) = some z ∧ Q41 Tryz.prog 62 z.1:=hf 3 _ rfl
 have d3:Tryz.prog.cellsOf 62 = 1:=by kernel_rfl
 simp only [d3,List.drop_zero,List.take_succ_cons,List.take_zero,List.drop_succ_cons] at h3
 obtain ⟨z4,h4,g4⟩ : ∃ z,DataW.trod enc Tryz.prog w base spare held n 63 ((List.drop 6 [c0,c1,c2,c3,c4,c5,c6]).take (Tryz.prog.cellsOf 63)) = some z ∧ Q41 Tryz.prog 63 z.1:=hf 4 _ rfl
 have d4:Tryz.prog.cellsOf 63 = 1:=by kernel_rfl
 simp only [d4,List.drop_zero,List.take_succ_cons,List.take_zero,List.drop_succ_cons] at h4
 obtain ⟨x0,⟨r0,e0,f0⟩,ok0⟩:=open_u8_61 h0 g0
 simp only [C_u8,List.cons.injEq,and_true] at e0
 obtain rfl:=e0
 obtain ⟨x1,⟨r1,e1,f1⟩,ok1⟩:=open_V_57 h1 g1
 simp only [C_V,List.cons.injEq,and_true] at e1
 obtain ⟨rfl,rfl,rfl⟩:=e1
 obtain ⟨x2,⟨r2,e2,f2⟩,ok2⟩:=Q7F h2 g2
 simp only [Qco,List.cons.injEq,and_true] at e2
 obtain rfl:=e2
 obtain ⟨x3,⟨r3,e3,f3⟩,ok3⟩:=open_u8_62 h3 g3
 simp only [C_u8,List.cons.injEq,and_true] at e3
 obtain rfl:=e3
 obtain ⟨p4,k4,x4,e4,f4,ok4⟩:=open_listR Tryz.underlying63 (sz:=7) (R:=Qj) (q:=fun y=>ok_Api_ExprD y) (by kernel_rfl) (by decide) (fun m hm cs y h hw=>ih m (by omega) cs y h hw) h4 g4
 replace ok4:=And.intro (Q7q (m:=1759218604390) ok4.1 (by kernel_rfl:Tryz.prog.bytesOf 65 = 80) (by decide) (by decide) (by decide)) ok4.2
 simp only [List.cons.injEq,and_true] at e4
 subst e4
 exact ⟨⟨x0,x1,x2,x3,x4⟩,Qd1 (p4,k4) rfl ((Q10 f4 Q16)),.mk _ ok0 ok1 ok2 ok3 ok4.1 ok4.2⟩
set_option maxRecDepth 100000 in
theorem open_u8_53 (h:DataW.trod enc Tryz.prog w base spare held fuel 53 cs = some y) (hw:Q41 Tryz.prog 53 y.1) : ∃ x:Int,R_u8.p (fun k=>k < w.heap.size) w cs x ∧ inK .u8 x:=by
 obtain ⟨x,e,_,ok⟩:=DataW.trod_int Tryz.underlying53 h
 exact ⟨x,⟨(),e,Q16⟩,wf_inK ok⟩
set_option maxRecDepth 100000 in
theorem open_Api_CondD_67 (h:DataW.trod enc Tryz.prog w base spare held fuel 67 cs = some y) (hw:Q41 Tryz.prog 67 y.1) : ∃ x:Qn,QB.p (fun k=>k < w.heap.size) w cs x ∧ Qdp x:=by
 obtain ⟨n,hl,hf⟩:=Q8b Tryz.underlying67 h hw
 have c:Tryz.prog.cellsOf 67 = 10:=by kernel_rfl
 rw [c] at hl
 match cs,hl with
 | [c0,c1,c2,c3,c4,c5,c6,c7,c8,c9],_ =>
 obtain ⟨z0,h0,g0⟩ : ∃ z,DataW.trod enc Tryz.prog w base spare held n 53 ((List.drop 0 [c0,c1,c2,c3,c4,c5,c6,c7,c8,c9]).take (Tryz.prog.cellsOf 53)) = some z ∧ Q41 Tryz.prog 53 z.1:=hf 0 _ rfl
 have d0:Tryz.prog.cellsOf 53 = 1:=by kernel_rfl
 simp only [d0,List.drop_zero,List.take_succ_cons,List.take_zero,List.drop_succ_cons] at h0
 obtain ⟨z1,h1,g1⟩ : ∃ z,DataW.trod enc Tryz.prog w base spare held n 3 ((List.drop 1 [c0,c1,c2,c3,c4,c5,c6,c7,c8,c9]).take (Tryz.prog.cellsOf 3)) = some z ∧ Q41 Tryz.prog 3 z.1:=hf 1 _ rfl
 have d1:Tryz.prog.cellsOf 3 = 1:=by kernel_rfl
 simp only [d1,List.drop_zero,List.take_succ_cons,List.take_zero,List.drop_succ_cons] at h1
 obtain ⟨z2,h2,g2⟩ : ∃ z,DataW.trod enc Tryz.prog w base spare held n 60 ((List.drop 2 [c0,c1,c2,c3,c4,c5,c6,c7,c8,c9]).take (Tryz.prog.cellsOf 60)) = some z ∧ Q41 Tryz.prog 60 z.1:=hf 2 _ rfl
 have d2:Tryz.prog.cellsOf 60 = 1:=by kernel_rfl
 simp only [d2,List.drop_zero,List.take_succ_cons,List.take_zero,List.drop_succ_cons] at h2
 obtain ⟨z3,h3,g3⟩ : ∃ z,DataW.trod enc Tryz.prog w base spare held n 65 ((List.drop 3 [c0,c1,c2,c3,c4,c5,c6,c7,c8,c9]).take (Tryz.prog.cellsOf 65)) = some z ∧ Q41 Tryz.prog 65 z.1:=hf 3 _ rfl
 have d3:Tryz.prog.cellsOf 65 = 7:=by kernel_rfl
 simp only [d3,List.drop_zero,List.take_succ_cons,List.take_zero,List.drop_succ_cons] at h3
 obtain ⟨x0,⟨r0,e0,f0⟩,ok0⟩:=open_u8_53 h0 g0
 simp only [C_u8,List.cons.injEq,and_true] at e0
 obtain rfl:=e0
 obtain ⟨x1,⟨r1,e1,f1⟩,ok1⟩:=Q7F h1 g1
 simp only [Qco,List.cons.injEq,and_true] at e1
 obtain rfl:=e1
 obtain ⟨p2,k2,x2,e2,f2,ok2⟩:=Q8S Tryz.underlying60 (sz:=5) (R:=Q1p) (q:=fun y=>ok_ArgD y) (by kernel_rfl) (by decide) (fun _ _ _ h hw=>open_ArgD_59 h hw) h2 g2
 replace ok2:=And.intro (Q7q (m:=2932031007317) ok2.1 (by kernel_rfl:Tryz.prog.bytesOf 59 = 48) (by decide) (by decide) (by decide)) ok2.2
 simp only [List.cons.injEq,and_true] at e2
 subst e2
 obtain ⟨x3,hp3,ok3⟩:=(Qcu _ _ _) h3 g3
 obtain ⟨r3,e3,_,f3⟩:=Q1G _ _ _ _ hp3
 simp only [Qax,List.cons.injEq,and_true] at e3
 obtain ⟨rfl,rfl,rfl,rfl,rfl,rfl,rfl⟩:=e3
 exact ⟨⟨x0,x1,x2,x3⟩,⟨((p2,k2),r3),rfl,(Q10 f2 (Q10 (f3 _ (Q1f (k:=0) rfl)) Q16))⟩,ok0,ok1,ok2,ok3⟩
set_option maxRecDepth 100000 in
theorem open_u8_79 (h:DataW.trod enc Tryz.prog w base spare held fuel 79 cs = some y) (hw:Q41 Tryz.prog 79 y.1) : ∃ x:Int,R_u8.p (fun k=>k < w.heap.size) w cs x ∧ inK .u8 x:=by
 obtain ⟨x,e,_,ok⟩:=DataW.trod_int Tryz.underlying79 h
 exact ⟨x,⟨(),e,Q16⟩,wf_inK ok⟩
set_option maxRecDepth 100000 in
theorem open_Api_ActD_81 (h:DataW.trod enc Tryz.prog w base spare held fuel 81 cs = some y) (hw:Q41 Tryz.prog 81 y.1) : ∃ x:QO,QF.p (fun k=>k < w.heap.size) w cs x ∧ Qe0 x:=by
 obtain ⟨n,hl,hf⟩:=Q8b Tryz.underlying81 h hw
 have c:Tryz.prog.cellsOf 81 = 4:=by kernel_rfl
 rw [c] at hl
 match cs,hl with
 | [c0,c1,c2,c3],_ =>
 obtain ⟨z0,h0,g0⟩ : ∃ z,DataW.trod enc Tryz.prog w base spare held n 79 ((List.drop 0 [c0,c1,c2,c3]).take (Tryz.prog.cellsOf 79)) = some z ∧ Q41 Tryz.prog 79 z.1:=hf 0 _ rfl
 have d0:Tryz.prog.cellsOf 79 = 1:=by kernel_rfl
 simp only [d0,List.drop_zero,List.take_succ_cons,List.take_zero,List.drop_succ_cons] at h0
 obtain ⟨z1,h1,g1⟩ : ∃ z,DataW.trod enc Tryz.prog w base spare held n 3 ((List.drop 1 [c0,c1,c2,c3]).take (Tryz.prog.cellsOf 3)) = some z ∧ Q41 Tryz.prog 3 z.1:=hf 1 _ rfl
 have d1:Tryz.prog.cellsOf 3 = 1:=by kernel_rfl
 simp only [d1,List.drop_zero,List.take_succ_cons,List.take_zero,List.drop_succ_cons] at h1
 obtain ⟨z2,h2,g2⟩ : ∃ z,DataW.trod enc Tryz.prog w base spare held n 3 ((List.drop 2 [c0,c1,c2,c3]).take (Tryz.prog.cellsOf 3)) = some z ∧ Q41 Tryz.prog 3 z.1:=hf 2 _ rfl
 have d2:Tryz.prog.cellsOf 3 = 1:=by kernel_rfl
 simp only [d2,List.drop_zero,List.take_succ_cons,List.take_zero,List.drop_succ_cons] at h2
 obtain ⟨z3,h3,g3⟩ : ∃ z,DataW.trod enc Tryz.prog w base spare held n 63 ((List.drop 3 [c0,c1,c2,c3]).take (Tryz.prog.cellsOf 63)) = some z ∧ Q41 Tryz.prog 63 z.1:=hf 3 _ rfl
 have d3:Tryz.prog.cellsOf 63 = 1:=by kernel_rfl
 simp only [d3,List.drop_zero,List.take_succ_cons,List.take_zero,List.drop_succ_cons] at h3
 obtain ⟨x0,⟨r0,e0,f0⟩,ok0⟩:=open_u8_79 h0 g0
 simp only [C_u8,List.cons.injEq,and_true] at e0
 obtain rfl:=e0
 obtain ⟨x1,⟨r1,e1,f1⟩,ok1⟩:=Q7F h1 g1
 simp only [Qco,List.cons.injEq,and_true] at e1
 obtain rfl:=e1
 obtain ⟨x2,⟨r2,e2,f2⟩,ok2⟩:=Q7F h2 g2
 simp only [Qco,List.cons.injEq,and_true] at e2
 obtain rfl:=e2
 obtain ⟨p3,k3,x3,e3,f3,ok3⟩:=Q8S Tryz.underlying63 (sz:=7) (R:=Qj) (q:=fun y=>ok_Api_ExprD y) (by kernel_rfl) (by decide) (fun _ _ _ h hw=>(Qcu _ _ _) h hw) h3 g3
 replace ok3:=And.intro (Q7q (m:=1759218604390) ok3.1 (by kernel_rfl:Tryz.prog.bytesOf 65 = 80) (by decide) (by decide) (by decide)) ok3.2
 simp only [List.cons.injEq,and_true] at e3
 subst e3
 exact ⟨⟨x0,x1,x2,x3⟩,⟨(p3,k3),rfl,(Q10 f3 Q16)⟩,ok0,ok1,ok2,ok3⟩
set_option maxRecDepth 100000 in
theorem open_Api_RuleD_52 (h:DataW.trod enc Tryz.prog w base spare held fuel 52 cs = some y) (hw:Q41 Tryz.prog 52 y.1) : ∃ x:Qf,Qh.p (fun k=>k < w.heap.size) w cs x ∧ Q7z x:=by
 obtain ⟨n,hl,hf⟩:=Q8b Tryz.underlying52 h hw
 have c:Tryz.prog.cellsOf 52 = 5:=by kernel_rfl
 rw [c] at hl
 match cs,hl with
 | [c0,c1,c2,c3,c4],_ =>
 obtain ⟨z0,h0,g0⟩ : ∃ z,DataW.trod enc Tryz.prog w base spare held n 9 ((List.drop 0 [c0,c1,c2,c3,c4]).take (Tryz.prog.cellsOf 9)) = some z ∧ Q41 Tryz.prog 9 z.1:=hf 0 _ rfl
 have d0:Tryz.prog.cellsOf 9 = 1:=by kernel_rfl
 simp only [d0,List.drop_zero,List.take_succ_cons,List.take_zero,List.drop_succ_cons] at h0
 obtain ⟨z1,h1,g1⟩ : ∃ z,DataW.trod enc Tryz.prog w base spare held n 3 ((List.drop 1 [c0,c1,c2,c3,c4]).take (Tryz.prog.cellsOf 3)) = some z ∧ Q41 Tryz.prog 3 z.1:=hf 1 _ rfl
 have d1:Tryz.prog.cellsOf 3 = 1:=by kernel_rfl
 simp only [d1,List.drop_zero,List.take_succ_cons,List.take_zero,List.drop_succ_cons] at h1
 obtain ⟨z2,h2,g2⟩ : ∃ z,DataW.trod enc Tryz.prog w base spare held n 3 ((List.drop 2 [c0,c1,c2,c3,c4]).take (Tryz.prog.cellsOf 3)) = some z ∧ Q41 Tryz.prog 3 z.1:=hf 2 _ rfl
 have d2:Tryz.prog.cellsOf 3 = 1:=by kernel_rfl
 simp only [d2,List.drop_zero,List.take_succ_cons,List.take_zero,List.drop_succ_cons] at h2
 obtain ⟨z3,h3,g3⟩ : ∃ z,DataW.trod enc Tryz.prog w base spare held n 49 ((List.drop 3 [c0,c1,c2,c3,c4]).take (Tryz.prog.cellsOf 49)) = some z ∧ Q41 Tryz.prog 49 z.1:=hf 3 _ rfl
 have d3:Tryz.prog.cellsOf 49 = 1:=by kernel_rfl
 simp only [d3,List.drop_zero,List.take_succ_cons,List.take_zero,List.drop_succ_cons] at h3
 obtain ⟨z4,h4,g4⟩ : ∃ z,DataW.trod enc Tryz.prog w base spare held n 50 ((List.drop 4 [c0,c1,c2,c3,c4]).take (Tryz.prog.cellsOf 50)) = some z ∧ Q41 Tryz.prog 50 z.1:=hf 4 _ rfl
 have d4:Tryz.prog.cellsOf 50 = 1:=by kernel_rfl
 simp only [d4,List.drop_zero,List.take_succ_cons,List.take_zero,List.drop_succ_cons] at h4
 obtain ⟨x0,⟨r0,e0,f0⟩,ok0⟩:=open_str_9 h0 g0
 simp only [C_str,List.cons.injEq,and_true] at e0
 obtain rfl:=e0
 obtain ⟨x1,⟨r1,e1,f1⟩,ok1⟩:=Q7F h1 g1
 simp only [Qco,List.cons.injEq,and_true] at e1
 obtain rfl:=e1
 obtain ⟨x2,⟨r2,e2,f2⟩,ok2⟩:=Q7F h2 g2
 simp only [Qco,List.cons.injEq,and_true] at e2
 obtain rfl:=e2
 obtain ⟨p3,k3,x3,e3,f3,ok3⟩:=Q8S Tryz.underlying49 (sz:=10) (R:=QB) (q:=fun y=>Qdp y) (by kernel_rfl) (by decide) (fun _ _ _ h hw=>open_Api_CondD_67 h hw) h3 g3
 replace ok3:=And.intro (Q7q (m:=1172812402926) ok3.1 (by kernel_rfl:Tryz.prog.bytesOf 67 = 120) (by decide) (by decide) (by decide)) ok3.2
 simp only [List.cons.injEq,and_true] at e3
 subst e3
 obtain ⟨p4,k4,x4,e4,f4,ok4⟩:=Q8S Tryz.underlying50 (sz:=4) (R:=QF) (q:=fun y=>Qe0 y) (by kernel_rfl) (by decide) (fun _ _ _ h hw=>open_Api_ActD_81 h hw) h4 g4
 replace ok4:=And.intro (Q7q (m:=2932031007317) ok4.1 (by kernel_rfl:Tryz.prog.bytesOf 81 = 48) (by decide) (by decide) (by decide)) ok4.2
 simp only [List.cons.injEq,and_true] at e4
 subst e4
 exact ⟨⟨x0,x1,x2,x3,x4⟩,⟨((p3,k3),(p4,k4)),rfl,(Q10 f3 (Q10 f4 Q16))⟩,ok0,ok1,ok2,ok3,ok4⟩
set_option maxRecDepth 100000 in
theorem Qez (h:DataW.trod enc Tryz.prog w base spare held fuel 25 cs = some y) (hw:Q41 Tryz.prog 25 y.1) : ∃ x:Q9u,R_Api_RulesD.p (fun k=>k < w.heap.size) w cs x ∧ QcH x:=by
 obtain ⟨n,hl,hf⟩:=Q8b Tryz.underlying25 h hw
 have c:Tryz.prog.cellsOf 25 = 2:=by kernel_rfl
 rw [c] at hl
 match cs,hl with
 | [c0,c1],_ =>
 obtain ⟨z0,h0,g0⟩ : ∃ z,DataW.trod enc Tryz.prog w base spare held n 22 ((List.drop 0 [c0,c1]).take (Tryz.prog.cellsOf 22)) = some z ∧ Q41 Tryz.prog 22 z.1:=hf 0 _ rfl
 have d0:Tryz.prog.cellsOf 22 = 1:=by kernel_rfl
 simp only [d0,List.drop_zero,List.take_succ_cons,List.take_zero,List.drop_succ_cons] at h0
 obtain ⟨z1,h1,g1⟩ : ∃ z,DataW.trod enc Tryz.prog w base spare held n 23 ((List.drop 1 [c0,c1]).take (Tryz.prog.cellsOf 23)) = some z ∧ Q41 Tryz.prog 23 z.1:=hf 1 _ rfl
 have d1:Tryz.prog.cellsOf 23 = 1:=by kernel_rfl
 simp only [d1,List.drop_zero,List.take_succ_cons,List.take_zero,List.drop_succ_cons] at h1
 obtain ⟨p0,k0,x0,e0,f0,ok0⟩:=Q8S Tryz.underlying22 (sz:=2) (R:=Qd) (q:=fun y=>Qb9 y) (by kernel_rfl) (by decide) (fun _ _ _ h hw=>open_Api_TypeD_69 h hw) h0 g0
 replace ok0:=And.intro (Q7q (m:=5864062014634) ok0.1 (by kernel_rfl:Tryz.prog.bytesOf 69 = 24) (by decide) (by decide) (by decide)) ok0.2
 simp only [List.cons.injEq,and_true] at e0
 subst e0
 obtain ⟨p1,k1,x1,e1,f1,ok1⟩:=Q8S Tryz.underlying23 (sz:=5) (R:=Qh) (q:=fun y=>Q7z y) (by kernel_rfl) (by decide) (fun _ _ _ h hw=>open_Api_RuleD_52 h hw) h1 g1
 replace ok1:=And.intro (Q7q (m:=1759218604390) ok1.1 (by kernel_rfl:Tryz.prog.bytesOf 52 = 80) (by decide) (by decide) (by decide)) ok1.2
 simp only [List.cons.injEq,and_true] at e1
 subst e1
 exact ⟨⟨x0,x1⟩,⟨((p0,k0),(p1,k1)),rfl,(Q10 f0 (Q10 f1 Q16))⟩,ok0,ok1⟩
set_option maxRecDepth 100000 in
theorem open_FactD_71 (h:DataW.trod enc Tryz.prog w base spare held fuel 71 cs = some y) (hw:Q41 Tryz.prog 71 y.1) : ∃ x:QP,Q14.p (fun k=>k < w.heap.size) w cs x ∧ Qe1 x:=by
 obtain ⟨n,hl,hf⟩:=Q8b Tryz.underlying71 h hw
 have c:Tryz.prog.cellsOf 71 = 3:=by kernel_rfl
 rw [c] at hl
 match cs,hl with
 | [c0,c1,c2],_ =>
 obtain ⟨z0,h0,g0⟩ : ∃ z,DataW.trod enc Tryz.prog w base spare held n 3 ((List.drop 0 [c0,c1,c2]).take (Tryz.prog.cellsOf 3)) = some z ∧ Q41 Tryz.prog 3 z.1:=hf 0 _ rfl
 have d0:Tryz.prog.cellsOf 3 = 1:=by kernel_rfl
 simp only [d0,List.drop_zero,List.take_succ_cons,List.take_zero,List.drop_succ_cons] at h0
 obtain ⟨z1,h1,g1⟩ : ∃ z,DataW.trod enc Tryz.prog w base spare held n 3 ((List.drop 1 [c0,c1,c2]).take (Tryz.prog.cellsOf 3)) = some z ∧ Q41 Tryz.prog 3 z.1:=hf 1 _ rfl
 have d1:Tryz.prog.cellsOf 3 = 1:=by kernel_rfl
 simp only [d1,List.drop_zero,List.take_succ_cons,List.take_zero,List.drop_succ_cons] at h1
 obtain ⟨z2,h2,g2⟩ : ∃ z,DataW.trod enc Tryz.prog w base spare held n 43 ((List.drop 2 [c0,c1,c2]).take (Tryz.prog.cellsOf 43)) = some z ∧ Q41 Tryz.prog 43 z.1:=hf 2 _ rfl
 have d2:Tryz.prog.cellsOf 43 = 1:=by kernel_rfl
 simp only [d2,List.drop_zero,List.take_succ_cons,List.take_zero,List.drop_succ_cons] at h2
 obtain ⟨x0,⟨r0,e0,f0⟩,ok0⟩:=Q7F h0 g0
 simp only [Qco,List.cons.injEq,and_true] at e0
 obtain rfl:=e0
 obtain ⟨x1,⟨r1,e1,f1⟩,ok1⟩:=Q7F h1 g1
 simp only [Qco,List.cons.injEq,and_true] at e1
 obtain rfl:=e1
 obtain ⟨p2,k2,x2,e2,f2,ok2⟩:=Q8S Tryz.underlying43 (sz:=3) (R:=R_V) (q:=fun y=>ok_V y) (by kernel_rfl) (by decide) (fun _ _ _ h hw=>open_V_57 h hw) h2 g2
 replace ok2:=And.intro (Q7q (m:=4398046510976) ok2.1 (by kernel_rfl:Tryz.prog.bytesOf 57 = 32) (by decide) (by decide) (by decide)) ok2.2
 simp only [List.cons.injEq,and_true] at e2
 subst e2
 exact ⟨⟨x0,x1,x2⟩,⟨(p2,k2),rfl,(Q10 f2 Q16)⟩,ok0,ok1,ok2⟩
end
theorem law_own:ownKnob Tryz.prog.godebug = none:=by kernel_rfl
theorem law_laid:laidOutB Tryz.prog = true:=by kernel_rfl
def pinCells:Array Value:=match Go.Pinned.utf8First with
 | .agg l=>(l.map fun d=>match d with | .lit (.int k n)=>Value.int k n | _=>.bool false).toArray
 | _=>#[]
noncomputable def pinW (os:Os):World:={ World.doorLaid Tryz.prog 4000 os with heap:=match Tryz.prog.globalNamed "unicode/utf8.first" with
 | some g=>match (((begin Tryz.prog (fun _ _=>0) default).world.heap[g]?).bind Obj.row?) with
   | some (_,t)=>(World.doorLaid Tryz.prog 4000 os).heap.setIfInBounds g (.cells pinCells t (0,0))
   | none=>#[]
 | none=>#[] }
theorem door_met (os:Os) (args:Array Value):laidMetH Tryz.prog Rows.naiveTokensRow.laid ((pinW os).forCall (fun _ _=>0) ⟨#[],args,[]⟩).memory :=
 laidMetH_of_parts3 (fuel:=8) (laidMet_of_run' 8 (by kernel_rfl) (by kernel_rfl)) (by kernel_rfl) (by kernel_rfl)
set_option maxRecDepth 100000 in
theorem naiveTokens_lifted (os:Os) (started:os.Started) (H:Type) (enc:TypeId × Value → H) :
  ReturnsInHanded {} Tryz.checked os 3 .any (fun w args => (Rows.naiveTokensSpec.pre enc Tryz.prog Tryz.f3 [] false w args ∧ laidMetH Tryz.prog Rows.naiveTokensRow.laid w) ∧ sizedMet enc Tryz.prog Tryz.f3 (OpenSpec.ofChange Rows.naiveTokensSpec) false w args)
   (Rows.naiveTokensSpec.post enc Tryz.prog Tryz.f3 false true false false):=by
 refine returnsInHanded_of_change_and (C := Tryz.checked) (X := fun w _ => laidMetH Tryz.prog Rows.naiveTokensRow.laid w) (fun _ _ _ hh h => h.of_heap hh) law_own started (by kernel_rfl) Tryz.func3
  (ChangeSpec.witness_shaped (enc:=enc) (C:=Tryz.checked) (os:=os) (X:=fun w _=>laidMetH Tryz.prog Rows.naiveTokensRow.laid w) false (pinW os) #[.agg #[.slice none 0 0,.slice none 0 0],.slice none 0 0] 8 rfl (World.shaped_of_RefB (by kernel_rfl) (by kernel_rfl)) (by kernel_rfl) (by kernel_rfl) (by kernel_rfl) (door_met os _)) ?_
 intro W base args ds gs before hval0 hW hcnd hsz0 _ _
 have hval : ∀ (j:Nat) t v,Tryz.f3.params[j]? = some t → args[j]? = some v → Value.okWide Tryz.prog W .any base t v:=hval0
 have hW':=hW
 obtain ⟨p,q,hA0,hV,rfl,hfz,hnd⟩:=hW
 have hA:DataW.TrodAll enc Tryz.prog W 0 (fun _=>true) true Tryz.f3.params.toList args.toList ds p:=hA0
 have hsz:(DataW.weightsEach Tryz.prog (Tryz.f3.params.toList ++ _) (ds ++ gs)).all (· ≤ reachBytes) = true:=hsz0
 rw [Tryz.params3] at hA hval hsz
 clear hA0 hval0 hsz0
 obtain ⟨args⟩:=args
 obtain ⟨v0,r0,d0,s0,p0,q0,e0,rfl,rfl,⟨n0,h0⟩,hA⟩:=trodAll_cons hA
 obtain ⟨v1,r1,d1,s1,p1,q1,e1,rfl,rfl,⟨n1,h1⟩,hA⟩:=trodAll_cons hA
 obtain ⟨e2,rfl,rfl⟩:=trodAll_nil hA
 subst e2; subst e1
 simp only at e0
 subst e0
 obtain ⟨rfl,rfl⟩:=trodVars_none hV
 obtain ⟨⟨c0⟩,rfl⟩:=okWide_agg Tryz.underlying25 (hval 0 _ v0 rfl rfl)
 obtain ⟨x0,⟨r0,e,f0⟩,ok0⟩:=Qez h0 (fits_arg hsz 0 rfl rfl)
 replace e:c0 = Qdg x0 r0:=e
 subst e
 rw [okWide_sl Tryz.underlying26 (hval 1 _ v1 rfl rfl)] at h1
 obtain ⟨pa1,ca1,x1,e,hs1,ok1⟩:=Q8S Tryz.underlying26 (sz:=3) (R:=Q14) (q:=fun y=>Qe1 y) (by kernel_rfl) (by decide) (fun _ _ _ h hw=>open_FactD_71 h hw) h1 (fits_arg hsz 1 rfl rfl)
 replace ok1:=And.intro (Nat.le_trans (Q7q (m:=3518437208780) ok1.1 (by kernel_rfl:Tryz.prog.bytesOf 71 = 40) (by decide) (by decide) (by decide)) (by decide : 3518437208780 ≤ 140737488351232)) ok1.2
 simp only [List.cons.injEq,and_true] at e
 subst e
 have hcall:=spec_calls (QaL 9223372036860000000 r0.1.1 r0.1.2 x0.types r0.2.1 r0.2.2 x0.rules pa1 ca1 x1 _ (naivtok_arg x0 ok0 x1 ok1)) (w:=W) (Q10 (f0 _ (Q1f (k:=0) rfl)) (Q10 (f0 _ (Q1f (k:=1) rfl)) (Q10 hs1 Q16)))
 refine hcall.mono fun e W' ⟨he,hm⟩=>?_
 subst he
 have hb:Below W.heap.size W W':=hm.to_below (Nat.le_refl _) (fun _ h=>h.elim)
 refine ⟨_,rfl,law_post law_laid ?_ rfl Tryz.underlying4 rfl hW' rfl rfl rfl hb⟩
 rw [Tryz.params3]
 intro t ht
 simp only [List.mem_cons,List.not_mem_nil,or_false] at ht
 rcases ht with rfl | rfl <;> exact ⟨by kernel_rfl,of_decide_eq_true (by kernel_rfl)⟩
theorem naiveTokens_row:Rows.NaiveTokensSaid :=
 OpenClaim.holds_of_wide 3 Tryz.f3 rfl rfl rfl rfl rfl rfl rfl ⟨rfl, rfl, rfl, rfl, rfl⟩ rfl rfl rfl rfl rfl (by kernel_rfl) Tryz.func3 (by kernel_rfl)
  (of_decide_eq_true (by kernel_rfl)) (by unfold Func.isWrapper; first | (rw [if_pos (by decide +kernel)]; kernel_rfl) | (rw [if_neg (by decide +kernel)]; exact ⟨rfl,rfl⟩))
  (fun os started H enc _=>naiveTokens_lifted os started H enc)
theorem naive_tokens:Rows.NaiveTokensCardSaid :=
 Claim7.holds_tied_plain_at .later [] [.data,.pinned] true (true,"33eaeb7a1da3363ff42a25bc84914ba91457d6427959cb463ee6324a42d66590") true
  naiveTokens_row (fun _ h=>by cases h) (by kernel_rfl) (fun _ h=>by cases h) naiveTokens_row_tie rfl ⟨rfl,rfl⟩ (by kernel_rfl) rfl
  (fun f fn hf hfn=>by
   obtain rfl:f = 3:=Option.some.inj ((show Tryz.prog.funcNamed "ropewalk/ropewalklaw12.NaiveTokens" = some 3 by kernel_rfl).symm.trans hf) |>.symm
   obtain rfl:fn = Tryz.f3:=(Option.some.inj (Tryz.func3.symm.trans hfn)).symm
   exact ⟨by kernel_rfl,fun j t ht=>by
    rw [Tryz.params3] at ht
    have hm:t ∈ [25,26]:=by simpa using Array.mem_of_getElem? ht
    have hall:([25,26].all fun u=>!Tryz.prog.wantsStandIn u) = true:=by kernel_rfl
    exact (show Tryz.prog.wantsStandIn t = false by simpa using List.all_eq_true.1 hall t hm)⟩)
  (by kernel_rfl)
#print axioms naive_tokens
end Go.Proofs.YtbgodclhmgmcgaaGreatDoor
