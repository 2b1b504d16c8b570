import Derived.Test.YtocfkfhdcnjklaaGreatDoorXW1
import Derived.Shelf.SlIterI.Nil
import Derived.Shelf.SlMaps.Clone
import Derived.Ground.GgzProg
import Derived.Ground.SlmcProg
open Option renaming map->a'
open Prod renaming fst->b'
open Nat renaming le_trans->d'
namespace Go.Proofs.YtocfkfhdcnjklaaGreatDoor
section
open Tryz
open Go.RowKit
set_option maxRecDepth 100000
set_option maxHeartbeats 4000000
variable {N bx ei:Nat}{a0:Int}{bu ej:OA}{l0:List Bool}{l1:List V}{o0:Bool}
theorem OE {r_:(Unit⊕(Unit⊕(Unit⊕(Unit⊕(Unit⊕(Unit⊕(Unit⊕(Unit⊕(Unit⊕Unit)))))))))} (e:Jb N a0=some r_):QD prog 334 [bc a0] [] [] (λv U Hr=>match r_ with| .inl ()=>v=.func (.func 361) #[] #[]/\U=[]/\Hr=[]| .inr (.inl ())=>v=.func (.func 362) #[] #[]/\U=[]/\Hr=[]| .inr (.inr (.inl ()))=>v=.func (.func 363) #[] #[]/\U=[]/\Hr=[]| .inr (.inr (.inr (.inl ())))=>v=.func (.func 364) #[] #[]/\U=[]/\Hr=[]| .inr (.inr (.inr (.inr (.inl ()))))=>∃(o0:Nat),v=.func (.func 365) #[] #[bs o0]/\U=[]/\Hr=[.blk o0 [.func (.func 360) #[] #[]] 502]| .inr (.inr (.inr (.inr (.inr (.inl ())))))=>∃(o0:Nat),v=.func (.func 366) #[] #[bs o0]/\U=[]/\Hr=[.blk o0 [.func (.func 360) #[] #[]] 502]| .inr (.inr (.inr (.inr (.inr (.inr (.inl ()))))))=>∃(o0:Nat),v=.func (.func 367) #[] #[bs o0]/\U=[]/\Hr=[.blk o0 [.func (.func 360) #[] #[]] 502]| .inr (.inr (.inr (.inr (.inr (.inr (.inr (.inl ())))))))=>∃(o0:Nat),v=.func (.func 368) #[] #[bs o0]/\U=[]/\Hr=[.blk o0 [.func (.func 360) #[] #[]] 502]| .inr (.inr (.inr (.inr (.inr (.inr (.inr (.inr (.inl ()))))))))=>∃(o0:Nat),v=.func (.func 369) #[] #[bs o0]/\U=[]/\Hr=[.blk o0 [.func (.func 360) #[] #[]] 502]| .inr (.inr (.inr (.inr (.inr (.inr (.inr (.inr (.inr ()))))))))=>v=.nilFunc/\U=[]/\Hr=[]):=by
 unfold Jb at e;refine Qp func334 Z ntmps334 Z (S:=[_]) Z λC=>sq<|wP Z<|dz 0 Z<|sq<|QP Z Z Z Zq Z Xx Z λh=>wS 0 0 Z qz (all':=[_]) Z (H':=[_]) Z<|nt<|sq<|rH (gM (QA mA)) false Eh Z Z Z Zq Z λg4=>Jg (i:=1) (u:=.func (.func 361) #[] #[]) (cs:=[.func (.func 361) #[] #[]]) 0 Z Z (.inr Z) Z Z Z Z yZ trivial Z (λF w bj=>⟨Z,Z⟩) (H':=[kG (gM (QA mA)) false Eh g4 ([(1,.func (.func 361) #[] #[])]),.blk h [.func (.func 360) #[] #[]] 502]) Z<|Jg (i:=2) (u:=.func (.func 362) #[] #[]) (cs:=[.func (.func 362) #[] #[]]) 0 Z Z (.inr Z) Z Z Z Z yZ trivial Z (λF w bj=>⟨Z,Z⟩) (H':=[kG (gM (QA mA)) false Eh g4 ([(1,.func (.func 361) #[] #[]),(2,.func (.func 362) #[] #[])]),.blk h [.func (.func 360) #[] #[]] 502]) Z<|Jg (i:=3) (u:=.func (.func 363) #[] #[]) (cs:=[.func (.func 363) #[] #[]]) 0 Z Z (.inr Z) Z Z Z Z yZ trivial Z (λF w bj=>⟨Z,Z⟩) (H':=[kG (gM (QA mA)) false Eh g4 ([(1,.func (.func 361) #[] #[]),(2,.func (.func 362) #[] #[]),(3,.func (.func 363) #[] #[])]),.blk h [.func (.func 360) #[] #[]] 502]) Z<|Jg (i:=4) (u:=.func (.func 364) #[] #[]) (cs:=[.func (.func 364) #[] #[]]) 0 Z Z (.inr Z) Z Z Z Z yZ trivial Z (λF w bj=>⟨Z,Z⟩) (H':=[kG (gM (QA mA)) false Eh g4 ([(1,.func (.func 361) #[] #[]),(2,.func (.func 362) #[] #[]),(3,.func (.func 363) #[] #[]),(4,.func (.func 364) #[] #[])]),.blk h [.func (.func 360) #[] #[]] 502]) Z ?_
 refine yW Z Z Z Zq Z Z<|Jg (i:=7) (u:=.func (.func 365) #[] #[bs h]) (cs:=[.func (.func 365) #[] #[bs h]]) 0 Z Z (.inr Z) Z Z Z Z yZ trivial Z (λF w bj=>⟨Z,Z⟩) (H':=[kG (gM (QA mA)) false Eh g4 ([(1,.func (.func 361) #[] #[]),(2,.func (.func 362) #[] #[]),(3,.func (.func 363) #[] #[]),(4,.func (.func 364) #[] #[]),(7,.func (.func 365) #[] #[bs h])]),.blk h [.func (.func 360) #[] #[]] 502]) Z<|yW Z Z Z Zq Z Z<|Jg (i:=8) (u:=.func (.func 366) #[] #[bs h]) (cs:=[.func (.func 366) #[] #[bs h]]) 0 Z Z (.inr Z) Z Z Z Z yZ trivial Z (λF w bj=>⟨Z,Z⟩) (H':=[kG (gM (QA mA)) false Eh g4 ([(1,.func (.func 361) #[] #[]),(2,.func (.func 362) #[] #[]),(3,.func (.func 363) #[] #[]),(4,.func (.func 364) #[] #[]),(7,.func (.func 365) #[] #[bs h]),(8,.func (.func 366) #[] #[bs h])]),.blk h [.func (.func 360) #[] #[]] 502]) Z<|yW Z Z Z Zq Z Z<|Jg (i:=9) (u:=.func (.func 367) #[] #[bs h]) (cs:=[.func (.func 367) #[] #[bs h]]) 0 Z Z (.inr Z) Z Z Z Z yZ trivial Z (λF w bj=>⟨Z,Z⟩) (H':=[kG (gM (QA mA)) false Eh g4 ([(1,.func (.func 361) #[] #[]),(2,.func (.func 362) #[] #[]),(3,.func (.func 363) #[] #[]),(4,.func (.func 364) #[] #[]),(7,.func (.func 365) #[] #[bs h]),(8,.func (.func 366) #[] #[bs h]),(9,.func (.func 367) #[] #[bs h])]),.blk h [.func (.func 360) #[] #[]] 502]) Z<|yW Z Z Z Zq Z Z<|Jg (i:=10) (u:=.func (.func 368) #[] #[bs h]) (cs:=[.func (.func 368) #[] #[bs h]]) 0 Z Z (.inr Z) Z Z Z Z yZ trivial Z (λF w bj=>⟨Z,Z⟩) (H':=[kG (gM (QA mA)) false Eh g4 ([(1,.func (.func 361) #[] #[]),(2,.func (.func 362) #[] #[]),(3,.func (.func 363) #[] #[]),(4,.func (.func 364) #[] #[]),(7,.func (.func 365) #[] #[bs h]),(8,.func (.func 366) #[] #[bs h]),(9,.func (.func 367) #[] #[bs h]),(10,.func (.func 368) #[] #[bs h])]),.blk h [.func (.func 360) #[] #[]] 502]) Z<|yW Z Z Z Zq Z Z<|Jg (i:=11) (u:=.func (.func 369) #[] #[bs h]) (cs:=[.func (.func 369) #[] #[bs h]]) 0 Z Z (.inr Z) Z Z Z Z yZ trivial Z (λF w bj=>⟨Z,Z⟩) (H':=[kG (gM (QA mA)) false Eh g4 ([(1,.func (.func 361) #[] #[]),(2,.func (.func 362) #[] #[]),(3,.func (.func 363) #[] #[]),(4,.func (.func 364) #[] #[]),(7,.func (.func 365) #[] #[bs h]),(8,.func (.func 366) #[] #[bs h]),(9,.func (.func 367) #[] #[bs h]),(10,.func (.func 368) #[] #[bs h]),(11,.func (.func 369) #[] #[bs h])]),.blk h [.func (.func 360) #[] #[]] 502]) Z<|ay Z ?_;rcases ke e with⟨s,e⟩|⟨s,e⟩
 refine Jd (i:=a0) (a:=(.func (.func 361) #[] #[])) Jc 0 Z Z Z Zq Z Z Z Z yZ trivial (by rw[eq_of_beq s];rfl) (u:=λ_=>.func (.func 361) #[] #[]) (λ_=>Z) (v:=λ_=>.func (.func 361) #[] #[]) (λ_=>Z) λ_ _=>wP Z<|dz 2 Z<|Qm ?_;have g:=(Zi e).symm;subst g;dsimp only;refine ct [] [] results334 Z ⟨Z,Z,Z⟩ Z;rcases ke e with⟨z,e⟩|⟨z,e⟩
 refine Jd (i:=a0) (a:=(.func (.func 362) #[] #[])) Jc 0 Z Z Z Zq Z Z Z Z yZ trivial (by rw[eq_of_beq z];rfl) (u:=λ_=>.func (.func 362) #[] #[]) (λ_=>Z) (v:=λ_=>.func (.func 362) #[] #[]) (λ_=>Z) λ_ _=>wP Z<|dz 2 Z<|Qm ?_;have g:=(Zi e).symm;subst g;dsimp only;refine ct [] [] results334 Z ⟨Z,Z,Z⟩ Z;rcases ke e with⟨a1,e⟩|⟨a1,e⟩
 refine Jd (i:=a0) (a:=(.func (.func 363) #[] #[])) Jc 0 Z Z Z Zq Z Z Z Z yZ trivial (by rw[eq_of_beq a1];rfl) (u:=λ_=>.func (.func 363) #[] #[]) (λ_=>Z) (v:=λ_=>.func (.func 363) #[] #[]) (λ_=>Z) λ_ _=>wP Z<|dz 2 Z<|Qm ?_;have g:=(Zi e).symm;subst g;dsimp only;refine ct [] [] results334 Z ⟨Z,Z,Z⟩ Z;rcases ke e with⟨a2,e⟩|⟨a2,e⟩
 refine Jd (i:=a0) (a:=(.func (.func 364) #[] #[])) Jc 0 Z Z Z Zq Z Z Z Z yZ trivial (by rw[eq_of_beq a2];rfl) (u:=λ_=>.func (.func 364) #[] #[]) (λ_=>Z) (v:=λ_=>.func (.func 364) #[] #[]) (λ_=>Z) λ_ _=>wP Z<|dz 2 Z<|Qm ?_;have g:=(Zi e).symm;subst g;dsimp only;refine ct [] [] results334 Z ⟨Z,Z,Z⟩ Z;rcases ke e with⟨a3,e⟩|⟨a3,e⟩
 refine Jd (i:=a0) (a:=(.func (.func 365) #[] #[bs h])) Jc 0 Z Z Z Zq Z Z Z Z yZ trivial (by rw[eq_of_beq a3];rfl) (u:=λ_=>.func (.func 365) #[] #[bs h]) (λ_=>Z) (v:=λ_=>.func (.func 365) #[] #[bs h]) (λ_=>Z) λ_ _=>wP Z<|dz 2 Z<|Qm ?_;have g:=(Zi e).symm;subst g;dsimp only;refine ct [1] [] results334 Z ⟨h,Z,Z,Z⟩ Z;rcases ke e with⟨a4,e⟩|⟨a4,e⟩
 refine Jd (i:=a0) (a:=(.func (.func 366) #[] #[bs h])) Jc 0 Z Z Z Zq Z Z Z Z yZ trivial (by rw[eq_of_beq a4];rfl) (u:=λ_=>.func (.func 366) #[] #[bs h]) (λ_=>Z) (v:=λ_=>.func (.func 366) #[] #[bs h]) (λ_=>Z) λ_ _=>wP Z<|dz 2 Z<|Qm ?_;have g:=(Zi e).symm;subst g;dsimp only;refine ct [1] [] results334 Z ⟨h,Z,Z,Z⟩ Z;rcases ke e with⟨a5,e⟩|⟨a5,e⟩
 refine Jd (i:=a0) (a:=(.func (.func 367) #[] #[bs h])) Jc 0 Z Z Z Zq Z Z Z Z yZ trivial (by rw[eq_of_beq a5];rfl) (u:=λ_=>.func (.func 367) #[] #[bs h]) (λ_=>Z) (v:=λ_=>.func (.func 367) #[] #[bs h]) (λ_=>Z) λ_ _=>wP Z<|dz 2 Z<|Qm ?_;have g:=(Zi e).symm;subst g;dsimp only;refine ct [1] [] results334 Z ⟨h,Z,Z,Z⟩ Z;rcases ke e with⟨a6,e⟩|⟨a6,e⟩
 refine Jd (i:=a0) (a:=(.func (.func 368) #[] #[bs h])) Jc 0 Z Z Z Zq Z Z Z Z yZ trivial (by rw[eq_of_beq a6];rfl) (u:=λ_=>.func (.func 368) #[] #[bs h]) (λ_=>Z) (v:=λ_=>.func (.func 368) #[] #[bs h]) (λ_=>Z) λ_ _=>wP Z<|dz 2 Z<|Qm ?_;have g:=(Zi e).symm;subst g;dsimp only;refine ct [1] [] results334 Z ⟨h,Z,Z,Z⟩ Z;rcases ke e with⟨a7,e⟩|⟨a7,e⟩
 refine Jd (i:=a0) (a:=(.func (.func 369) #[] #[bs h])) Jc 0 Z Z Z Zq Z Z Z Z yZ trivial (by rw[eq_of_beq a7];rfl) (u:=λ_=>.func (.func 369) #[] #[bs h]) (λ_=>Z) (v:=λ_=>.func (.func 369) #[] #[bs h]) (λ_=>Z) λ_ _=>wP Z<|dz 2 Z<|Qm ?_;have g:=(Zi e).symm;subst g;dsimp only;refine ct [1] [] results334 Z ⟨h,Z,Z,Z⟩ Z;refine vI (i:=a0) 0 Z Z Z Zq Z Z Z Z Xw yZ trivial (by simp[iK,(ne_of_beq_false s).symm,(ne_of_beq_false z).symm,(ne_of_beq_false a1).symm,(ne_of_beq_false a2).symm,(ne_of_beq_false a3).symm,(ne_of_beq_false a4).symm,(ne_of_beq_false a5).symm,(ne_of_beq_false a6).symm,(ne_of_beq_false a7).symm]) (v:=.nilFunc) Z<|wP Z<|dz 2 Z<|Qm ?_;have g:=(Zi e).symm;subst g;dsimp only;refine ct [] [] results334 Z ⟨Z,Z,Z⟩ Z
theorem sj (e:Jb N a0=some (.inl ())):QD prog 334 [bc a0] [] [] (R0 (.func (.func 361) #[] #[]) [] []):=OE e
theorem sk (e:Jb N a0=some (.inr (.inl ()))):QD prog 334 [bc a0] [] [] (R0 (.func (.func 362) #[] #[]) [] []):=OE e
theorem so (e:Jb N a0=some (.inr (.inr (.inl ())))):QD prog 334 [bc a0] [] [] (R0 (.func (.func 363) #[] #[]) [] []):=OE e
theorem sr (e:Jb N a0=some (.inr (.inr (.inr (.inl ()))))):QD prog 334 [bc a0] [] [] (R0 (.func (.func 364) #[] #[]) [] []):=OE e
theorem su (e:Jb N a0=some (.inr (.inr (.inr (.inr (.inl ())))))):QD prog 334 [bc a0] [] [] (λv p q=>∃o0,R0 (.func (.func 365) #[] #[bs o0]) [] [.blk o0 [.func (.func 360) #[] #[]] 502] v p q):=OE e
theorem sv (e:Jb N a0=some (.inr (.inr (.inr (.inr (.inr (.inl ()))))))):QD prog 334 [bc a0] [] [] (λv p q=>∃o0,R0 (.func (.func 366) #[] #[bs o0]) [] [.blk o0 [.func (.func 360) #[] #[]] 502] v p q):=OE e
theorem sw (e:Jb N a0=some (.inr (.inr (.inr (.inr (.inr (.inr (.inl ())))))))):QD prog 334 [bc a0] [] [] (λv p q=>∃o0,R0 (.func (.func 367) #[] #[bs o0]) [] [.blk o0 [.func (.func 360) #[] #[]] 502] v p q):=OE e
theorem sy (e:Jb N a0=some (.inr (.inr (.inr (.inr (.inr (.inr (.inr (.inl ()))))))))):QD prog 334 [bc a0] [] [] (λv p q=>∃o0,R0 (.func (.func 368) #[] #[bs o0]) [] [.blk o0 [.func (.func 360) #[] #[]] 502] v p q):=OE e
theorem sA (e:Jb N a0=some (.inr (.inr (.inr (.inr (.inr (.inr (.inr (.inr (.inl ())))))))))):QD prog 334 [bc a0] [] [] (λv p q=>∃o0,R0 (.func (.func 369) #[] #[bs o0]) [] [.blk o0 [.func (.func 360) #[] #[]] 502] v p q):=OE e
theorem qE {N:Nat} {a0:Int} {U:Int} (e:Q9S N a0 U=some ()):QD prog 361 [ao a0,ao U] [] [] (R0 (.tuple #[ao (IntKind.wrap .i64 (a0+U)),.bool ((decide ((IntKind.wrap .i64 (a0+U))<a0))==(decide (U<0)))]) [] []):=by
 unfold Q9S at e;refine Qp func361 Z ntmps361 Z (S:=[_,_]) Z λC=>sq<|ay Z<|dp 0 1 Z<|sq<|ay Z<|ay Z<|ay Z<|ay Z<|ay Z<|sF Z Z Z Zq Z Z Z (a0d _ _ (decide ((IntKind.wrap .i64 (a0+U))<a0)) (decide (U<0)))<|ay Z<|dp 5 4 Z<|Qm ?_
 have g:=(Zi e).symm;refine CD [] [] results361 Z ⟨Z,Z,Z⟩ Z
theorem qF {N:Nat} {a0:Int} {U:Int} (e:Q9T N a0 U=some ()):QD prog 362 [ao a0,ao U] [] [] (R0 (.tuple #[ao (IntKind.wrap .i64 (a0-U)),.bool ((decide ((IntKind.wrap .i64 (a0-U))>a0))==(decide (U<0)))]) [] []):=by
 unfold Q9T at e;refine Qp func362 Z ntmps362 Z (S:=[_,_]) Z λC=>sq<|ay Z<|dp 0 1 Z<|sq<|ay Z<|ay Z<|ay Z<|ay Z<|ay Z<|sF Z Z Z Zq Z Z Z (a0d _ _ (decide ((IntKind.wrap .i64 (a0-U))>a0)) (decide (U<0)))<|ay Z<|dp 5 4 Z<|Qm ?_
 have g:=(Zi e).symm;refine CD [] [] results362 Z ⟨Z,Z,Z⟩ Z
theorem pD {N:Nat} {a0:Int} {U:Int} {o0:Int} {o1:Bool} (e:TV N a0 U=some (o0,o1)):QD prog 363 [ao a0,ao U] [] [] (R0 (.tuple #[ao o0,.bool o1]) [] []):=by
 unfold TV at e;refine Qp func363 Z ntmps363 Z (S:=[_,_]) Z λC=>sq<|ay Z<|dp 0 1 Z<|sq<|wP Z<|HM Z Z Z Zq (sY Z Z RM Aj)<|wP Z<|HM Z Z Z Zq (sY Z Z RM Aj)<|ay Z<|ib 7 6 0 1 Z<|Q6<|kn e λa3 e bw=>?_
 refine cut (σ:=Int) a3 (λh=>(h,[(7,.int .u64 (IntKind.wrap .u64 U)),(6,.int .u64 h),(0,ao a0),(1,ao U)],[],[])) ?_ ?_;refine sq<|ay Z<|mu 15 7 6 0 1 Z ?_;refine QO e Z (λe=>?_) λe=>?_;refine k4 7 6 0 1 Z<|Qb<|wP Z<|HM Z Z Z Zq (A6 Z Z)<|Qq (S':=V5 ..) Z Z Z Z Z<|Q2 ?_;refine jM (IntKind.wrap .u64 (0-(IntKind.wrap .u64 a0))) e [7,6,0,1] [] Z;refine k4 7 6 0 1 Z<|QV ?_;refine jM (IntKind.wrap .u64 a0) e [7,6,0,1] [] Z;rintro h g;try dsimp only at g⊢
 have e:=bw;try rw[g]at e
 refine Q6<|kn e λa4 e ez=>?_;refine cut (σ:=Int) a4 (λs=>(s,[(7,.int .u64 s),(6,.int .u64 h),(0,ao a0),(1,ao U)],[],[])) ?_ ?_;refine sq<|ay Z<|mu 19 7 6 0 1 Z ?_;refine QO e Z (λe=>?_) λe=>?_;refine k4 7 6 0 1 Z<|Qb<|wP Z<|HM Z Z Z Zq (A6 Z Z)<|Qq (S':=V5 ..) Z Z Z Z Z<|Q2 ?_;refine jM (IntKind.wrap .u64 (0-(IntKind.wrap .u64 U))) e [7,6,0,1] [] Z;refine k4 7 6 0 1 Z<|QV ?_;refine jM (IntKind.wrap .u64 U) e [7,6,0,1] [] Z;rintro s g;try dsimp only at g⊢
 have e:=ez;try rw[g]at e
 refine sq<|ay Z<|kg e λz e=>kg e λa2 e=>wC [] [] Z VE Z (MM h s z a2) (bh [] Z) Z (H':=[]) Z ?_;rintro _ _ _ ⟨rfl,rfl,rfl⟩;refine ay Z<|ay Z<|wP Z<|ib 9 8 0 1 Z<|Q6<|sq<|ay Z<|ay Z<|sF Z Z Z Zq Z Z Z (a2Y _ _ (decide (a0<0)) (decide (U<0)))<|gR 32 9 8 Z ?_;refine QO e Z (λe=>?_) λe=>?_;refine k2 9 8 Z<|sq<|wP Z<|HM Z Z Z Zq (A6 Z Z)<|HM Z Z Z Zq (sY Z Z Aj RM)<|ay Z<|wP Z ?_;refine fo e (λe=>?_) λe=>?_;refine ay Z<|ay Z<|wP Z<|dp 5 4 Z<|Qm<|Q5 ?_;have g:=(Zi e).symm;obtain⟨rfl,rfl⟩:=Pj g.symm;refine CD [] [] results363 Z ⟨Z,Z,Z⟩ Z;refine ew Z<|ay Z<|wP Z<|dp 5 4 Z<|Qm<|Q5 ?_;have g:=(Zi e).symm;obtain⟨rfl,rfl⟩:=Pj g.symm;refine CD [] [] results363 Z ⟨Z,Z,Z⟩ Z;refine k2 9 8 Z<|kt<|sq<|wP Z<|HM Z Z Z Zq (sY Z Z Aj RM)<|ay Z<|wP Z ?_;refine fo e (λe=>?_) λe=>?_;refine ay Z<|ay Z<|wP Z<|dp 5 4 Z<|Qm ?_;have g:=(Zi e).symm;obtain⟨rfl,rfl⟩:=Pj g.symm;refine CD [] [] results363 Z ⟨Z,Z,Z⟩ Z;refine ew Z<|ay Z<|wP Z<|dp 5 4 Z<|Qm ?_;have g:=(Zi e).symm;obtain⟨rfl,rfl⟩:=Pj g.symm;refine CD [] [] results363 Z ⟨Z,Z,Z⟩ Z
theorem qG {N:Nat} {a0:Int} {U:Int} (e:Q9U N a0 U=some ()):QD prog 364 [ao a0,ao U] [] [] (R0 (.tuple #[ao (IntKind.wrap .i64 (0-a0)),.bool (a0 !=-9223372036854775808)]) [] []):=by
 unfold Q9U at e;refine Qp func364 Z ntmps364 Z (S:=[_,_]) Z λC=>sq<|ay Z<|dz 0 Z<|sq<|wP Z<|HM Z Z Z Zq (A6 Z Z)<|ay Z<|ay Z<|dp 5 4 Z<|Qm ?_
 have g:=(Zi e).symm;refine CD [] [] results364 Z ⟨Z,Z,Z⟩ Z
theorem TR {N:Nat} {a0:Bool} {o0:Int} (e:Dz N a0=some o0):QD prog 360 [.bool a0] [] [] (R0 (.tuple #[ao o0,.bool true]) [] []):=by
 unfold Dz at e;refine Qp func360 Z ntmps360 Z (S:=[_]) Z λC=>sq<|ay Z<|dz 0 Z<|sq<|wP Z<|kn e λv5 U e=>c0 [] [] Z EL U Q9s [] [] Z<|HM Z Z Z Zq (MC Z Z N4 ji jk (v:=ao v5) Z)<|ay Z<|dp 3 2 Z<|Qm ?_
 obtain rfl:=Zi e;refine CD [] [] results360 Z ⟨Z,Z,Z⟩ Z
theorem qH {N:Nat} {a0:Int} {U:Int} {gI:Nat} {o0:Int} (e:Q88 N a0 U=some o0):QD prog 365 [ao a0,ao U,bs gI] [] [.blk gI [.func (.func 360) #[] #[]] 502] (R0 (.tuple #[ao o0,.bool true]) [] [.blk gI [.func (.func 360) #[] #[]] 502]):=by
 unfold Q88 at e;refine Qp func365 Z ntmps365 Z (S:=V3 ..) Z λC=>sq<|ay Z<|gR 0 1 2 Z<|sq<|wD 0 0 Z qz vm Z<|ay Z<|wP Z ?_
 obtain⟨v11,EX,e⟩:=Qz e;refine qU [] [0] Z Z Z Zq Z Z Z mO Z Z (@TR N (decide (a0<U)) _ EX) (bh [] Z) Z (H':=[_]) Z ?_;rintro _ _ _ ⟨rfl,rfl,rfl⟩;refine ay Z<|ay Z<|dp 6 5 Z<|Qm ?_;obtain rfl:=Zi e;refine CD [0] [] results365 Z ⟨Z,Z,Z⟩ Z
theorem qI {N:Nat} {a0:Int} {U:Int} {gI:Nat} {o0:Int} (e:Q89 N a0 U=some o0):QD prog 366 [ao a0,ao U,bs gI] [] [.blk gI [.func (.func 360) #[] #[]] 502] (R0 (.tuple #[ao o0,.bool true]) [] [.blk gI [.func (.func 360) #[] #[]] 502]):=by
 unfold Q89 at e;refine Qp func366 Z ntmps366 Z (S:=V3 ..) Z λC=>sq<|ay Z<|gR 0 1 2 Z<|sq<|wD 0 0 Z qz vm Z<|ay Z<|wP Z ?_
 obtain⟨v11,EX,e⟩:=Qz e;refine qU [] [0] Z Z Z Zq Z Z Z mO Z Z (@TR N (decide (a0<=U)) _ EX) (bh [] Z) Z (H':=[_]) Z ?_;rintro _ _ _ ⟨rfl,rfl,rfl⟩;refine ay Z<|ay Z<|dp 6 5 Z<|Qm ?_;obtain rfl:=Zi e;refine CD [0] [] results366 Z ⟨Z,Z,Z⟩ Z
theorem qJ {N:Nat} {a0:Int} {a1:Int} {gI:Nat} {o0:Int} (e:Q8a N a0 a1=some o0):QD prog 367 [ao a0,ao a1,bs gI] [] [.blk gI [.func (.func 360) #[] #[]] 502] (R0 (.tuple #[ao o0,.bool true]) [] [.blk gI [.func (.func 360) #[] #[]] 502]):=by
 unfold Q8a at e;refine Qp func367 Z ntmps367 Z (S:=V3 ..) Z λC=>sq<|ay Z<|gR 0 1 2 Z<|sq<|wD 0 0 Z qz vm Z<|ay Z<|wP Z ?_
 refine fo e (λe=>?_) λe=>?_;refine ay Z<|wP Z ?_;obtain⟨v14,U,e⟩:=Qz e;refine qU [] [0] Z Z Z Zq Z Z Z mO Z Z (@TR N (a1 !=0) _ U) (bh [] Z) Z (H':=[_]) Z ?_;rintro _ _ _ ⟨rfl,rfl,rfl⟩;refine ay Z<|ay Z<|dp 6 5 Z<|Qm ?_;obtain rfl:=Zi e;refine CD [0] [] results367 Z ⟨Z,Z,Z⟩ Z;refine ew Z<|wP Z ?_;obtain⟨v14,U,e⟩:=Qz e;refine qU [] [0] Z Z Z Zq Z Z Z mO Z Z (@TR N false _ U) (bh [] Z) Z (H':=[_]) Z ?_;rintro _ _ _ ⟨rfl,rfl,rfl⟩;refine ay Z<|ay Z<|dp 6 5 Z<|Qm ?_;obtain rfl:=Zi e;refine CD [0] [] results367 Z ⟨Z,Z,Z⟩ Z
theorem qK {N:Nat} {a0:Int} {a1:Int} {gI:Nat} {o0:Int} (e:Q8b N a0 a1=some o0):QD prog 368 [ao a0,ao a1,bs gI] [] [.blk gI [.func (.func 360) #[] #[]] 502] (R0 (.tuple #[ao o0,.bool true]) [] [.blk gI [.func (.func 360) #[] #[]] 502]):=by
 unfold Q8b at e;refine Qp func368 Z ntmps368 Z (S:=V3 ..) Z λC=>sq<|ay Z<|gR 0 1 2 Z<|sq<|wD 0 0 Z qz vm Z<|ay Z<|wP Z ?_
 refine fo e (λe=>?_) λe=>?_;refine ew Z<|wP Z ?_;obtain⟨v14,U,e⟩:=Qz e;refine qU [] [0] Z Z Z Zq Z Z Z mO Z Z (@TR N true _ U) (bh [] Z) Z (H':=[_]) Z ?_;rintro _ _ _ ⟨rfl,rfl,rfl⟩;refine ay Z<|ay Z<|dp 6 5 Z<|Qm ?_;obtain rfl:=Zi e;refine CD [0] [] results368 Z ⟨Z,Z,Z⟩ Z;refine ay Z<|wP Z ?_;obtain⟨v14,U,e⟩:=Qz e;refine qU [] [0] Z Z Z Zq Z Z Z mO Z Z (@TR N (a1 !=0) _ U) (bh [] Z) Z (H':=[_]) Z ?_;rintro _ _ _ ⟨rfl,rfl,rfl⟩;refine ay Z<|ay Z<|dp 6 5 Z<|Qm ?_;obtain rfl:=Zi e;refine CD [0] [] results368 Z ⟨Z,Z,Z⟩ Z
theorem qL {N:Nat} {a0:Int} {a1:Int} {U:Nat} {o0:Int} (e:Q8c N a0 a1=some o0):QD prog 369 [ao a0,ao a1,bs U] [] [.blk U [.func (.func 360) #[] #[]] 502] (R0 (.tuple #[ao o0,.bool true]) [] [.blk U [.func (.func 360) #[] #[]] 502]):=by
 unfold Q8c at e;refine Qp func369 Z ntmps369 Z (S:=V3 ..) Z λC=>sq<|ay Z<|dp 0 2 Z<|sq<|wD 0 0 Z qz vm Z<|ay Z ?_
 obtain⟨v10,W1,e⟩:=Qz e;refine qU [] [0] Z Z Z Zq Z Z Z mO Z Z (@TR N (a0==0) _ W1) (bh [] Z) Z (H':=[_]) Z ?_;rintro _ _ _ ⟨rfl,rfl,rfl⟩;refine ay Z<|ay Z<|dp 6 5 Z<|Qm ?_;obtain rfl:=Zi e;refine CD [0] [] results369 Z ⟨Z,Z,Z⟩ Z
theorem Ar {N:Nat} {a0:Int} {bu:OA} {bx:Nat} {l1:List V} {o0:Nat} {o1:Int} {o2:Nat} (e:DB N a0 l1=some (o0,o1,o2)):QD prog 291 [bc a0,aw bu l1 bx] [.sli 3 dw bu bx l1] [] (R0 (.tuple #[.agg #[bc (o0:Int),ao o1,.string EB],ao (o2:Int)]) [] []):=by
 unfold DB at e;refine Qp func291 Z ntmps291 Z (S:=[_,_]) Z λC=>sq<|QP Z Z Z Zq Z lu Z λg4=>wP Z<|gR 4 0 1 Z<|sq<|wP Z<|nt<|Q6<|kn e λaM e bw=>?_
 unfold Y9 at e;refine cut (σ:=Nat) aM (λa2=>(a2,[(4,bs g4),(0,bc a0),(1,aw bu l1 bx),(6,ao (a2:Int))],[.sli 3 dw bu bx l1],[.blk g4 [bc 0,ao 0,.string EB] 63])) ?_ ?_;refine Q6<|kn e λaN e ez=>?_
 refine cut (σ:=Bool) aN (λa9=>(a9,[(4,bs g4),(0,bc a0),(1,aw bu l1 bx),(6,ao 2),(19,.bool a9)],[.sli 3 dw bu bx l1],[.blk g4 [bc 0,ao 0,.string EB] 63])) ?_ ?_;refine Qb<|ay Z<|wP Z ?_;refine fo e (λe=>?_) λe=>?_;refine ew Z<|wP Z<|Q2 ?_;refine jM true e [4,0,1,6,19] [0] Z;refine ay Z<|wP Z<|Q2 ?_;refine jM (a0==11) e [4,0,1,6,19] [0] Z;rintro a9 g;try dsimp only at g⊢
 have e:=ez;try rw[g]at e
 refine QO e Z (λe=>?_) λe=>?_;refine k3 4 0 1 Z<|Qb<|wP Z<|Q2 ?_;refine jM 1 e [4,0,1,6] [0] Z;refine k4 4 0 1 6 Z<|QV ?_;refine jM 2 e [4,0,1,6] [0] Z;rintro a2 g;try dsimp only at g⊢
 have e:=bw;try rw[g]at e
 refine Q6<|Q6<|kn e λaO e iC=>?_;refine cut (σ:=Bool) aO (λaA=>(aA,[(4,bs g4),(0,bc a0),(1,aw bu l1 bx),(6,ao (a2:Int)),(31,.bool aA)],[.sli 3 dw bu bx l1],[.blk g4 [bc 0,ao 0,.string EB] 63])) ?_ ?_;refine Qb<|ay Z<|wP Z ?_;refine fo e (λe=>?_) λe=>?_;refine ew Z<|ay Z<|eh Z<|wP Z<|Q2 ?_;refine jM true e [4,0,1,6,31] [0] Z;refine ay Z<|ay Z ?_;refine fo e (λe=>?_) λe=>?_;refine eh Z<|wP Z<|Q2 ?_;refine jM true e [4,0,1,6,31] [0] Z;refine wP Z<|wN Z pL<|ay Z<|Qn (S4 l1.length a2)<|wP Z<|Q2 ?_;refine jM (l1.length !=a2) e [4,0,1,6,31] [0] Z;rintro aA g;try dsimp only at g⊢
 have e:=iC;try rw[g]at e
 refine QO e Z (λe=>?_) λe=>?_
 ·
  refine k1 4 Z<|sq<|mC Z Z Z Zq Z lu El Z (out:=V3 ..) Z<|wS 0 0 Z fc (all':=V3 ..) Z (H':=[_]) Z<|wP Z<|dp 5 4 Z<|Qm<|Q5 ?_;cases(Zi e);refine vO (Hr:=[]) [] results291 (nD 0 Z Z fc iU Z Z) (kd Z) ⟨Z,Z,Z⟩ (bh [] Z) Z Z (.inl Z)
 refine k4 4 0 1 6 Z<|kt<|sq<|wP Z<|nt<|Q6<|ks e λaP e kp=>?_;refine cut (σ:=Bool) aP (λaB=>(.inl aB,[(4,bs g4),(0,bc a0),(1,aw bu l1 bx),(6,ao (a2:Int)),(7,.bool aB)],[.sli 3 dw bu bx l1],[.blk g4 [bc 0,ao 0,.string EB] 63])) ?_ ?_;refine sq<|wP Z<|wN Z pL<|wP Z<|nt<|Qi<|pM (σ:=Nat×Bool) (Dy N l1) (λ(a7,aH)=>((a7,aH),[(35,ao (a7:Int)),(34,ao (l1.length:Int)),(33,aw bu l1 bx),(7,.bool aH),(4,bs g4),(0,bc a0),(1,aw bu l1 bx),(6,ao (a2:Int))],[.sli 3 dw bu bx l1],[.blk g4 [bc 0,ao 0,.string EB] 63])) (0,false) e [35,34,33,7,4,0,1,6] [0] Z λs_ bG bH e cn=>?_;obtain⟨a7,aH⟩:=s_;unfold Dy at e;try dsimp only at e⊢
 refine sq<|wP Z<|Qn (jP a7 l1.length)<|nt<|Q6 ?_;refine QO e Z (λe=>?_) λe=>?_;refine k8 35 34 33 7 4 0 1 6 Z<|kt<|Q6<|ks e λaQ e og=>?_;unfold Sh at e;refine cut (σ:=Bool) aQ (λaC=>(.inl aC,[(35,ao (a7:Int)),(34,ao (l1.length:Int)),(33,aw bu l1 bx),(7,.bool aC),(4,bs g4),(0,bc a0),(1,aw bu l1 bx),(6,ao (a2:Int))],[.sli 3 dw bu bx l1],[.blk g4 [bc 0,ao 0,.string EB] 63])) ?_ ?_;refine Qi<|sq<|kn e λb6 aR e=>wI 0 a7 Z aR pL fc λbI bK bC b7=>jV NV 1 Z λbL aS _=>?_;subst aS;refine jZ 0 0 (V3 ..) Z fc iU Z<|QP Z Z Z Zq Z lu Z λg9=>wS 0 0 Z fc (all':=V3 ..) Z (H':=[_,_]) Z<|Rp 9 35 34 33 7 4 0 1 6 Z<|Q6<|sq<|wM 0 0 (V3 ..) Z fc iU Z<|kn e λbM aT e=>c0 [] [0,1] Z uh aT TW [] [_,_] Z<|wP Z<|a2Z 41 9 35 34 33 7 4 0 1 6 Z ?_;refine QO e Z (λe=>?_) λe=>?_
 ·
  refine k1 4 Z<|sq<|mC Z Z Z Zq Z lu El Z (out:=V3 ..) Z<|wS 1 0 Z fc (all':=V3 ..) Z (H':=[_,_]) Z<|wP Z<|dp 5 4 Z<|Qm<|rb<|Q5<|rb<|Q5 ?_;cases(Qx kp (Qx cn (Qx og ((Zi e).symm)))).symm;refine vO (Hr:=[]) [] results291 (nD 1 Z Z fc iU Z Z) (kd Z) ⟨Z,Z,Z⟩ (bh [] Z) Z Z (.inl Z)
 refine k9 9 35 34 33 7 4 0 1 6 Z<|kt<|Qb<|ay Z ?_;refine fo e (λe=>?_) λe=>?_;refine ew Z<|wO Z<|wP Z<|Qq (S':=Pb ..) Z Z Z Z Z<|Q2<|Q7<|Qh [1] Z (H':=[_]) Z ?_;refine jM true e [35,34,33,7,4,0,1,6] [2] Z;refine wF Z ta<|wD 0 0 Z Hn Hg Z<|ay Z<|Qq (S':=Pb ..) Z Z Z Z Z<|Q2<|Q7<|Qh [1] Z (H':=[_]) Z ?_;refine jM (b6.k==2) e [35,34,33,7,4,0,1,6] [2] Z;rintro aC g;try dsimp only at g⊢
 have e:=QR og g;refine Qb<|wP Z<|kg e λaU e=>Qn (jz (a:=a7) (b:=1) aU)<|Qq (S':=V8 ..) Z Z Z Z Z<|Q2 ?_;refine pN (a7+1,aC) (QR cn (zs e)) [35,34,33,7,4,0,1,6] [0] Z;refine k5 7 4 0 1 6 Z<|iT<|Q8<|Q8<|Qt ?_;refine jn aH (Qx cn (zs e)) [4,0,1,6,7] [0] Z;rintro aB g;try dsimp only at g⊢
 have e:=QR kp g;refine Q6<|kn e λU aV e=>kg e λaW e=>kg e λaX e=>kn e λa3 aY e=>?_;refine Au (σ:=Nat×Nat) (λ_=>True) (λ(a4,a5)=>[(11,bs a4),(10,bs a5),(4,bs g4),(0,bc a0),(7,.bool aB)]) (λ(a4,a5)=>[]) (λ(a4,a5)=>[.blk a4 [bc (a3.k),ao (a3.n),.string a3.s] 63,.blk a5 [bc (U.k),ao (U.n),.string U.s] 63,.blk g4 [bc 0,ao 0,.string EB] 63]) ?_ ?_;refine QK [0,1,2,3,4,5,6,7] Z Z λz=>xP z 0 Z<|xI z 1 0 0 Z aV pL fc λbN bO bD b8=>K0 NV 1 Z λbP aZ _=>?_;subst aZ;refine xL z 2 0 0 (V3 ..) Z fc iU Z<|cw z 3 Z<|xP z 5 Z<|iB (i64_in aW)<|qQ z 6 2 (((a2:Int)-1).toNat) Z Z Z Zq Z Z Z Z Z (wZ aX) aY pL fc λbQ bR bF b9=>K0 NV 1 Z λbS b1 _=>?_;subst b1;refine xL z 7 0 0 (V3 ..) Z fc iU Z ?_;refine HJ z 8 9 Z Z Z Z Z Z ?_ ?_;refine QP Z Z Z Zq Z lu Z λaI=>Q2<|cv 0 [] Z<|xS z 9 Z<|QP Z Z Z Zq Z lu Z λaJ=>Q2<|cv 0 [] Z<|xS z 10 Z<|wS 1 0 Z fc (all':=V3 ..) Z (H':=V3 ..) Z<|Q2<|cv 0 [] Z<|xS z 11 Z<|wS 0 0 Z fc (all':=V3 ..) Z (H':=V3 ..) Z<|Q2 ?_;refine cv 0 [] Z<|QE z Z ?_;refine lL (aJ,aI) trivial [11,10,4,0,7] Z (bh [] Z) Z;refine QP Z Z Z Zq Z lu Z λaJ=>Q2<|cv 0 [] Z<|xS z 8 Z<|QP Z Z Z Zq Z lu Z λaI=>Q2<|cv 0 [] Z<|xS z 10 Z<|wS 0 0 Z fc (all':=V3 ..) Z (H':=V3 ..) Z<|Q2<|cv 0 [] Z<|xS z 11 Z<|wS 1 0 Z fc (all':=V3 ..) Z (H':=V3 ..) Z<|Q2 ?_;refine cv 0 [] Z<|QE z Z<|Qh [1,0,2] Z (H':=V3 ..) Z ?_;refine lL (aJ,aI) trivial [11,10,4,0,7] Z (bh [] Z) Z;rintro⟨a4,a5⟩ _;try dsimp only
 refine Q6<|Qi<|sq<|ay Z<|wP Z<|lT 58 11 10 4 0 7 Z ?_;refine QO e Z (λe=>?_) λe=>?_
 ·
  refine k3 11 10 4 Z<|sq<|wM 1 0 (V3 ..) Z fc iU Z<|wM 0 0 (V3 ..) Z fc iU Z<|sF Z Z Z Zq Z Z Z (KF _ _ U a3)<|kn e λbT b2 e=>c0 [] [0,1,2] Z EL b2 Q9s [] (V3 ..) Z<|wS 2 0 Z fc (all':=V3 ..) Z (H':=V3 ..) Z<|wP Z<|dp 5 4 Z<|Qm<|Qr<|Q5 ?_;cases(Zi e);refine vO (Hr:=[]) [] results291 (nD 2 Z Z fc iU Z Z) (kd Z) ⟨Z,Z,Z⟩ (bh [] Z) Z Z (.inl Z)
 refine k5 11 10 4 0 7 Z<|sq<|ay Z<|wP Z<|lT 65 11 10 4 0 7 Z ?_;refine QO e Z (λe=>?_) λe=>?_
 ·
  refine k3 11 10 4 Z<|sq<|wM 1 0 (V3 ..) Z fc iU Z<|wM 0 0 (V3 ..) Z fc iU Z<|sF Z Z Z Zq Z Z Z (WB _ _ U a3)<|kn e λbU b3 e=>c0 [] [0,1,2] Z EL b3 Q9s [] (V3 ..) Z<|wS 2 0 Z fc (all':=V3 ..) Z (H':=V3 ..) Z<|wP Z<|dp 5 4 Z<|Qm<|Qr<|Q5 ?_;cases(Zi e);refine vO (Hr:=[]) [] results291 (nD 2 Z Z fc iU Z Z) (kd Z) ⟨Z,Z,Z⟩ (bh [] Z) Z Z (.inl Z)
 refine k5 11 10 4 0 7 Z<|sq<|ay Z<|mu 72 11 10 4 0 Z ?_;refine QO e Z (λe=>?_) λe=>?_
 ·
  refine k1 4 Z<|sq<|mC Z Z Z Zq Z lu El Z (out:=V3 ..) Z<|wS 2 0 Z fc (all':=V3 ..) Z (H':=V3 ..) Z<|wP Z<|dp 5 4 Z<|Qm<|Qr<|Q5 ?_;cases(Zi e);refine vO (Hr:=[]) [] results291 (nD 2 Z Z fc iU Z Z) (kd Z) ⟨Z,Z,Z⟩ (bh [] Z) Z Z (.inl Z)
 refine k4 11 10 4 0 Z<|QV<|Q7<|Qw<|Q6<|kn e λb4 e Lo=>?_;unfold QJ at e;refine cut (σ:=Int×Bool) b4 (λ(aD,aE)=>((aD,aE),[(4,bs g4),(12,ao aD),(13,.bool aE)],[],[.blk g4 [bc 0,ao 0,.string EB] 63])) ?_ ?_;obtain⟨_|_|_|_|_|_|_|_|_|_,a8,e⟩:=Qz e;try dsimp only at e
 refine kn e λ_ h e=>?_;try dsimp only at e
 refine QK [0,2,3,4,5,7,8,9] Z Z λz=>xP z 0 Z<|xF z 2 Z w6<|xD z 3 1 1 Z jk ji Z<|xF z 4 Z w6<|xD z 5 0 1 Z jk ji Z<|xS z 1 Z<|c0 [] [0,1,2] Z P8 a8 sj [] (V3 ..) Z<|Q2<|ie [] [0,1] Z Z<|xS z 6 Z<|qU [] [0,1,2] Z Z Z Zq Z Z Z Vv Z Z (@qE N U.n a3.n h) (bh [] Z) Z (H':=V3 ..) Z ?_;rintro _ _ _ ⟨rfl,rfl,rfl⟩;refine Q2<|ie [] [] Z Z<|cw z 7 Z<|xP z 9 Z<|xS z 10 Z<|wP Z<|Q2<|ie [] [] Z Z<|xS z 11 Z<|wP Z<|Q2<|ie [] [] Z Z<|QE z Z<|Qh [2] Z (H':=[_]) Z ?_;refine jM (IntKind.wrap .i64 (U.n+a3.n),(decide ((IntKind.wrap .i64 (U.n+a3.n))<U.n))==(decide (a3.n<0))) e [4,12,13] [] Z;try dsimp only at e
 refine kn e λ_ h e=>?_;try dsimp only at e
 refine QK [0,2,3,4,5,7,8,9] Z Z λz=>xP z 0 Z<|xF z 2 Z w6<|xD z 3 1 1 Z jk ji Z<|xF z 4 Z w6<|xD z 5 0 1 Z jk ji Z<|xS z 1 Z<|c0 [] [0,1,2] Z P8 a8 sk [] (V3 ..) Z<|Q2<|ie [] [0,1] Z Z<|xS z 6 Z<|qU [] [0,1,2] Z Z Z Zq Z Z Z Vw Z Z (@qF N U.n a3.n h) (bh [] Z) Z (H':=V3 ..) Z ?_;rintro _ _ _ ⟨rfl,rfl,rfl⟩;refine Q2<|ie [] [] Z Z<|cw z 7 Z<|xP z 9 Z<|xS z 10 Z<|wP Z<|Q2<|ie [] [] Z Z<|xS z 11 Z<|wP Z<|Q2<|ie [] [] Z Z<|QE z Z<|Qh [2] Z (H':=[_]) Z ?_;refine jM (IntKind.wrap .i64 (U.n-a3.n),(decide ((IntKind.wrap .i64 (U.n-a3.n))>U.n))==(decide (a3.n<0))) e [4,12,13] [] Z;try dsimp only at e
 obtain⟨⟨aK,aL⟩,h,e⟩:=Qz e;try dsimp only at e
 refine QK [0,2,3,4,5,7,8,9] Z Z λz=>xP z 0 Z<|xF z 2 Z w6<|xD z 3 1 1 Z jk ji Z<|xF z 4 Z w6<|xD z 5 0 1 Z jk ji Z<|xS z 1 Z<|c0 [] [0,1,2] Z P8 a8 so [] (V3 ..) Z<|Q2<|ie [] [0,1] Z Z<|xS z 6 Z<|qU [] [0,1,2] Z Z Z Zq Z Z Z Vx Z Z (@pD N U.n a3.n _ _ h) (bh [] Z) Z (H':=V3 ..) Z ?_;rintro _ _ _ ⟨rfl,rfl,rfl⟩;refine Q2<|ie [] [] Z Z<|cw z 7 Z<|xP z 9 Z<|xS z 10 Z<|wP Z<|Q2<|ie [] [] Z Z<|xS z 11 Z<|wP Z<|Q2<|ie [] [] Z Z<|QE z Z<|Qh [2] Z (H':=[_]) Z ?_;refine jM (aK,aL) e [4,12,13] [] Z;try dsimp only at e
 refine kn e λ_ h e=>?_;try dsimp only at e
 refine QK [0,2,3,4,5,7,8,9] Z Z λz=>xP z 0 Z<|xF z 2 Z w6<|xD z 3 1 1 Z jk ji Z<|xF z 4 Z w6<|xD z 5 0 1 Z jk ji Z<|xS z 1 Z<|c0 [] [0,1,2] Z P8 a8 sr [] (V3 ..) Z<|Q2<|ie [] [0,1] Z Z<|xS z 6 Z<|qU [] [0,1,2] Z Z Z Zq Z Z Z Vy Z Z (@qG N U.n a3.n h) (bh [] Z) Z (H':=V3 ..) Z ?_;rintro _ _ _ ⟨rfl,rfl,rfl⟩;refine Q2<|ie [] [] Z Z<|cw z 7 Z<|xP z 9 Z<|xS z 10 Z<|wP Z<|Q2<|ie [] [] Z Z<|xS z 11 Z<|wP Z<|Q2<|ie [] [] Z Z<|QE z Z<|Qh [2] Z (H':=[_]) Z ?_;refine jM (IntKind.wrap .i64 (0-U.n),U.n !=-9223372036854775808) e [4,12,13] [] Z;try dsimp only at e
 refine kn e λaF h e=>QK [0,2,3,4,5,7,8,9] Z Z λz=>xP z 0 Z<|xF z 2 Z w6<|xD z 3 1 1 Z jk ji Z<|xF z 4 Z w6<|xD z 5 0 1 Z jk ji Z<|xS z 1 Z<|c1 [] [0,1,2] Z P8 a8 su [] (V3 ..) Z λa6=>Q2<|ie [] [1,2] Z Z<|xS z 6 Z<|qU [0] [1,2,3] Z Z Z Zq Z Z Z Vz Z Z (@qH N U.n a3.n a6 _ h) (bh [] Z) Z (H':=V3 ..) Z ?_;rintro _ _ _ ⟨rfl,rfl,rfl⟩;refine Q2<|ie [] [] Z Z<|cw z 7 Z<|xP z 9 Z<|xS z 10 Z<|wP Z<|Q2<|ie [] [] Z Z<|xS z 11 Z<|wP Z<|Q2<|ie [] [] Z Z<|QE z Z<|Qh [3] Z (H':=[_]) Z ?_;refine jM (aF,true) e [4,12,13] [] Z;try dsimp only at e
 refine kn e λaF h e=>QK [0,2,3,4,5,7,8,9] Z Z λz=>xP z 0 Z<|xF z 2 Z w6<|xD z 3 1 1 Z jk ji Z<|xF z 4 Z w6<|xD z 5 0 1 Z jk ji Z<|xS z 1 Z<|c1 [] [0,1,2] Z P8 a8 sv [] (V3 ..) Z λa6=>Q2<|ie [] [1,2] Z Z<|xS z 6 Z<|qU [0] [1,2,3] Z Z Z Zq Z Z Z VA Z Z (@qI N U.n a3.n a6 _ h) (bh [] Z) Z (H':=V3 ..) Z ?_;rintro _ _ _ ⟨rfl,rfl,rfl⟩;refine Q2<|ie [] [] Z Z<|cw z 7 Z<|xP z 9 Z<|xS z 10 Z<|wP Z<|Q2<|ie [] [] Z Z<|xS z 11 Z<|wP Z<|Q2<|ie [] [] Z Z<|QE z Z<|Qh [3] Z (H':=[_]) Z ?_;refine jM (aF,true) e [4,12,13] [] Z;try dsimp only at e
 refine kn e λaF h e=>QK [0,2,3,4,5,7,8,9] Z Z λz=>xP z 0 Z<|xF z 2 Z w6<|xD z 3 1 1 Z jk ji Z<|xF z 4 Z w6<|xD z 5 0 1 Z jk ji Z<|xS z 1 Z<|c1 [] [0,1,2] Z P8 a8 sw [] (V3 ..) Z λa6=>Q2<|ie [] [1,2] Z Z<|xS z 6 Z<|qU [0] [1,2,3] Z Z Z Zq Z Z Z VB Z Z (@qJ N U.n a3.n a6 _ h) (bh [] Z) Z (H':=V3 ..) Z ?_;rintro _ _ _ ⟨rfl,rfl,rfl⟩;refine Q2<|ie [] [] Z Z<|cw z 7 Z<|xP z 9 Z<|xS z 10 Z<|wP Z<|Q2<|ie [] [] Z Z<|xS z 11 Z<|wP Z<|Q2<|ie [] [] Z Z<|QE z Z<|Qh [3] Z (H':=[_]) Z ?_;refine jM (aF,true) e [4,12,13] [] Z;try dsimp only at e
 refine kn e λaF h e=>QK [0,2,3,4,5,7,8,9] Z Z λz=>xP z 0 Z<|xF z 2 Z w6<|xD z 3 1 1 Z jk ji Z<|xF z 4 Z w6<|xD z 5 0 1 Z jk ji Z<|xS z 1 Z<|c1 [] [0,1,2] Z P8 a8 sy [] (V3 ..) Z λa6=>Q2<|ie [] [1,2] Z Z<|xS z 6 Z<|qU [0] [1,2,3] Z Z Z Zq Z Z Z VC Z Z (@qK N U.n a3.n a6 _ h) (bh [] Z) Z (H':=V3 ..) Z ?_;rintro _ _ _ ⟨rfl,rfl,rfl⟩;refine Q2<|ie [] [] Z Z<|cw z 7 Z<|xP z 9 Z<|xS z 10 Z<|wP Z<|Q2<|ie [] [] Z Z<|xS z 11 Z<|wP Z<|Q2<|ie [] [] Z Z<|QE z Z<|Qh [3] Z (H':=[_]) Z ?_;refine jM (aF,true) e [4,12,13] [] Z;try dsimp only at e
 refine kn e λaF h e=>QK [0,2,3,4,5,7,8,9] Z Z λz=>xP z 0 Z<|xF z 2 Z w6<|xD z 3 1 1 Z jk ji Z<|xF z 4 Z w6<|xD z 5 0 1 Z jk ji Z<|xS z 1 Z<|c1 [] [0,1,2] Z P8 a8 sA [] (V3 ..) Z λa6=>Q2<|ie [] [1,2] Z Z<|xS z 6 Z<|qU [0] [1,2,3] Z Z Z Zq Z Z Z VD Z Z (@qL N U.n a3.n a6 _ h) (bh [] Z) Z (H':=V3 ..) Z ?_;rintro _ _ _ ⟨rfl,rfl,rfl⟩;refine Q2<|ie [] [] Z Z<|cw z 7 Z<|xP z 9 Z<|xS z 10 Z<|wP Z<|Q2<|ie [] [] Z Z<|xS z 11 Z<|wP Z<|Q2<|ie [] [] Z Z<|QE z Z<|Qh [3] Z (H':=[_]) Z ?_;refine jM (aF,true) e [4,12,13] [] Z
 ·
  try dsimp only at e
  cases e
 rintro⟨aD,aE⟩ g;try dsimp only at g⊢
 have e:=Lo;try rw[g]at e
 try dsimp only at e
 refine Q6<|sq<|ay Z<|gR 86 4 12 Z ?_;refine QO e Z (λe=>?_) λe=>?_
 ·
  refine k1 4 Z<|sq<|mC Z Z Z Zq Z lu El Z (out:=V3 ..) Z<|wS 0 0 Z fc (all':=V3 ..) Z (H':=[_]) Z<|wP Z<|dp 5 4 Z<|Qm<|Q5 ?_;cases(Zi e);refine vO (Hr:=[]) [] results291 (nD 0 Z Z fc iU Z Z) (kd Z) ⟨Z,Z,Z⟩ (bh [] Z) Z Z (.inl Z)
 ·
  refine k2 4 12 Z<|kt<|sq<|wP Z<|kn e λ_ b5 e=>?_;try dsimp only at e
  refine c0 [] [0] Z EM b5 Q8Q [] [_] Z<|wS 0 0 Z fc (all':=V3 ..) Z (H':=[_]) Z<|wP Z<|dp 5 4 Z<|Qm ?_;cases(Zi e);refine vO (Hr:=[]) [] results291 (nD 0 Z Z fc iU Z Z) (kd Z) ⟨Z,Z,Z⟩ (bh [] Z) Z Z (.inl Z)
def ZU (rc:Int->Int->Int->ByteArray->Int->Int->(List Q4)->(List V)->Option (Int×Int×ByteArray×Nat)):Prop:=∀(a0:Int)(a1:Int)(a2:Int)(a3:ByteArray)(a4:Int)(a5:Int)(bu:OA)(bx:Nat)(U:List Q4)(ej:OA)(ei:Nat)(l7:List V)(o0:Int)(o1:Int)(o2:ByteArray)(o3:Nat),rc a0 a1 a2 a3 a4 a5 U l7=some (o0,o1,o2,o3)->QD prog 231 [.agg #[bc a0,bc a1,ao a2,.string a3,ao a4,bc a5,aw bu U bx],aw ej l7 ei] [.sli 7 Qj bu bx U,.sli 3 dw ej ei l7] [] (R0 (.tuple #[.agg #[bc o0,ao o1,.string o2],ao (o3:Int)]) [] [])
theorem sb (N:Nat)(rc:Int->Int->Int->ByteArray->Int->Int->(List Q4)->(List V)->Option (Int×Int×ByteArray×Nat))(ih:ZU rc)(aB:OA)(aC:Nat)(l0:List V)(aD:OA)(aE:Nat)(l1:List Q4)(o2:List V)(o4:Nat)(e:ZQ N rc l0 l1=some (o2,o4)):QD prog 290 [aw aB l0 aC,aw aD l1 aE] [.sli 3 dw aB aC l0,.sli 7 Qj aD aE l1] [] (λv p q=>∃o0 o1 o3,R0 (.tuple #[.slice o0 o3 o1,ao (o4:Int)]) [] [.own 63 3 dw (.slice o0 o3 o1) o2] v p q):=by
 unfold ZQ at e;refine Qp func290 Z ntmps290 Z (S:=[_,_]) Z λC=>sq<|ay Z<|dp 0 1 Z<|sq<|wP Z<|nt<|Q6<|ks e λaJ e bw=>?_
 refine cut (σ:=(List V)×OA×Nat×Nat) aJ (λ(a6,a0,a1,a2)=>(.inl a6,[(6,.slice a0 a2 a1)],[],[.own 63 3 dw (.slice a0 a2 a1) a6])) ?_ ?_;refine sq<|wP Z<|wN Z nH<|wP Z<|mu 13 12 11 6 0 Z<|Qi<|ON 63 3 dw<|pM (σ:=Nat×(List V)×OA×Nat×Nat) (Y1 N l1 rc l0) (λ(z,h,a3,a4,a5)=>((z,h),[(13,ao (z:Int)),(12,ao (l1.length:Int)),(11,aw aD l1 aE),(6,.slice a3 a5 a4),(0,aw aB l0 aC)],[.sli 7 Qj aD aE l1,.sli 3 dw aB aC l0],[.own 63 3 dw (.slice a3 a5 a4) h])) (0,[],none,0,0) e [13,12,11,6,0] [1,0] Z λs_ aW aX e cn=>?_;obtain⟨z,h,a3,a4,a5⟩:=s_;unfold Y1 at e;try dsimp only at e⊢
 refine sq<|wP Z<|Qn (jP z l1.length)<|nt<|Q6 ?_;refine QO e Z (λe=>?_) λe=>?_;refine k5 13 12 11 6 0 Z<|kt<|Q6<|Qi<|sq<|kn e λU aK e=>wI 0 z Z aK nH kD λaY aZ aV aS=>jV S8 1 Z λaL aM _=>?_;subst aM;refine jZ 1 0 (V7 ..) Z kD wc Z<|QP Z Z Z Zq Z Hp Z λg8=>wS 0 0 Z kD (all':=V7 ..) Z (H':=[_,_]) Z<|lT 8 13 12 11 6 0 Z<|sq<|wM 0 0 (V7 ..) Z kD wc Z<|wP Z ?_;obtain⟨⟨a7,a8,a9,aI⟩,aN,e⟩:=Qz e;try dsimp only at e
 have aO:=ih U.kind U.value.k U.value.n U.value.s U.var U.op aL.1 aL.2 U.kids aB aC l0 _ _ _ _ aN;refine wC [] [0,1] Z EI Z (aO) (bh [0,4] Z) Z (H':=[_,_]) Z ?_;rintro _ _ _ ⟨rfl,rfl,rfl⟩;refine ay Z<|wP Z<|QP Z Z Z Zq Z lu Z λg9=>wS 0 0 Z fc (all':=V3 ..) Z (H':=V3 ..) Z<|wP Z<|JF 10 9 13 12 11 6 0 Z<|Q6<|sq<|ay Z<|Qn (S4 aI 0)<|Tj 24 10 9 13 12 11 6 0 Z ?_;refine QO e Z (λe=>?_) λe=>?_;refine k1 10 Z<|sq<|ay Z<|wP Z<|dp 5 4 Z<|Qm<|rb<|Q5<|rb<|Q5 ?_;have g:=(Zi e).symm;replace g:=Qx cn g;replace g:=Qx bw g;obtain⟨rfl,rfl⟩:=Pj g.symm;refine JX 63 3 dw ?_;refine CD [0] [] results290 Z ⟨none,0,0,Z,Z,Z⟩ Z;refine k6 9 13 12 11 6 0 Z<|kt<|Qb<|wP Z<|wM 0 0 (V3 ..) Z fc iU Z<|tz Z Z Z Zq Z pL fc lu Z (zs:=[bc 0,ao 0,.string EB]) aq Z (out:=V3 ..) Z λb1=>kg e λaG e=>HG ([(⟨a7,a8,a9⟩:V)]) 3 0 Z Z Z Zq Z Z Z Z Z (λF w bj=>⟨[bc a7,ao a8,.string a9],[],Z,Z,⟨(),Z,QF⟩,Z⟩) pL Hm Z Z (d' aG bf) (d' (Nat.mul_le_mul_right _ aG) bf) (H2:=λaP aQ=>(V4 ..)) (λ_ _=>Z) λaP aQ=>Jl 0 Z (H':=V3 ..) Z<|Qq (S':=V9 ..) Z Z Z Z Z<|Q2<|Q7<|Qw<|k5 6 13 12 11 0 Z ?_;refine Qb<|wP Z<|kg e λaR e=>Qn (jz (a:=z) (b:=1) aR)<|Qq (S':=V5 ..) Z Z Z Z Z<|Q2<|Qh [2] Z (H':=[_]) Z ?_;refine pN (z+1,(h++([(⟨a7,a8,a9⟩:V)])),aP,aQ,((h++([(⟨a7,a8,a9⟩:V)])).length)) (QR cn (zs e)) [13,12,11,6,0] [3,4] Z;refine k1 6 Z<|iT<|Q8<|Q8<|Qt ?_;refine jn (h,a3,a4,a5) (Qx cn (zs e)) [6] [] Z;rintro⟨a6,a0,a1,a2⟩ g;try dsimp only at g⊢
 have e:=QR bw g;refine sq<|ay Z<|wP Z<|dp 5 4 Z<|Qm ?_;have g:=(Zi e).symm;obtain⟨rfl,rfl⟩:=Pj g.symm;refine CD [0] [] results290 Z ⟨a0,a1,a2,Z,Z,Z⟩ Z
theorem Qdb (N:Nat)(rc:Int->Int->Int->ByteArray->Int->Int->(List Q4)->(List V)->Option (Int×Int×ByteArray×Nat))(ih:ZU rc)(a9:Nat)(s:OA)(z:Nat)(l0:List V)(aA:Nat)(a1:Int)(a2:Int)(a3:Int)(a4:ByteArray)(a5:Int)(a6:Int)(a0:OA)(a7:Nat)(U:List Q4)(o0:Nat)(o1:Int)(o2:Nat)(e:ZE N rc l0 a1 a2 a3 a4 a5 a6 U=some (o0,o1,o2)):QD prog 289 [bs a9,bs aA] [.sli 3 dw s z l0,.sli 7 Qj a0 a7 U] [.blk a9 [aw s l0 z] 38,.blk aA [bc a1,bc a2,ao a3,.string a4,ao a5,bc a6,aw a0 U a7] 67] (R0 (.tuple #[.agg #[bc (o0:Int),ao o1,.string EB],ao (o2:Int)]) [.sli 3 dw s z l0,.sli 7 Qj a0 a7 U] [.blk a9 [aw s l0 z] 38,.blk aA [bc a1,bc a2,ao a3,.string a4,ao a5,bc a6,aw a0 U a7] 67]):=by
 unfold ZE at e;refine Qp func289 Z ntmps289 Z (S:=[_,_]) Z λC=>sq<|QP Z Z Z Zq Z lu Z λg2=>wP Z<|gR 2 0 1 Z<|sq<|wD 1 0 Z we xb Z<|wF Z HL<|wD 2 6 Z qZ rS Z ?_
 obtain⟨⟨aB,aC⟩,aH,e⟩:=Qz e;try dsimp only at e
 refine wC [] [0,1,2] Z Vp Z (sb N rc ih s z l0 a0 a7 U _ _ aH) (bh [0,1] Z) Z (H':=V3 ..) Z ?_;rintro _ _ _ ⟨aD,aE,aP,rfl,rfl,rfl⟩;refine ay Z<|ay Z<|wP Z<|ib 5 4 2 1 Z<|Q6<|sq<|ay Z<|Qn (S4 aC 0)<|mu 14 5 4 2 1 Z ?_;refine QO e Z (λe=>?_) λe=>?_
 ·
  refine k2 5 2 Z<|sq<|mC Z Z Z Zq Z lu El Z (out:=V3 ..) Z<|wP Z<|wS 1 0 Z fc (all':=V3 ..) Z (H':=V4 ..) Z<|wP Z<|dp 3 2 Z<|Qm<|Q5 ?_;cases(Zi e);refine vO (Hr:=[_,_]) [2,3] results289 (nD 1 Z Z fc iU Z Z) (kd Z) ⟨Z,Z,Z⟩ (bh [0,1] Z) Z Z (.inl Z)
 ·
  refine k3 4 2 1 Z<|kt<|sq<|wF Z P1<|wD 3 5 Z pk oW Z<|wP Z<|rM 0 Z λa8 _=>?_;subst a8;obtain⟨⟨aQ,aR,aS⟩,aI,e⟩:=Qz e;try dsimp only at e
  refine pH [] [0,1,2,3] [0] Z Z Z Zq Z Z Vq Z (@Ar N a6 aD aE aB _ _ _ aI) (λF w bj hh=>(jm (vN (hh _ (iZ (k:=0) Z))) QF)) (λ_ _ _ hR=>by obtain⟨rfl,rfl,rfl⟩:=hR;exact⟨Z,(λ_ h=>Qcj h)⟩) Z Z (H':=V4 ..) Z ?_;rintro _ _ _ ⟨rfl,rfl,rfl⟩;refine ay Z<|wS 1 0 Z fc (all':=V3 ..) Z (H':=V4 ..) Z<|wP Z<|dp 3 2 Z<|Qm ?_;cases(Zi e);refine vO (Hr:=[_,_]) [2,3] results289 (nD 1 Z Z fc iU Z Z) (kd Z) ⟨Z,Z,Z⟩ (bh [0,1] Z) Z Z (.inl Z)
theorem sf (N:Nat)(rc:Int->Int->Int->ByteArray->Int->Int->(List Q4)->(List V)->Option (Int×Int×ByteArray×Nat))(ih:ZU rc):ZU (Sf N rc):=by
 intro a0 U a2 a3 a4 a5 bu bx l6 ej ei l7 o0 o1 o2 o3 e;unfold Sf at e;refine Qp func231 Z ntmps231 Z (S:=[_,_]) Z λC=>sq<|wB Z λh=>wB Z λg3=>QP Z Z Z Zq Z lu Z λg4=>wP Z<|gR 4 3 2 Z<|sq<|rH (gM (QA Hk)) false Eh Z Z Z Zq Z λg9=>yW Z Z Z Zq Z Z<|Jg (i:=1) (u:=.func (.func 286) #[] #[bs h]) (cs:=[.func (.func 286) #[] #[bs h]]) 0 Z Z (.inr Z) Z Z Z Z nw trivial Z (λF w bj=>⟨Z,Z⟩) (H':=[kG (gM (QA Hk)) false Eh g9 ([(1,.func (.func 286) #[] #[bs h])]),.blk g4 [bc 0,ao 0,.string EB] 63,.blk g3 [aw ej l7 ei] 38,.blk h [bc a0,bc U,ao a2,.string a3,ao a4,bc a5,aw bu l6 bx] 67]) Z<|yW Z Z Z Zq Z Z<|Jg (i:=2) (u:=.func (.func 288) #[] #[bs h,bs g3]) (cs:=[.func (.func 288) #[] #[bs h,bs g3]]) 0 Z Z (.inr Z) Z Z Z Z nw trivial Z (λF w bj=>⟨Z,Z⟩) (H':=[kG (gM (QA Hk)) false Eh g9 ([(1,.func (.func 286) #[] #[bs h]),(2,.func (.func 288) #[] #[bs h,bs g3])]),.blk g4 [bc 0,ao 0,.string EB] 63,.blk g3 [aw ej l7 ei] 38,.blk h [bc a0,bc U,ao a2,.string a3,ao a4,bc a5,aw bu l6 bx] 67]) Z<|yW Z Z Z Zq Z Z ?_
 refine Jg (i:=3) (u:=.func (.func 289) #[] #[bs g3,bs h]) (cs:=[.func (.func 289) #[] #[bs g3,bs h]]) 0 Z Z (.inr Z) Z Z Z Z nw trivial Z (λF w bj=>⟨Z,Z⟩) (H':=[kG (gM (QA Hk)) false Eh g9 ([(1,.func (.func 286) #[] #[bs h]),(2,.func (.func 288) #[] #[bs h,bs g3]),(3,.func (.func 289) #[] #[bs g3,bs h])]),.blk g4 [bc 0,ao 0,.string EB] 63,.blk g3 [aw ej l7 ei] 38,.blk h [bc a0,bc U,ao a2,.string a3,ao a4,bc a5,aw bu l6 bx] 67]) Z<|wP Z<|wF Z Ah<|wD 3 0 Z Nf N1 Z ?_;rcases ke e with⟨s,e⟩|⟨s,e⟩
 ·
  refine Jd (i:=a0) (a:=(.func (.func 286) #[] #[bs h])) Jc 0 Z Z Z Zq Z Z Z Z nw trivial (by rw[eq_of_beq s];rfl) (u:=λ_=>.func (.func 286) #[] #[bs h]) (λ_=>Z) (v:=λ_=>.tuple #[.func (.func 286) #[] #[bs h],.bool true]) (λ_=>Z) λ_ _=>ay Z<|ay Z<|wP Z<|gR 7 6 4 Z<|Q6<|sq<|ay Z<|gR 20 6 4 Z<|Ed Z<|k2 6 4 Z<|kt<|sq<|wP Z ?_;obtain⟨⟨a9,aA,aB,aC⟩,a8,e⟩:=Qz e;try dsimp only at e
  refine qU [3] [0,1,2] Z Z Z Zq Z Z Z Vm Z Z (@sd N h a0 U a2 a3 a4 a5 bu bx l6 _ _ _ _ a8) (bh [0] Z) Z (H':=V3 ..) Z ?_;rintro _ _ _ ⟨rfl,rfl,rfl⟩;refine ay Z<|wS 2 0 Z fc (all':=V3 ..) Z (H':=V4 ..) Z<|wP Z<|dp 5 4 Z<|Qm ?_;cases(Zi e);refine vO (Hr:=[]) [] results231 (nD 2 Z Z fc iU Z Z) (kd Z) ⟨Z,Z,Z⟩ (bh [] Z) Z Z (.inl Z)
 rcases ke e with⟨z,e⟩|⟨z,e⟩
 ·
  refine Jd (i:=a0) (a:=(.func (.func 288) #[] #[bs h,bs g3])) Jc 0 Z Z Z Zq Z Z Z Z nw trivial (by rw[eq_of_beq z];rfl) (u:=λ_=>.func (.func 288) #[] #[bs h,bs g3]) (λ_=>Z) (v:=λ_=>.tuple #[.func (.func 288) #[] #[bs h,bs g3],.bool true]) (λ_=>Z) λ_ _=>ay Z<|ay Z<|wP Z<|gR 7 6 4 Z<|Q6<|sq<|ay Z<|gR 20 6 4 Z<|Ed Z<|k2 6 4 Z<|kt<|sq<|wP Z ?_;obtain⟨⟨a9,aA,aB,aC⟩,a8,e⟩:=Qz e;try dsimp only at e
  refine qU [3,2] [0,1] Z Z Z Zq Z Z Z Vn Z Z (@se N h a0 U a2 a3 a4 a5 bu bx l6 g3 ej ei l7 _ _ _ _ a8) (bh [0,1] Z) Z (H':=[_,_]) Z ?_;rintro _ _ _ ⟨rfl,rfl,rfl⟩;refine ay Z<|wS 3 0 Z fc (all':=V3 ..) Z (H':=V4 ..) Z<|wP Z<|dp 5 4 Z<|Qm ?_;cases(Zi e);refine vO (Hr:=[]) [] results231 (nD 3 Z Z fc iU Z Z) (kd Z) ⟨Z,Z,Z⟩ (bh [] Z) Z Z (.inl Z)
 rcases ke e with⟨a6,e⟩|⟨a6,e⟩
 ·
  refine Jd (i:=a0) (a:=(.func (.func 289) #[] #[bs g3,bs h])) Jc 0 Z Z Z Zq Z Z Z Z nw trivial (by rw[eq_of_beq a6];rfl) (u:=λ_=>.func (.func 289) #[] #[bs g3,bs h]) (λ_=>Z) (v:=λ_=>.tuple #[.func (.func 289) #[] #[bs g3,bs h],.bool true]) (λ_=>Z) λ_ _=>ay Z<|ay Z<|wP Z<|gR 7 6 4 Z<|Q6<|sq<|ay Z<|gR 20 6 4 Z<|Ed Z<|k2 6 4 Z<|kt<|sq<|wP Z ?_;obtain⟨⟨a9,aA,aB⟩,a8,e⟩:=Qz e;try dsimp only at e
  refine qU [2,3] [0,1] Z Z Z Zq Z Z Z Vo Z Z (Qdb N rc ih g3 ej ei l7 h a0 U a2 a3 a4 a5 bu bx l6 _ _ _ a8) (bh [1,0] Z) Z (H':=[_,_]) Z ?_;rintro _ _ _ ⟨rfl,rfl,rfl⟩;refine ay Z<|wS 3 0 Z fc (all':=V3 ..) Z (H':=V4 ..) Z<|wP Z<|dp 5 4 Z<|Qm ?_;cases(Zi e);refine vO (Hr:=[]) [] results231 (nD 3 Z Z fc iU Z Z) (kd Z) ⟨Z,Z,Z⟩ (bh [] Z) Z Z (.inl Z)
 refine vI (i:=a0) 0 Z Z Z Zq Z Z Z Z Xv nw trivial (by simp[iK,(ne_of_beq_false s).symm,(ne_of_beq_false z).symm,(ne_of_beq_false a6).symm]) (v:=.tuple #[.nilFunc,.bool false]) Z<|ay Z<|ay Z<|wP Z<|gR 7 6 4 Z<|Q6<|sq<|ay Z<|gR 20 6 4 Z ?_;refine QO e Z (λe=>?_) λe=>?_
 ·
  refine k1 4 Z<|sq<|mC Z Z Z Zq Z lu El Z (out:=V3 ..) Z<|wS 1 0 Z fc (all':=V3 ..) Z (H':=V4 ..) Z<|wP Z<|dp 5 4 Z<|Qm<|Q5 ?_;cases(Zi e);refine vO (Hr:=[]) [] results231 (nD 1 Z Z fc iU Z Z) (kd Z) ⟨Z,Z,Z⟩ (bh [] Z) Z Z (.inl Z)
 ·
  refine k2 6 4 Z<|kt<|sq<|wP Z ?_;cases e
theorem Qd6:∀(N:Nat),ZU (yV N):=by
 intro N;induction N with
 |zero=>intro a0 a1 a2 a3 a4 a5 bu bx l6 ej ei l7 o0 o1 o2 o3 e;cases e
 |succ N U=>exact sf N (yV N) U
theorem QcC (e:Zs N l0 l1=some o0):QD prog 294 [.agg #[aw bu l0 bx,aw ej l1 ei]] [.sli 1 Qg bu bx l0,.sli 3 dw ej ei l1] [] (R0 (.bool o0) [] []):=by
 unfold Zs at e;refine Qp func294 Z ntmps294 Z (S:=[_]) Z λC=>sq<|wB Z λg1=>wP Z<|dz 1 Z<|Q6<|sq<|wF Z Ub<|wD 0 0 Z ll lg Z<|wN Z HS<|wF Z Yq<|wD 0 1 Z we xb Z<|wN Z pL<|wP Z ?_
 refine Qn (S4 l0.length l1.length)<|dp 11 1 Z ?_;refine QO e Z (λe=>?_) λe=>?_;refine k0 Z<|sq<|wP Z<|nr<|Q5 ?_;obtain rfl:=Zi e;refine ct [] [] results294 Z ⟨Z,Z,Z⟩ Z;refine k1 1 Z<|kt<|Q6<|ks e λz e bw=>?_;refine cut (σ:=Unit) z (λ_=>(.inl (),[],[],[])) ?_ ?_;refine sq<|wF Z Ub<|wD 0 0 Z ll lg Z<|wN Z HS<|wP Z<|ib 15 14 13 1 Z<|Qi<|pM (σ:=Nat) (TK N l0 l1) (λh=>(h,[(15,ao (h:Int)),(14,ao (l0.length:Int)),(13,aw bu l0 bx),(1,bs g1)],[.sli 1 Qg bu bx l0,.sli 3 dw ej ei l1],[.blk g1 [aw bu l0 bx,aw ej l1 ei] 130])) 0 e [15,14,13,1] [0,1] Z λh aC aD e U=>?_;unfold TK at e;try dsimp only at e⊢
 refine sq<|wP Z<|Qn (jP h l0.length)<|nt<|Q6 ?_;refine QO e Z (λe=>?_) λe=>?_;refine k4 15 14 13 1 Z<|kt<|Q6<|Qi<|sq<|wP Z<|kn e λaE a0 e=>wI 0 h Z a0 HS rZ λaF aG aA a8=>jV NS 1 Z λaH a1 _=>?_;subst a1;refine jZ 0 0 [_] Z rZ X8 Z<|ay Z<|lT 4 3 15 14 13 1 Z<|Q6<|kn e λa2 e ez=>?_;refine cut (σ:=Bool) a2 (λs=>(s,[(15,ao (h:Int)),(14,ao (l0.length:Int)),(13,aw bu l0 bx),(1,bs g1),(30,.bool s)],[.sli 1 Qg bu bx l0,.sli 3 dw ej ei l1],[.blk g1 [aw bu l0 bx,aw ej l1 ei] 130])) ?_ ?_;refine Qb<|ay Z<|wP Z ?_;refine fo e (λe=>?_) λe=>?_;refine wF Z Yq<|wD 0 1 Z we xb Z<|wP Z<|kn e λa3 a4 e=>wI 3 h Z a4 pL fc λaI aJ aB a9=>jV NV 1 Z λaK a5 _=>?_;subst a5;refine jZ 0 0 (V3 ..) Z fc iU Z<|mC Z Z Z Zq Z lu El Z (out:=V3 ..) Z<|sF Z Z Z Zq Z Z Z (WB _ _ a3 (⟨0,0,EB⟩:V))<|wP Z<|Q2 ?_;refine jM (!decide (a3=(⟨0,0,EB⟩:V))) e [15,14,13,1,30] [4,5] Z;refine eh Z<|ew Z<|wO Z<|wP Z<|Q2 ?_;refine jM false e [15,14,13,1,30] [2,3] Z;rintro s g;try dsimp only at g⊢
 have e:=ez;try rw[g]at e
 refine QO e Z (λe=>?_) λe=>?_;refine k0 Z<|sq<|wP Z<|nr<|Qr<|Q5<|rb<|Q5 ?_;obtain rfl:=(Qx bw (Qx U (zs e))).symm;refine ct [] [] results294 Z ⟨Z,Z,Z⟩ Z;refine k4 15 14 13 1 Z<|QV<|Q7<|Qw<|Qb<|wP Z<|kg e λa6 e=>Qn (jz (a:=h) (b:=1) a6)<|Qq (S':=V4 ..) Z Z Z Z Z<|Q2 ?_;refine pN (h+1) (QR U (zs e)) [15,14,13,1] [0,1] Z;refine k0 Z<|iT<|Q8<|Q8<|Qt<|Qh [] Z (H':=[]) Z ?_;refine jn () (Qx U (zs e)) [] [] Z;rintro _ g;try dsimp only at g⊢
 have e:=QR bw g;try dsimp only at e
 refine sq<|wP Z<|nr ?_;obtain rfl:=Zi e;refine ct [] [] results294 Z ⟨Z,Z,Z⟩ Z
theorem AX (p:OA)(c:Nat)(l:List Bool)(hb:l.length<=140737488355328):QD prog 337 [aw p l c] [.sli 1 Qg p c l] [] (λv bo Hr=>∃p' c',v=aw p' l c'/\bo=[]/\Hr=[.own 4 1 Qg v l]):=by
 refine Qp func337 Z ntmps337 Z (S:=[_]) Z λC=>pE (λF w h=>oS (h _ (iZ (k:=0) Z))) λox=>sq<|wP Z<|nt<|Q6<|sq<|wP Z<|Qbe Z Z Z Zq Z Z Z HS<|gR 4 2 0 Z ?_;refine iS Z (λU=>?_) λU=>?_;replace U:=ZW U;obtain rfl:=ox U;subst U;refine ON 4 1 Qg<|sq<|Qq (S':=[_,_]) Z Z Z Z Z<|nr<|Q5<|tA (Hr:=[.own 4 1 Qg (V1) []]) [0] results337 (kd Z) ?_ (bh [] Z) Z Z (.inl Z);exact⟨none,0,Z,Z,Z⟩;replace U:=ZS U;refine kt<|sq<|tz Z Z Z Zq Z HS rZ RN Z (zs:=[]) aq Z (out:=[]) Z λg5=>wP Z<|K9 (sz:=1) (m:=0) Qg [] 0 Z (λF w bj=>Z) Z bf (H':=[_]) Z<|Qbd 0 0 Z Z Z Zq Z Z Z Z Z HS Xk Z Z (by simp;omega) (by simp;omega) (H2:=λp7 c7=>[_]) (λ_ _=>Z) λp7 c7=>Qq (S':=V5 ..) Z Z Z Z Z<|gR 2 4 0 Z<|Qm<|tA (Hr:=[.own 4 1 Qg (.slice p7 (l).length c7) l]) [0] results337 (kd Z) ?_ (bh [] Z) Z Z (.inl Z);exact⟨_,_,Z,Z,Z⟩
theorem vA (e:Q9A N l0 l1=some ()):QD prog 295 [.agg #[aw bu l0 bx,aw ej l1 ei]] [.sli 1 Qg bu bx l0,.sli 3 dw ej ei l1] [] (λv p q=>∃o0 o1 o2 o3,R0 (.agg #[aw o0 l0 o1,aw o2 l1 o3]) [] [.own 4 1 Qg (aw o0 l0 o1) l0,.own 63 3 dw (aw o2 l1 o3) l1] v p q):=by
 unfold Q9A at e;refine Qp func295 Z ntmps295 Z (S:=[_]) Z λC=>sq<|wB Z λg1=>QP Z Z Z Zq Z FU Z λg2=>dp 2 1 Z<|Q6<|kg e λU e=>kg e λhg8 e=>QK [0,1,3,4,6,7] Z Z λz=>xF z 0 Z Ub<|xD z 1 1 0 Z ll lg Z<|xF z 3 Z Yq<|xD z 4 1 1 Z we xb Z<|xS z 2 Z ?_
 refine wC [] [0,1] Z Vu Z (AX bu bx l0 U) (bh [0] Z) Z (H':=[_,_]) Z ?_;rintro _ _ _ ⟨p5,c5,rfl,rfl,rfl⟩;refine Q2<|cv 0 [2] Z<|xS z 5 Z<|wC [] [0,1,2] Z SN Z (tn ej ei l1 hg8) (bh [1] Z) Z (H':=V3 ..) Z ?_;rintro _ _ _ ⟨p8,c8,rfl,rfl,rfl⟩;refine Q2<|cv 0 [3] Z<|Ug z 6 Z Z Z Zq Z Z Gh qx Z (out:=[_,_]) Z<|Ug z 7 Z Z Z Zq Z Z FU Xi Z (out:=[_,_]) Z<|xS z 8 Z<|wS 2 0 Z Ao (all':=[_,_]) Z (H':=V4 ..) Z<|Q2<|cv 0 [] Z<|QE z Z<|Qw<|k1 2 Z<|Qm ?_;have g:=(Zi e).symm;refine tA (Hr:=[_,_]) [1,0] results295 (nD 2 Z Z Ao MZ Z Z) ⟨p5,c5,p8,c8,Z,Z,Z⟩ (bh [] Z) Z Z (.inl Z)
theorem Qb7 {YN dm YO gu:Nat} {fh:OA} {o1:List Bool} {o2:List V} {a2 a3 a4 a5 U a8:Int} {a6 a9:ByteArray} (e:Zd N l0 l1 a2 a3 a4 a5 a6 U a8 a9=some (o0,o1,o2)):QD prog 296 [.agg #[.slice bu YN dm,.slice fh YO gu],.agg #[bc a2,ao a3,bc a4,ao a5,.string a6],.agg #[bc U,ao a8,.string a9]] [] [.own 4 1 Qg (.slice bu YN dm) l0,.own 63 3 dw (.slice fh YO gu) l1] (R0 (.bool o0) [] [.own 4 1 Qg (.slice bu YN dm) o1,.own 63 3 dw (.slice fh YO gu) o2]):=by
 unfold Zd at e;refine Qp func296 Z ntmps296 Z (S:=V3 ..) Z λC=>sq<|wB Z λg3=>wB Z λg4=>wB Z λg5=>wP Z<|gR 5 4 3 Z<|Q6<|kn e λaO e bw=>?_
 refine cut (σ:=Bool) aO (λa1=>(a1,[(5,bs g5),(4,bs g4),(3,bs g3),(7,.bool a1)],[],[.blk g5 [bc U,ao a8,.string a9] 63,.blk g4 [bc a2,ao a3,bc a4,ao a5,.string a6] 76,.blk g3 [.slice bu YN dm,.slice fh YO gu] 457,.own 4 1 Qg (.slice bu YN dm) l0,.own 63 3 dw (.slice fh YO gu) l1])) ?_ ?_;refine Qb<|wF Z DE<|wD 1 1 Z dh dx Z<|ay Z ?_;refine fo e (λe=>?_) λe=>?_;refine wF Z DE<|wD 1 1 Z dh dx Z<|wF Z Uc<|wF Z Ub<|wD 2 0 Z ll lg Z<|rM 3 Z λaP _=>wN Z HS<|Qn (kV aP)<|ay Z<|wP Z<|Q2 ?_;refine jM (decide (a3<(l0.length:Int))) e [5,4,3,7] [] Z;refine eh Z<|ew Z<|wO Z<|ay Z<|Q2 ?_;refine jM false e [5,4,3,7] [] Z;rintro a1 g;try dsimp only at g⊢
 have e:=bw;try rw[g]at e
 refine Q6<|sq<|wF Z pe<|wD 1 0 Z D8 CV Z<|mu 21 5 4 3 7 Z<|Qi<|sq<|ay Z<|lT 22 21 5 4 3 7 Z ?_;refine QO e Z (λe=>?_) λe=>?_
 ·
  refine k0 Z<|sq<|wP Z<|nr<|Qr<|Q5 ?_;cases(Zi e);refine ct [3,4] [] results296 Z ⟨Z,Z,Z⟩ Z
 refine k5 21 5 4 3 7 Z<|sq<|ay Z<|lT 24 21 5 4 3 7 Z ?_;refine QO e Z (λe=>?_) λe=>?_
 ·
  refine k2 5 4 Z<|sq<|wF Z pf<|wM 1 2 (V3 ..) Z fc iU Z<|wM 0 0 (V3 ..) Z fc iU Z<|sF Z Z Z Zq Z Z Z (KF _ _ (⟨a4,a5,a6⟩:V) (⟨U,a8,a9⟩:V))<|wP Z<|dz 6 Z<|Qm<|Qr<|Q5 ?_;cases(Zi e);refine ct [3,4] [] results296 Z ⟨Z,Z,Z⟩ Z
 refine k5 21 5 4 3 7 Z<|sq<|ay Z<|lT 30 21 5 4 3 7 Z ?_;refine QO e Z (λe=>?_) λe=>?_;refine k4 5 4 3 7 Z<|Q6 ?_;rcases ke e with⟨aB,e⟩|⟨aB,e⟩
 refine kg e λaH e=>kn e λaQ aC e=>?_;rcases ke e with⟨aD,e⟩|⟨aD,e⟩
 ·
  refine kg e λaR e=>kn e λaG aI e=>QK [0,1,2,3,4,5,6,7,8,9,10,11,12,13,14,15,16,17,18,19,20] Z Z λz=>cw z 0 Z<|iB (je aB)<|xF z 2 Z Uc<|xF z 3 Z Ub<|xD z 4 2 0 Z ll lg Z<|xF z 5 Z DE<|xD z 6 1 1 Z dh dx Z<|OT z 7 3 a3.toNat Z Z Z Zq Z Z Z Z Z (wZ aH) (lN aC) HS rZ λaZ aE=>?_;subst aE;refine nB z 8 NS 3 a3.toNat 0 Z Z Z Zq Z Z Z Z aC rZ X8 (v:=.bool aQ) Z Z λ_=>cw z 9 Z<|iB (je aD)<|xF z 11 Z Uc<|xF z 12 Z Yq<|xD z 13 2 1 Z we xb Z<|xF z 14 Z DE<|xD z 15 1 1 Z dh dx Z<|OT z 16 4 a3.toNat Z Z Z Zq Z Z Z Z Z (wZ aR) (lN aI) pL fc λb5 aS=>?_;subst aS;refine nB z 17 NV 4 a3.toNat 0 Z Z Z Zq Z Z Z Z aI fc iU (v:=.agg #[bc (aG.k),ao (aG.n),.string aG.s]) Z Z λ_=>xM z 18 0 0 (V3 ..) Z fc iU Z<|NF z 19 Z Z Z Zq Z Z Z Z (KF _ _ aG (⟨U,a8,a9⟩:V))<|xP z 20 Z<|xS z 21 Z<|wP Z<|Q2<|ie [] [] Z Z<|QE z Z<|Qw<|k1 6 Z<|Qm<|Qr<|Q5 ?_;cases(Zi e);refine ct [3,4] [] results296 Z ⟨Z,Z,Z⟩ Z
 ·
  refine QK [0,1,2,3,4,5,6,7,8,9,10,11,12,13,14,15,16,17,18,19,20] Z Z λz=>cw z 0 Z<|iB (je aB)<|xF z 2 Z Uc<|xF z 3 Z Ub<|xD z 4 2 0 Z ll lg Z<|xF z 5 Z DE<|xD z 6 1 1 Z dh dx Z<|OT z 7 3 a3.toNat Z Z Z Zq Z Z Z Z Z (wZ aH) (lN aC) HS rZ λaZ aE=>?_;subst aE;refine nB z 8 NS 3 a3.toNat 0 Z Z Z Zq Z Z Z Z aC rZ X8 (v:=.bool aQ) Z Z λ_=>cw z 9 Z<|iB (je aD)<|eu z 11 Z<|eu z 13 Z<|eu z 15 Z<|eu z 17 Z<|xO z 19 Z<|xP z 20 Z<|xS z 21 Z<|wP Z<|Q2<|ie [] [] Z Z<|QE z Z ?_;refine Qw<|k1 6 Z<|Qm<|Qr<|Q5 ?_;cases(Zi e);refine ct [3,4] [] results296 Z ⟨Z,Z,Z⟩ Z
 ·
  refine QK [0,1,2,3,4,5,6,7,8,9,10,11,12,13,14,15,16,17,18,19,20] Z Z λz=>cw z 0 Z<|iB (je aB)<|eu z 2 Z<|eu z 4 Z<|eu z 6 Z<|xO z 8 Z<|cw z 9 Z<|eu z 11 Z<|eu z 13 Z<|eu z 15 Z<|eu z 17 Z<|xO z 19 Z<|xP z 20 Z ?_;refine xS z 21 Z<|wP Z<|Q2<|ie [] [] Z Z<|QE z Z<|Qw<|k1 6 Z<|Qm<|Qr<|Q5 ?_;cases(Zi e);refine ct [3,4] [] results296 Z ⟨Z,Z,Z⟩ Z
 refine k5 21 5 4 3 7 Z<|sq<|ay Z<|mu 53 5 4 3 7 Z ?_;refine QO e Z (λe=>?_) λe=>?_;refine k4 5 4 3 7 Z<|Q6<|kn e λaT e ez=>?_;unfold Q3U at e;refine cut (σ:=(List Bool)×(List V)) aT (λ(h,a0)=>((h,a0),[(7,.bool a1)],[],[.own 4 1 Qg (.slice bu YN dm) h,.own 63 3 dw (.slice fh YO gu) a0])) ?_ ?_;refine sq<|wP Z<|nt ?_;refine QO e Z (λe=>?_) λe=>?_
 ·
  refine k4 5 4 3 7 Z<|kg e λaJ e=>kn e λb6 aA e=>kg e λaU e=>kn e λb7 aK e=>QK [0,1,3,4,5,6,8,9,10,11,13] Z Z λz=>xF z 0 Z Uc<|xF z 1 Z Ub<|xF z 3 Z DE<|xD z 4 1 1 Z dh dx Z<|xF z 5 Z Uc<|xF z 6 Z Yq<|xF z 8 Z DE<|xD z 9 1 1 Z dh dx Z ?_;refine xM z 10 0 0 (V3 ..) Z fc iU Z ?_;refine HJ z 2 7 Z Z Z Z Z Z ?_ ?_;rotate_left
  focus
   refine wD 2 1 Z we xb Z<|Q2<|ie [] [0,1,1] Z Z<|xS z 2 Z<|wD 2 0 Z ll lg Z<|Q2<|ie [] [0,1,1] Z Z<|OT z 11 3 a3.toNat Z Z Z Zq Z Z Z Z Z (wZ aJ) (lN aA) HS rZ λb1 aF=>?_;subst aF;refine xS z 12 Z<|ZZ (u:=true) 3 a3.toNat Z Z Z Z Z (lN aA) Z Z rZ Z (λF w bj=>⟨(),Z,QF⟩) (H':=V5 ..) Z<|Q2<|ie [] [0,1] Z Z ?_
  rotate_right
  focus
   refine wD 2 0 Z ll lg Z<|Q2<|ie [] [0,1,1] Z Z<|OT z 11 3 a3.toNat Z Z Z Zq Z Z Z Z Z (wZ aJ) (lN aA) HS rZ λb1 aF=>?_;subst aF;refine HJ z 7 12 Z Z Z Z Z Z ?_ ?_;rotate_left
   focus
    refine ZZ (u:=true) 3 a3.toNat Z Z Z Z Z (lN aA) Z Z rZ Z (λF w bj=>⟨(),Z,QF⟩) (H':=V5 ..) Z<|Q2<|ie [] [0,1] Z Z<|xS z 7 Z<|wD 2 1 Z we xb Z<|Q2<|ie [] [0,1,1] Z Z ?_
   rotate_right
   focus
    refine wD 2 1 Z we xb Z<|Q2<|ie [] [0,1,1] Z Z<|xS z 12 Z<|ZZ (u:=true) 3 a3.toNat Z Z Z Z Z (lN aA) Z Z rZ Z (λF w bj=>⟨(),Z,QF⟩) (H':=V5 ..) Z<|Q2<|ie [] [0,1] Z Z ?_
  all_goals
   refine OT z 13 4 a3.toNat Z Z Z Zq Z Z Z Z Z (wZ aU) (lN aK) pL fc λb8 aV=>?_;subst aV;refine xS z 14 Z<|ZZ (u:=(⟨U,a8,a9⟩:V)) 4 a3.toNat Z Z Z Z Z (lN aK) Z Z fc Z (λF w bj=>⟨(),Z,QF⟩) (H':=V5 ..) Z<|Q2<|ie [] [] Z Z<|QE z Z<|Qh [3,4] Z (H':=[_,_]) Z ?_;refine jM (l0.set a3.toNat true,(l1.set a3.toNat (⟨U,a8,a9⟩:V))) e [7] [] Z
 refine k1 7 Z<|QV<|Qh [3,4] Z (H':=[_,_]) Z ?_;refine jM (l0,l1) e [7] [] Z
 ·
  rintro⟨h,a0⟩ g;try dsimp only at g⊢
  have e:=ez;try rw[g]at e
  try dsimp only at e
  refine sq<|ay Z<|dz 6 Z<|Qm<|Qr<|Q5 ?_;cases(Zi e);refine ct [0,1] [] results296 Z ⟨Z,Z,Z⟩ Z
 ·
  refine k0 Z<|QV<|Q7<|Qw<|sq<|wP Z<|nr ?_;cases(Zi e);refine ct [3,4] [] results296 Z ⟨Z,Z,Z⟩ Z
theorem Y2 {N:Nat} {a0:Int} {a1:Int} {bu:OA} {bx:Nat} {l2:List gS} {a3:Int} {a4:Int} {a5:Int} {a6:ByteArray} {a7:Int} {a8:Int} {ej:OA} {ei:Nat} {l9:List Q4} {js:Int} {HW:Int} {gK:OA} {gu:Nat} {U:List V} {iu:OA} {ir:Nat} {vV:List Bool} {YP:OA} {YM:Nat} {Rc:List V} {o2:List Bool} {o6:List V} {o8:Bool} (e:NR N a0 a1 l2 a3 a4 a5 a6 a7 a8 l9 js HW U vV Rc=some (o2,o6,o8)):QD prog 233 [.agg #[bc a0,ao a1,aw bu l2 bx,bc a3,bc a4,ao a5,.string a6,ao a7,bc a8,aw ej l9 ei],.agg #[ao js,ao HW,aw gK U gu],.agg #[aw iu vV ir,aw YP Rc YM]] [.sli 5 jt bu bx l2,.sli 7 Qj ej ei l9,.sli 3 dw gK gu U,.sli 1 Qg iu ir vV,.sli 3 dw YP YM Rc] [] (λv p q=>∃o0 o1 o3 o4 o5 o7,R0 (.tuple #[.agg #[.slice o0 o3 o1,.slice o4 o7 o5],.bool o8]) [] [.own 4 1 Qg (.slice o0 o3 o1) o2,.own 63 3 dw (.slice o4 o7 o5) o6] v p q):=by
 unfold NR at e;refine Qp func233 Z ntmps233 Z (S:=V3 ..) Z λC=>sq<|wB Z λg3=>wB Z λg4=>wB Z λg5=>QP Z Z Z Zq Z Gh Z λg6=>wP Z<|ib 6 5 4 3 Z<|Q6<|kn e λaR e bw=>?_
 refine cut (σ:=Bool) aR (λaM=>(aM,[(6,bs g6),(5,bs g5),(4,bs g4),(3,bs g3),(8,.bool aM)],[.sli 1 Qg iu ir vV,.sli 3 dw YP YM Rc,.sli 3 dw gK gu U,.sli 5 jt bu bx l2,.sli 7 Qj ej ei l9],[.blk g6 [V1,V1] 130,.blk g5 [aw iu vV ir,aw YP Rc YM] 130,.blk g4 [ao js,ao HW,aw gK U gu] 40,.blk g3 [bc a0,ao a1,aw bu l2 bx,bc a3,bc a4,ao a5,.string a6,ao a7,bc a8,aw ej l9 ei] 69])) ?_ ?_;refine Qb<|wF Z lH<|wD 3 0 Z yx yu Z<|ay Z ?_;refine fo e (λe=>?_) λe=>?_;refine ew Z<|wO Z<|ay Z<|Q2 ?_;refine jM true e [6,5,4,3,8] [3,4,2,0,1] Z;refine wF Z lH<|wD 3 0 Z yx yu Z<|ay Z<|wP Z<|Q2 ?_;refine jM (a0==2) e [6,5,4,3,8] [3,4,2,0,1] Z;rintro aM g;try dsimp only at g⊢
 have e:=bw;try rw[g]at e
 refine Q6<|Q6<|kn e λaS e ez=>?_;unfold Q5Q at e;refine cut (σ:=Bool) aS (λaJ=>(aJ,[(6,bs g6),(5,bs g5),(4,bs g4),(3,bs g3),(42,.bool aJ)],[.sli 1 Qg iu ir vV,.sli 3 dw YP YM Rc,.sli 3 dw gK gu U,.sli 5 jt bu bx l2,.sli 7 Qj ej ei l9],[.blk g6 [V1,V1] 130,.blk g5 [aw iu vV ir,aw YP Rc YM] 130,.blk g4 [ao js,ao HW,aw gK U gu] 40,.blk g3 [bc a0,ao a1,aw bu l2 bx,bc a3,bc a4,ao a5,.string a6,ao a7,bc a8,aw ej l9 ei] 69])) ?_ ?_;refine Qb<|ay Z<|wP Z ?_;refine fo e (λe=>?_) λe=>?_;refine eh Z<|wO Z<|ay Z<|eh Z<|ew Z<|wO Z<|ay Z<|ew Z<|wO Z<|wP Z<|Q2 ?_;refine jM true e [6,5,4,3,42] [0,1,2,3,4] Z;refine wF Z td<|wD 3 1 Z dh dx Z<|wF Z pc<|wD 2 1 Z dh dx Z<|ay Z<|wP Z ?_;refine fo e (λe=>?_) λe=>?_;refine eh Z<|ew Z<|wO Z<|ay Z<|ew Z<|wO Z<|wP Z<|Q2 ?_;refine jM true e [6,5,4,3,42] [0,1,2,3,4] Z;refine wF Z P2<|wD 3 2 Z jO lh Z<|wN Z za<|wF Z O5<|wD 2 2 Z we xb Z<|wN Z pL<|wP Z<|Qn (S4 l2.length U.length)<|ay Z ?_;refine fo e (λe=>?_) λe=>?_;refine ew Z<|wO Z<|wP Z<|Q2 ?_;refine jM true e [6,5,4,3,42] [0,1,2,3,4] Z;refine wM 1 0 [_,_] Z pP Eg Z<|kn e λb6 aT e=>c0 [] [0,1,2,3] Z Vr aT QcC [0,1] (V4 ..) Z<|ay Z<|Q2 ?_;refine jM (!b6) e [6,5,4,3,42] [0,1,2,3,4] Z;rintro aJ g;try dsimp only at g⊢
 have e:=ez;try rw[g]at e
 refine QO e Z (λe=>?_) λe=>?_
 ·
  refine k1 6 Z<|sq<|mC Z Z Z Zq Z Gh qx Z (out:=[_,_]) Z<|wS 0 0 Z pP (all':=[_,_]) Z (H':=V4 ..) Z<|wP Z<|dp 7 6 Z<|Qm<|Q5 ?_;cases(Zi e);refine JX 4 1 Qg<|JX 63 3 dw ?_;refine vO (Hr:=[_,_]) [1,0] results233 (nD 2 Z Z pP Eg Z Z) (kd Z) ⟨none,0,0,none,0,0,Z,Z,Z⟩ (bh [] Z) Z Z (.inl Z)
 refine k4 6 5 4 3 Z<|kt<|sq<|wM 1 0 [_,_] Z pP Eg Z<|kn e λ_ aU e=>?_;try dsimp only at e
 refine c4 [] [0,1,2,3] Z Vs aU vA [0,1] (V4 ..) Z λaF aG aH aI=>QP Z Z Z Zq Z FU Z λg9=>wS 0 0 Z Ao (all':=[_,_]) Z (H':=V7 ..) Z<|ib 9 6 4 3 Z<|Q6<|ks e λaV e iC=>?_;refine cut (σ:=(List Bool)×(List V)×Nat×Nat) aV (λ(aC,aD,a2,a9)=>(.inl (aC,aD),[(9,bs g9),(6,bs g6)],[],[.blk g9 [.slice aF a2 aG,.slice aH a9 aI] 457,.own 4 1 Qg (.slice aF a2 aG) aC,.own 63 3 dw (.slice aH a9 aI) aD,.blk g6 [V1,V1] 130])) ?_ ?_;refine sq<|wF Z P2<|wD 6 2 Z jO lh Z<|wN Z za<|wP Z<|lT 49 48 47 9 6 4 Z<|Qi<|K2 [0,1,2,3,5] Z (H':=V5 ..) Z<|pM (σ:=Nat×(List Bool)×(List V)×Nat×Nat) (TO N l2 U) (λ(aE,h,s,aA,aB)=>((aE,h,s),[(49,ao (aE:Int)),(48,ao (l2.length:Int)),(47,aw bu l2 bx),(9,bs g9),(6,bs g6),(4,bs g4)],[.sli 5 jt bu bx l2,.sli 3 dw gK gu U],[.blk g9 [.slice aF aA aG,.slice aH aB aI] 457,.own 4 1 Qg (.slice aF aA aG) h,.own 63 3 dw (.slice aH aB aI) s,.blk g6 [V1,V1] 130,.blk g4 [ao js,ao HW,aw gK U gu] 40])) (0,vV,Rc,vV.length,Rc.length) e [49,48,47,9,6,4] [3,2] Z λs_ bC bD e cn=>?_;obtain⟨aE,h,s,aA,aB⟩:=s_;unfold TO at e;try dsimp only at e⊢
 refine sq<|wP Z<|Qn (jP aE l2.length)<|nt<|Q6 ?_;refine QO e Z (λe=>?_) λe=>?_;refine k6 49 48 47 9 6 4 Z<|kt<|Q6<|Qi<|sq<|wP Z<|kn e λbF aW e=>wI 0 aE Z aW za wg λbG bH bA b7=>jV ZO 1 Z λbI aX _=>?_;subst aX;refine jZ 0 0 (V5 ..) Z wg rB Z<|QP Z Z Z Zq Z rF Z λbK=>wP Z<|wS 0 0 Z wg (all':=V5 ..) Z (H':=V6 ..) Z<|Tj 10 11 49 48 47 9 6 4 Z<|Q6<|kn e λbL aY e=>?_;obtain⟨⟨b8,aO,aP⟩,aZ,e⟩:=Qz e;try dsimp only at e
 refine QK [0,1,2,3,4,5,6,8] Z Z λz=>xM z 0 1 0 [_,_] Z Ao MZ Z<|xM z 1 0 0 (V5 ..) Z wg rB Z<|xF z 2 Z O5<|xD z 3 5 2 Z we xb Z<|xP z 4 Z<|xI z 5 3 aE Z aY pL fc λbM bN bB b9=>K0 NV 1 Z λbO b1 _=>?_;subst b1;refine xL z 6 0 0 (V3 ..) Z fc iU Z<|xS z 7 Z<|rM 2 Z λaK _=>?_;subst aK;refine rM 3 Z λaL _=>?_;subst aL;refine c0 [2,3] [0,1,4,5] Z Vt aZ Qb7 [] (V4 ..) Z<|Q2<|cv 0 [5] Z<|xP z 8 Z<|QE z Z<|Qw<|k7 62 49 48 47 9 6 4 Z ?_;refine QO e Z (λe=>?_) λe=>?_
 ·
  refine k1 6 Z<|sq<|mC Z Z Z Zq Z Gh qx Z (out:=[_,_]) Z<|wS 4 0 Z pP (all':=[_,_]) Z (H':=V6 ..) Z<|wP Z<|dp 7 6 Z<|Qm<|Qr<|Q5<|rb<|Q5 ?_;cases(Qx iC (Qx cn ((Zi e).symm))).symm;refine JX 4 1 Qg<|JX 63 3 dw ?_;refine vO (Hr:=[_,_]) [1,0] results233 (nD 6 Z Z pP Eg Z Z) (kd Z) ⟨none,0,0,none,0,0,Z,Z,Z⟩ (bh [] Z) Z Z (.inl Z)
 refine k6 49 48 47 9 6 4 Z<|QV<|Q7<|Qw<|Qb<|wP Z<|kg e λb2 e=>Qn (jz (a:=aE) (b:=1) b2)<|Qq (S':=V6 ..) Z Z Z Z Z<|Q2<|Qh [3,0,1,4,5] Z (H':=V5 ..) Z ?_;refine pN (aE+1,aO,aP,h.length,s.length) (QR cn (zs e)) [49,48,47,9,6,4] [4,5] Z;refine k2 9 6 Z<|iT<|Q8<|Q8<|Qt<|Qh [0,1,2,3] Z (H':=V4 ..) Z ?_;refine jn (h,s,aA,aB) (Qx cn (zs e)) [9,6] [] Z
 ·
  rintro⟨aC,aD,a2,a9⟩ g;try dsimp only at g⊢
  have e:=QR iC g;try dsimp only at e
  refine sq<|wF Z Uc<|wM 0 0 [_,_] Z pP Eg Z<|wS 3 0 Z pP (all':=[_,_]) Z (H':=V4 ..) Z<|wP Z<|dp 7 6 Z<|Qm ?_;cases(Zi e);refine vO (Hr:=[_,_]) [1,2] results233 (nD 3 Z Z pP Eg Z Z) (kd Z) ⟨aF,aG,a2,aH,aI,a9,Z,Z,Z⟩ (bh [] Z) Z Z (.inl Z)
end
section
open Tryz
open Go.RowKit
set_option maxRecDepth 100000
set_option maxHeartbeats 4000000
variable {N bx:Nat}{o0 a0:Int}{bu:OA}
def Q6d (rc:(List Q4)->Int->Option (Int)):Prop:=∀(bu:OA)(bx:Nat)(U:List Q4)(a1:Int)(o0:Int),rc U a1=some o0->QD prog 33 [aw bu U bx,ao a1] [.sli 7 Qj bu bx U] [] (R0 (ao o0) [] [])
theorem Qaf (N:Nat)(rc:(List Q4)->Int->Option (Int))(ih:Q6d rc):Q6d (TI N rc):=by
 intro bu bx l0 U o0 e;unfold TI at e;refine Qp func33 Z ntmps33 Z (S:=[_,_]) Z λC=>sq<|wP Z<|dp 0 1 Z<|sq<|wP Z<|nt<|Q6<|kn e λa2 e bw=>?_
 refine cut (σ:=Int) a2 (λa0=>(a0,[(1,ao U),(5,ao a0)],[],[])) ?_ ?_;refine sq<|wP Z<|nt<|Qi<|pM (σ:=Nat×Int) (S7 N l0 U rc) (λ(h,s)=>((h,s),[(6,ao (h:Int)),(5,ao s),(0,aw bu l0 bx),(1,ao U)],[.sli 7 Qj bu bx l0],[])) (0,0) e [6,5,0,1] [0] Z λs_ aJ aK e cn=>?_;obtain⟨h,s⟩:=s_;unfold S7 at e;try dsimp only at e⊢
 refine Q6<|Q6<|kn e λa3 e ez=>?_;refine cut (σ:=Bool) a3 (λz=>(z,[(6,ao (h:Int)),(5,ao s),(0,aw bu l0 bx),(1,ao U),(15,.bool z)],[.sli 7 Qj bu bx l0],[])) ?_ ?_;refine Qb<|ay Z<|wN Z nH<|wP Z<|Qn (jP h l0.length)<|wP Z ?_;refine fo e (λe=>?_) λe=>?_;refine ay Z<|ay Z<|Q2 ?_;refine jM (decide (s<=U)) e [6,5,0,1,15] [0] Z;refine ew Z<|wO Z<|wP Z<|Q2 ?_;refine jM false e [6,5,0,1,15] [0] Z;rintro z g;try dsimp only at g⊢
 have e:=ez;try rw[g]at e
 refine QO e Z (λe=>?_) λe=>?_;refine k4 6 5 0 1 Z<|kt<|Q6<|Qi<|Qb<|ay Z<|kg e λa4 e=>Qn (i64_in a4)<|ay Z<|kn e λaF a5 e=>wI 0 h Z a5 nH kD λaL aM aI aG=>jV S8 1 Z λa6 a7 _=>?_;subst a7;refine wF Z HL<|jZ 1 6 [_] Z qZ rS Z<|ay Z<|wP Z<|kg e λa8 e=>Qn (i64_in a8)<|wP Z<|kg e λa9 e=>Qn (i64_in a9)<|kn e λaH aA e=>?_;have aB:=ih a6.1 a6.2 aF.kids ((U-s)-1) _ aA;refine wC [] [] Z KX Z (aB) (bh [0] Z) Z (H':=[]) Z ?_;rintro _ _ _ ⟨rfl,rfl,rfl⟩;refine wP Z<|kg e λaC e=>Qn (i64_in aC)<|Qq (S':=V16 ..) Z Z Z Z Z<|Q2<|Q7<|Qw<|k4 5 6 0 1 Z<|Qb<|ay Z<|kg e λaD e=>Qn (jz (a:=h) (b:=1) aD)<|Qq (S':=V5 ..) Z Z Z Z Z<|Q2 ?_;refine pN (h+1,(s+1)+aH) (QR cn (zs e)) [6,5,0,1] [3] Z;refine k2 5 1 Z<|iT<|Q8<|Q8<|Qt ?_;refine jn s (Qx cn (zs e)) [1,5] [] Z;rintro a0 g;try dsimp only at g⊢
 have e:=bw;try rw[g]at e
 refine sq<|ay Z<|wP Z<|kg e λaE e=>Qn (i64_in aE)<|HM Z Z Z Zq (WY Z Z Z)<|wP Z<|dz 4 Z<|Qm ?_;obtain rfl:=Zi e;refine ct [] [] results33 Z ⟨Z,Z,Z⟩ Z
theorem Q7S:∀(N:Nat),Q6d (JS N):=by
 intro N;induction N with
 |zero=>intro bu bx l0 a1 o0 e;cases e
 |succ N U=>exact Qaf N (JS N) U
theorem Qbb {N:Nat} {bu:OA} {bx:Nat} {l0:List Qa} {ej:OA} {ei:Nat} {l1:List Q9} {o0:Bool} (e:Zf N l0 l1=some o0):QD prog 10 [.agg #[aw bu l0 bx,aw ej l1 ei]] [.sli 2 Qd bu bx l0,.sli 5 Qe ej ei l1,tF] [] (R0 (.bool o0) [] []):=by
 unfold Zf at e;refine Qp func10 Z ntmps10 Z (S:=[_]) Z λC=>sq<|wB Z λg1=>wP Z<|dz 1 Z<|sq<|wF Z Up<|wD 0 0 Z pj oV Z<|wN Z jL<|wF Z Uq<|wD 0 1 Z vu vl Z<|wN Z mz<|wP Z<|kg e λaI e=>?_
 refine Qn (jz (a:=l0.length) (b:=l1.length) aI)<|wP Z<|dp 3 1 Z<|Q6<|kn e λaJ e bw=>?_;refine cut (σ:=Int) aJ (λaF=>(aF,[(3,ao aF)],[tF],[])) ?_ ?_;refine sq<|wP Z<|nt<|Qi<|pM (σ:=Nat×Int) (XN N l1) (λ(a2,a5)=>((a2,a5),[(4,ao (a2:Int)),(3,ao a5),(1,bs g1)],[.sli 2 Qd bu bx l0,.sli 5 Qe ej ei l1,tF],[.blk g1 [aw bu l0 bx,aw ej l1 ei] 25])) (0,((l0.length+l1.length:Nat):Int)) e [4,3,1] [0,1,2] Z λs_ bO bP e cn=>?_;obtain⟨a2,a5⟩:=s_;unfold XN at e;try dsimp only at e⊢
 refine Q6<|Q6<|kn e λaK e ez=>?_;refine cut (σ:=Bool) aK (λa8=>(a8,[(4,ao (a2:Int)),(3,ao a5),(1,bs g1),(23,.bool a8)],[.sli 2 Qd bu bx l0,.sli 5 Qe ej ei l1,tF],[.blk g1 [aw bu l0 bx,aw ej l1 ei] 25])) ?_ ?_;refine Qb<|wP Z<|wF Z Uq<|wD 0 1 Z vu vl Z<|wN Z mz<|wP Z<|Qn (jP a2 l1.length)<|wP Z ?_;refine fo e (λe=>?_) λe=>?_;refine ay Z<|wP Z<|Q2 ?_;refine jM (decide (a5<300)) e [4,3,1,23] [0,1,2] Z;refine ew Z<|wP Z<|Q2 ?_;refine jM false e [4,3,1,23] [0,1,2] Z;rintro a8 g;try dsimp only at g⊢
 have e:=ez;try rw[g]at e
 refine QO e Z (λe=>?_) λe=>?_;refine k3 4 3 1 Z<|kt<|Q6<|kn e λaL e iC=>?_;unfold Q5o at e;refine cut (σ:=Int) aL (λa9=>(a9,[(4,ao (a2:Int)),(3,ao a9),(1,bs g1)],[.sli 2 Qd bu bx l0,.sli 5 Qe ej ei l1,tF],[.blk g1 [aw bu l0 bx,aw ej l1 ei] 25])) ?_ ?_;refine Qi<|sq<|wF Z Uq<|wD 0 1 Z vu vl Z<|wP Z<|kn e λa0 aM e=>wI 1 a2 Z aM mz kA λbQ bR bK b9=>jV Q6l 1 Z λU aN _=>?_;subst aN;refine jZ 2 0 (V5 ..) Z kA CU Z<|QP Z Z Z Zq Z Np Z λg5=>wS 0 0 Z kA (all':=V5 ..) Z (H':=[_,_]) Z<|ib 5 4 3 1 Z<|sq<|wP Z<|wF Z Ui<|wD 0 3 Z vw vn Z<|wN Z oX<|wP Z<|kg e λaO e=>Qn (i64_in aO)<|wF Z pd<|wD 0 4 Z D7 CT Z ?_;refine wN Z yw<|wP Z<|kg e λaP e=>Qn (i64_in aP)<|Qq (S':=V12 ..) Z Z Z Z Z<|ib 3 5 4 1 Z<|Q6<|kn e λaQ e kp=>?_;refine cut (σ:=Int) aQ (λaA=>(aA,[(3,ao aA),(5,bs g5),(4,ao (a2:Int)),(1,bs g1)],[.sli 10 yU U.1.1 U.1.2 a0.conds,.sli 4 vL U.2.1 U.2.2 a0.acts,.sli 2 Qd bu bx l0,.sli 5 Qe ej ei l1,tF],[.blk g5 [.string a0.name,ao (a0.salience),ao (a0.vars),aw U.1.1 a0.conds U.1.2,aw U.2.1 a0.acts U.2.2] 73,.blk g1 [aw bu l0 bx,aw ej l1 ei] 25])) ?_ ?_;refine sq<|wP Z<|nt<|Qi<|pM (σ:=Nat×Int) (XO N a0) (λ(a3,a6)=>((a3,a6),[(6,ao (a3:Int)),(3,ao a6),(5,bs g5),(4,ao (a2:Int)),(1,bs g1)],[.sli 10 yU U.1.1 U.1.2 a0.conds,.sli 4 vL U.2.1 U.2.2 a0.acts,.sli 2 Qd bu bx l0,.sli 5 Qe ej ei l1,tF],[.blk g5 [.string a0.name,ao (a0.salience),ao (a0.vars),aw U.1.1 a0.conds U.1.2,aw U.2.1 a0.acts U.2.2] 73,.blk g1 [aw bu l0 bx,aw ej l1 ei] 25])) (0,((a5+(a0.conds.length:Int))+(a0.acts.length:Int))) e [6,3,5,4,1] [0,1,4,5,6] Z λs_ bS bT e oh=>?_;obtain⟨a3,a6⟩:=s_;unfold XO at e;try dsimp only at e⊢
 refine Q6<|Q6<|kn e λaR e og=>?_;refine cut (σ:=Bool) aR (λaB=>(aB,[(6,ao (a3:Int)),(3,ao a6),(5,bs g5),(4,ao (a2:Int)),(1,bs g1),(48,.bool aB)],[.sli 10 yU U.1.1 U.1.2 a0.conds,.sli 4 vL U.2.1 U.2.2 a0.acts,.sli 2 Qd bu bx l0,.sli 5 Qe ej ei l1,tF],[.blk g5 [.string a0.name,ao (a0.salience),ao (a0.vars),aw U.1.1 a0.conds U.1.2,aw U.2.1 a0.acts U.2.2] 73,.blk g1 [aw bu l0 bx,aw ej l1 ei] 25])) ?_ ?_;refine Qb<|wP Z<|wF Z Ui<|wD 0 3 Z vw vn Z<|wN Z oX<|wP Z<|Qn (jP a3 a0.conds.length)<|wP Z ?_;refine fo e (λe=>?_) λe=>?_;refine ay Z<|wP Z<|Q2 ?_;refine jM (decide (a6<300)) e [6,3,5,4,1,48] [0,1,2,3,4] Z;refine ew Z<|wP Z<|Q2 ?_;refine jM false e [6,3,5,4,1,48] [0,1,2,3,4] Z;rintro aB g;try dsimp only at g⊢
 have e:=og;try rw[g]at e
 refine QO e Z (λe=>?_) λe=>?_;refine k5 6 3 5 4 1 Z<|kt<|Q6<|Qi<|kn e λbA aS e=>kg e λaT e=>kn e λaC aU e=>kn e λbB aV e=>kg e λaW e=>QK [0,1,2,3,4,5,6,7,8,9,10,11,12,13,14,17] Z Z λz=>xP z 0 Z<|xF z 1 Z Ui<|xD z 2 0 3 Z vw vn Z<|xP z 3 Z ?_;refine xI z 4 0 a3 Z aS oX AL λbU bV bL bC=>K0 Q6k 1 Z λbW aX _=>?_;subst aX;refine xF z 5 Z P2<|xL z 6 2 2 [_] Z jO lh Z<|xN z 7 Z za<|xP z 8 Z<|iB (i64_in aT)<|xF z 9 Z Ui<|xD z 10 0 3 Z vw vn Z<|xP z 11 Z<|xI z 12 4 a3 Z aU oX AL λbX bY bM bD=>K0 Q6k 1 Z λaH aY _=>?_;subst aY;refine xF z 13 Z Uh<|xL z 14 2 3 (V7 ..) Z kD wc Z<|xS z 15 Z<|tz Z Z Z Zq Z nH kD Hp Z (zs:=[bc 0,bc 0,ao 0,.string EB,ao 0,bc 0,V1]) aq Z (out:=V7 ..) Z λbF=>Q2<|cv 0 [1,1] Z<|xS z 16 Z<|K9 (sz:=7) (m:=1) Qj [aC.test] 0 Z (λF w bj=>⟨[bc (aC.test.kind),bc (aC.test.value.k),ao (aC.test.value.n),.string aC.test.value.s,ao (aC.test.var),bc (aC.test.op),aw aH.2.1 aC.test.kids aH.2.2],[],Z,Z,(oO (aH.2.1,aH.2.2) Z (jm (bj _ (iZ (k:=1) Z)) QF)),Z⟩) Z bf (H':=V3 ..) Z<|pH [] [0,1,2] [0] Z Z Z Zq Z Z KX Z (Q7S N (some ⟨bF,0,none⟩) 1 [aC.test] 300 _ aV) (λF w bj hh=>(jm (vN (hh _ (iZ (k:=0) Z))) QF)) (λ_ _ _ hR=>by obtain⟨rfl,rfl,rfl⟩:=hR;exact⟨Z,(λ_ h=>Qcj h)⟩) Z Z (H':=V3 ..) Z ?_;rintro _ _ _ ⟨rfl,rfl,rfl⟩;refine Q2<|cv 0 [1,1] Z<|xP z 17 Z<|iB (i64_in aW)<|xS z 18 Z<|Qq (S':=V22 ..) Z Z Z Z Z<|Q2<|cv 0 [] Z<|QE z Z<|Q7<|Qw<|k5 3 6 5 4 1 Z<|Qb<|ay Z ?_;refine kg e λaZ e=>Qn (jz (a:=a3) (b:=1) aZ)<|Qq (S':=V6 ..) Z Z Z Z Z<|Q2<|Qh [1,2] Z (H':=[_,_]) Z ?_;refine pN (a3+1,((a6+(bA.args.length:Int))+bB)) (QR oh (zs e)) [6,3,5,4,1] [8,9,10,11,12] Z;refine k4 3 5 4 1 Z<|iT<|Q8<|Q8<|Qt ?_;refine jn a6 (Qx oh (zs e)) [3,5,4,1] [0,1,2,3,4] Z;rintro aA g;try dsimp only at g⊢
 have e:=kp;try rw[g]at e
 refine sq<|wP Z<|nt<|Qi<|pM (σ:=Nat×Int) (XP N a0) (λ(a4,a7)=>((a4,a7),[(7,ao (a4:Int)),(3,ao a7),(5,bs g5),(4,ao (a2:Int)),(1,bs g1)],[.sli 10 yU U.1.1 U.1.2 a0.conds,.sli 4 vL U.2.1 U.2.2 a0.acts,.sli 2 Qd bu bx l0,.sli 5 Qe ej ei l1,tF],[.blk g5 [.string a0.name,ao (a0.salience),ao (a0.vars),aw U.1.1 a0.conds U.1.2,aw U.2.1 a0.acts U.2.2] 73,.blk g1 [aw bu l0 bx,aw ej l1 ei] 25])) (0,aA) e [7,3,5,4,1] [0,1,2,3,4] Z λs_ bZ c2 e Lp=>?_;obtain⟨a4,a7⟩:=s_;unfold XP at e;try dsimp only at e⊢
 refine Q6<|Q6<|kn e λb1 e GG=>?_;refine cut (σ:=Bool) b1 (λaD=>(aD,[(7,ao (a4:Int)),(3,ao a7),(5,bs g5),(4,ao (a2:Int)),(1,bs g1),(77,.bool aD)],[.sli 10 yU U.1.1 U.1.2 a0.conds,.sli 4 vL U.2.1 U.2.2 a0.acts,.sli 2 Qd bu bx l0,.sli 5 Qe ej ei l1,tF],[.blk g5 [.string a0.name,ao (a0.salience),ao (a0.vars),aw U.1.1 a0.conds U.1.2,aw U.2.1 a0.acts U.2.2] 73,.blk g1 [aw bu l0 bx,aw ej l1 ei] 25])) ?_ ?_;refine Qb<|wP Z<|wF Z pd<|wD 0 4 Z D7 CT Z<|wN Z yw<|wP Z<|Qn (jP a4 a0.acts.length)<|wP Z ?_;refine fo e (λe=>?_) λe=>?_;refine ay Z<|wP Z<|Q2 ?_;refine jM (decide (a7<300)) e [7,3,5,4,1,77] [0,1,2,3,4] Z;refine ew Z<|wP Z<|Q2 ?_;refine jM false e [7,3,5,4,1,77] [0,1,2,3,4] Z;rintro aD g;try dsimp only at g⊢
 have e:=GG;try rw[g]at e
 refine QO e Z (λe=>?_) λe=>?_;refine k5 7 3 5 4 1 Z<|kt<|Q6<|Qi<|Qb<|wP Z<|wF Z pd<|wD 0 4 Z D7 CT Z<|wP Z<|kn e λbG b2 e=>wI 1 a4 Z b2 yw Al λc3 c5 bN bH=>jV QaP 1 Z λb3 b4 _=>?_;subst b4;refine wF Z OU<|jZ 1 3 [_] Z qZ rS Z<|kn e λbI b5 e=>wC [] [0,1] Z KX Z (Q7S N b3.1 b3.2 bG.exprs 300 _ b5) (bh [0] Z) Z (H':=[_,_]) Z ?_;rintro _ _ _ ⟨rfl,rfl,rfl⟩;refine wP Z<|kg e λb6 e=>Qn (i64_in b6)<|Qq (S':=Us ..) Z Z Z Z Z<|Q2<|Q7<|Qw<|k5 3 7 5 4 1 Z<|Qb<|ay Z<|kg e λb7 e=>Qn (jz (a:=a4) (b:=1) b7)<|Qq (S':=V6 ..) Z Z Z Z Z<|Q2 ?_;refine pN (a4+1,a7+bI) (QR Lp (zs e)) [7,3,5,4,1] [3,4,5,6,7] Z;refine k3 3 4 1 Z<|iT<|Q8<|Q8<|Qt<|Q7<|Qh [1] Z (H':=[_]) Z ?_;refine jn a7 (Qx Lp (zs e)) [4,3,1] [2,3,4] Z;rintro a9 g;try dsimp only at g⊢
 have e:=iC;try rw[g]at e
 refine Qb<|ay Z<|kg e λb8 e=>Qn (jz (a:=a2) (b:=1) b8)<|Qq (S':=V4 ..) Z Z Z Z Z<|Q2 ?_;refine pN (a2+1,a9) (QR cn (zs e)) [4,3,1] [0,1,2] Z;refine k1 3 Z<|iT<|Q8<|Q8<|Qt<|Qh [] Z (H':=[]) Z ?_;refine jn a5 (Qx cn (zs e)) [3] [2] Z;rintro aF g;try dsimp only at g⊢
 have e:=bw;try rw[g]at e
 refine sq<|ay Z<|wP Z<|dz 2 Z<|Qm ?_;obtain rfl:=Zi e;refine ct [] [] results10 Z ⟨Z,Z,Z⟩ Z
theorem Q7T {N:Nat} {bu:OA} {bx:Nat} {U:List QS} {o0:Bool} (e:TL N U=some o0):QD prog 11 [aw bu U bx] [.sli 4 Oz bu bx U,tF] [] (R0 (.bool o0) [] []):=by
 unfold TL at e;refine Qp func11 Z ntmps11 Z (S:=[_]) Z λC=>sq<|wP Z<|dz 0 Z<|Q6<|ks e λa0 e bw=>?_
 refine cut (σ:=Unit) a0 (λ_=>(.inl (),[(0,aw bu U bx)],[.sli 4 Oz bu bx U,tF],[])) ?_ ?_;refine sq<|wP Z<|nt<|Qi<|pM (σ:=Nat) (XQ N U) (λh=>(h,[(3,ao (h:Int)),(0,aw bu U bx)],[.sli 4 Oz bu bx U,tF],[])) 0 e [3,0] [0,1] Z λh aN aO e cn=>?_;unfold XQ at e;try dsimp only at e⊢
 refine Q6<|sq<|ay Z<|wN Z vp<|wP Z<|Qn (jP h U.length)<|gR 8 3 0 Z ?_;refine QO e Z (λe=>?_) λe=>?_;refine k2 3 0 Z<|kt<|Q6<|ks e λa1 e ez=>?_;refine cut (σ:=Unit) a1 (λ_=>(.inl (),[(3,ao (h:Int)),(0,aw bu U bx)],[.sli 4 Oz bu bx U,tF],[])) ?_ ?_;refine Qi<|Q6<|sq<|ay Z<|kn e λaC a2 e=>wI 0 h Z a2 vp D6 λaP aQ aJ aD=>jV Q4s 1 Z λaR a3 _=>?_;subst a3;refine wF Z Ag<|wF Z O5<|jZ 1 3 [_] Z we xb Z<|wN Z pL<|wP Z<|Qn (Oy aC.fact.args.length 20)<|gR 18 3 0 Z ?_;refine QO e Z (λe=>?_) λe=>?_;refine k0 Z<|sq<|wP Z<|nr<|rb<|Q5<|rb<|Q5 ?_;obtain rfl:=(Qx bw (Qx cn (Qx ez (zs e)))).symm;refine ct [] [] results11 Z ⟨Z,Z,Z⟩ Z;refine k2 3 0 Z<|kt<|sq<|wP Z<|nt<|Qi<|pM (σ:=Nat) (XR N U h) (λz=>(z,[(4,ao (z:Int)),(3,ao (h:Int)),(0,aw bu U bx)],[.sli 4 Oz bu bx U,tF],[])) 0 e [4,3,0] [3,4] Z λz aS aT e oh=>?_;unfold XR at e;try dsimp only at e⊢
 refine Q6<|sq<|ay Z<|wP Z<|kn e λaE a4 e=>wI 0 h Z a4 vp D6 λaU aV aK aF=>jV Q4s 1 Z λaW a5 _=>?_;subst a5;refine wF Z Ag<|wF Z O5<|jZ 1 3 [_] Z we xb Z<|wN Z pL<|wP Z<|Qn (jP z aE.fact.args.length)<|ib 27 4 3 0 Z ?_;refine QO e Z (λe=>?_) λe=>?_;refine k3 4 3 0 Z<|kt<|Q6<|Qi<|sq<|ay Z<|kn e λaX a6 e=>wI 3 h Z a6 vp D6 λaY aZ aL aG=>jV Q4s 1 Z λb1 a7 _=>?_;subst a7;refine wF Z Ag<|wF Z O5<|jZ 1 3 [_] Z we xb Z<|wP Z<|kn e λaH a8 e=>wI 0 z Z a8 pL fc λb2 b3 aM aI=>jV NV 1 Z λb4 a9 _=>?_;subst a9;refine wF Z tc<|jZ 0 2 [_] Z lV lU Z<|HM Z Z Z Zq (yl Z Z kH)<|wP Z<|Qn (Oy aH.s.size 100)<|ib 41 4 3 0 Z ?_;refine QO e Z (λe=>?_) λe=>?_;refine k0 Z<|sq<|wP Z<|nr<|Qr<|Q5<|rb<|Qr<|Q5<|rb<|Q5 ?_;obtain rfl:=(Qx bw (Qx cn (Qx ez (Qx oh (zs e))))).symm;refine ct [] [] results11 Z ⟨Z,Z,Z⟩ Z;refine k3 4 3 0 Z<|QV<|Q7<|Qw<|Qb<|ay Z<|kg e λaA e=>Qn (jz (a:=z) (b:=1) aA)<|Qq (S':=V4 ..) Z Z Z Z Z<|Q2 ?_;refine pN (z+1) (QR oh (zs e)) [4,3,0] [8,9] Z;refine k2 3 0 Z<|iT<|Q8<|Q8<|Qt<|Q7 ?_;refine jn () (Qx oh (zs e)) [3,0] [3,4] Z;rintro _ g;try dsimp only at g⊢
 have e:=QR ez g;try dsimp only at e
 refine Qb<|ay Z<|kg e λaB e=>Qn (jz (a:=h) (b:=1) aB)<|Qq (S':=V3 ..) Z Z Z Z Z<|Q2 ?_;refine pN (h+1) (QR cn (zs e)) [3,0] [0,1] Z;refine k1 0 Z<|iT<|Q8<|Q8<|Qt ?_;refine jn () (Qx cn (zs e)) [0] [0,1] Z;rintro _ g;try dsimp only at g⊢
 have e:=QR bw g;try dsimp only at e
 refine sq<|wP Z<|wN Z vp<|wP Z<|Qn (Nle U.length 40)<|wP Z<|dz 2 Z<|Qm ?_;obtain rfl:=Zi e;refine ct [] [] results11 Z ⟨Z,Z,Z⟩ Z
theorem Qax (e:ZF N a0=some ()):QD prog 192 [ao a0] [] [] (R0 (.bool (a0 !=a0)) [] []):=by
 unfold ZF at e;refine Qp func192 Z ntmps192 Z (S:=[_]) Z λC=>sq<|wP Z<|dz 0 Z<|sq<|ay Z<|ay Z<|dz 2 Z<|Qm ?_
 have g:=(Zi e).symm;refine ct [] [] results192 Z ⟨Z,Z,Z⟩ Z
theorem QcU {a1:Int} (e:ZA N a0 a1=some o0):QD prog 109 [ao a0,ao a1] [] [] (R0 (ao o0) [] []):=by
 unfold ZA at e;refine Qp func109 Z ntmps109 Z (S:=[_,_]) Z λC=>sq<|wP Z<|dp 0 1 Z<|sq<|wP Z<|kn e λ_ U e=>?_
 try dsimp only at e
 refine c0 [] [] Z KR U Qax [] [] Z<|wP Z<|gR 5 0 1 Z<|sq<|wP Z<|kn e λ_ W1 e=>?_;try dsimp only at e
 refine c0 [] [] Z KR W1 Qax [] [] Z<|wP Z<|ib 6 5 0 1 Z<|Q6<|sq<|wP Z<|ib 11 6 0 1 Z ?_;refine QO e Z (λe=>?_) λe=>?_;refine k1 6 Z<|Q6<|sq<|wP Z<|dz 12 Z ?_;refine QO e Z (λe=>?_) λe=>?_;refine k0 Z<|sq<|wP Z<|nr<|Q5<|Q5 ?_;obtain rfl:=Zi e;refine ct [] [] results109 Z ⟨Z,Z,Z⟩ Z;refine k0 Z<|kt<|sq<|wP Z<|nr<|Q5 ?_;obtain rfl:=Zi e;refine ct [] [] results109 Z ⟨Z,Z,Z⟩ Z;refine k3 6 0 1 Z<|kt<|Q6<|sq<|wP Z<|gR 13 0 1 Z ?_;refine QO e Z (λe=>?_) λe=>?_;refine k0 Z<|sq<|wP Z<|nr<|Q5 ?_;obtain rfl:=Zi e;refine ct [] [] results109 Z ⟨Z,Z,Z⟩ Z;refine k2 0 1 Z<|kt<|Q6<|sq<|ay Z<|wP Z<|gR 16 0 1 Z ?_;refine QO e Z (λe=>?_) λe=>?_;refine k0 Z<|sq<|wP Z<|nr<|Q5 ?_;obtain rfl:=Zi e;refine ct [] [] results109 Z ⟨Z,Z,Z⟩ Z;refine k2 0 1 Z<|kt<|Q6<|sq<|ay Z<|wP Z<|dz 19 Z ?_;refine QO e Z (λe=>?_) λe=>?_;refine k0 Z<|sq<|wP Z<|nr<|Q5 ?_;obtain rfl:=Zi e;refine ct [] [] results109 Z ⟨Z,Z,Z⟩ Z;refine k0 Z<|kt<|sq<|wP Z<|nr ?_;obtain rfl:=Zi e;refine ct [] [] results109 Z ⟨Z,Z,Z⟩ Z
theorem QbR {ei:Nat} {ej:OA} {U l1:List Int} (e:Q5i N U l1=some o0):QD prog 68 [aw bu U bx,aw ej l1 ei] [.sli 1 jv bu bx U,.sli 1 jv ej ei l1] [] (R0 (ao o0) [] []):=by
 unfold Q5i at e;refine Qp func68 Z ntmps68 Z (S:=[_,_]) Z λC=>sq<|wP Z<|dp 0 1 Z<|Q6<|ks e λs e bw=>?_
 refine cut (σ:=Unit) s (λ_=>(.inl (),[(0,aw bu U bx),(1,aw ej l1 ei)],[.sli 1 jv bu bx U,.sli 1 jv ej ei l1],[])) ?_ ?_;refine sq<|wP Z<|wN Z zb<|wP Z<|nt<|Qi<|pM (σ:=Nat) (S6 N U l1) (λh=>(h,[(11,ao (h:Int)),(10,ao (U.length:Int)),(9,aw bu U bx),(0,aw bu U bx),(1,aw ej l1 ei)],[.sli 1 jv bu bx U,.sli 1 jv ej ei l1],[])) 0 e [11,10,9,0,1] [0,1] Z λh a9 aA e cn=>?_;unfold S6 at e;try dsimp only at e⊢
 refine sq<|wP Z<|Qn (jP h U.length)<|nt<|Q6 ?_;refine QO e Z (λe=>?_) λe=>?_;refine k5 11 10 9 0 1 Z<|kt<|Q6<|Qi<|sq<|wP Z<|kn e λaB z e=>wI 0 h Z z zb dh λaC aD a7 a5=>jV Ya 1 Z λaE a0 _=>?_;subst a0;refine jZ 0 0 [_] Z dh dx Z<|ay Z<|JF 6 5 11 10 9 0 1 Z<|Q6<|sq<|ay Z<|wN Z zb<|wP Z<|Qn (Nge h l1.length)<|Tj 19 6 5 11 10 9 0 1 Z ?_;refine QO e Z (λe=>?_) λe=>?_;refine k0 Z<|sq<|wP Z<|nr<|rb<|Q5<|rb<|Q5 ?_;obtain rfl:=(Qx bw (Qx cn (zs e))).symm;refine ct [] [] results68 Z ⟨Z,Z,Z⟩ Z;refine k7 6 5 11 10 9 0 1 Z<|kt<|sq<|ay Z<|kn e λaF a1 e=>wI 3 h Z a1 zb dh λaG aH a8 a6=>jV Ya 1 Z λaI a2 _=>?_;subst a2;refine jZ 0 0 [_] Z dh dx Z<|wP Z<|JF 7 6 11 10 9 0 1 Z<|sq<|ay Z<|kn e λaJ a3 e=>c0 [] [] Z UZ a3 QcU [] [] Z<|wP Z<|lT 8 11 10 9 0 1 Z<|sq<|ay Z<|JF 28 8 11 10 9 0 1 Z ?_;refine QO e Z (λe=>?_) λe=>?_;refine k1 8 Z<|sq<|ay Z<|dz 4 Z<|Qm<|Qr<|Q5<|rb<|Q5 ?_;obtain rfl:=(Qx bw (Qx cn (zs e))).symm;refine ct [] [] results68 Z ⟨Z,Z,Z⟩ Z;refine k5 11 10 9 0 1 Z<|QV<|Q7<|Qw<|Qb<|wP Z<|kg e λa4 e=>Qn (jz (a:=h) (b:=1) a4)<|Qq (S':=V5 ..) Z Z Z Z Z<|Q2 ?_;refine pN (h+1) (QR cn (zs e)) [11,10,9,0,1] [4,5] Z;refine k2 0 1 Z<|iT<|Q8<|Q8<|Qt ?_;refine jn () (Qx cn (zs e)) [0,1] [0,1] Z;rintro _ g;try dsimp only at g⊢
 have e:=QR bw g;try dsimp only at e
 refine Q6<|sq<|wP Z<|wN Z zb<|wP Z<|wN Z zb<|wP Z<|Qn (jP U.length l1.length)<|dz 35 Z ?_;refine QO e Z (λe=>?_) λe=>?_;refine k0 Z<|sq<|wP Z<|nr<|Q5 ?_;obtain rfl:=Zi e;refine ct [] [] results68 Z ⟨Z,Z,Z⟩ Z;refine k0 Z<|kt<|sq<|wP Z<|nr ?_;obtain rfl:=Zi e;refine ct [] [] results68 Z ⟨Z,Z,Z⟩ Z
theorem Qc3 {N:Nat} {a0:Int} {bu:OA} {bx:Nat} {l1:List Int} {a2:Int} {ej:OA} {ei:Nat} {l3:List Int} {o0:Int} (e:Sa N a0 l1 a2 l3=some o0):QD prog 67 [.agg #[ao a0,aw bu l1 bx],.agg #[ao a2,aw ej l3 ei]] [.sli 1 jv bu bx l1,.sli 1 jv ej ei l3] [] (R0 (ao o0) [] []):=by
 unfold Sa at e;refine Qp func67 Z ntmps67 Z (S:=[_,_]) Z λC=>sq<|wB Z λg2=>wB Z λg3=>wP Z<|dp 3 2 Z<|sq<|wF Z Yo<|wD 1 1 Z yz yv Z<|wF Z Yo<|wD 0 1 Z yz yv Z<|kn e λv9 U e=>c0 [] [0,1] Z a0u U QbR [0,1] [_,_] Z<|wP Z ?_
 refine dz 4 Z<|Qm ?_;obtain rfl:=Zi e;refine ct [] [] results67 Z ⟨Z,Z,Z⟩ Z
theorem Qdc {N:Nat} {a0:Int} {a1:Int} {a2:ByteArray} {o0:Bool} (e:Q6O N a0 a1 a2=some o0):QD prog 56 [.agg #[bc a0,ao a1,.string a2]] [] [] (R0 (.bool o0) [] []):=by
 unfold Q6O at e;refine Qp func56 Z ntmps56 Z (S:=[_]) Z λC=>sq<|wB Z λg1=>wP Z<|dz 1 Z<|sq<|wM 0 0 (V3 ..) Z fc iU Z<|kn e λv4 U e=>c0 [] [0] Z uh U TW [] [_] Z<|ay Z<|dz 2 Z<|Qm ?_
 obtain rfl:=Zi e;refine ct [] [] results56 Z ⟨Z,Z,Z⟩ Z
theorem Q9d {U:List V} (e:Q3d N U=some o0):QD prog 102 [aw bu U bx,.func (.func 56) #[] #[]] [.sli 3 dw bu bx U] [] (R0 (ao o0) [] []):=by
 unfold Q3d at e;refine Qp func102 Z ntmps102 Z (S:=[_,_]) Z λC=>sq<|wP Z<|dp 0 1 Z<|Q6<|ks e λab e bw=>?_
 refine cut (σ:=Unit) ab (λ_=>(.inl (),[],[],[])) ?_ ?_;refine sq<|wP Z<|wN Z pL<|wP Z<|ib 8 7 0 1 Z<|Qi<|pM (σ:=Nat) (Z3 N U) (λaa=>(aa,[(8,ao (aa:Int)),(7,ao (U.length:Int)),(0,aw bu U bx),(1,.func (.func 56) #[] #[])],[.sli 3 dw bu bx U],[])) 0 e [8,7,0,1] [0] Z λaa mu1 bu1 e cn=>?_;unfold Z3 at e;try dsimp only at e⊢
 refine sq<|wP Z<|Qn (jP aa U.length)<|nt<|Q6 ?_;refine QO e Z (λe=>?_) λe=>?_;refine k4 8 7 0 1 Z<|kt<|Q6<|Qi<|sq<|ay Z<|mu 5 8 7 0 1 Z<|sq<|ay Z<|wP Z<|kn e λJG LV e=>wI 0 aa Z LV pL fc λb14 q14 a0b T1=>jV NV 1 Z λYQ KG _=>?_;subst KG;refine jZ 0 0 (V3 ..) Z fc iU Z ?_;obtain⟨v16,Lt,e⟩:=Qz e;refine qU [] [] Z Z Z Zq Z Z Z a0r Z Z (@Qdc N JG.k JG.n JG.s _ Lt) (bh [] Z) Z (H':=[]) Z ?_;rintro _ _ _ ⟨rfl,rfl,rfl⟩;refine lT 16 5 8 7 0 1 Z ?_;refine QO e Z (λe=>?_) λe=>?_;refine k1 5 Z<|sq<|ay Z<|dz 4 Z<|Qm<|Qr<|Q5<|rb<|Q5 ?_;obtain rfl:=(Qx bw (Qx cn (zs e))).symm;refine ct [] [] results102 Z ⟨Z,Z,Z⟩ Z;refine k4 8 7 0 1 Z<|QV<|Q7<|Qw<|Qb<|wP Z<|kg e λLA e=>Qn (jz (a:=aa) (b:=1) LA)<|Qq (S':=V4 ..) Z Z Z Z Z<|Q2 ?_;refine pN (aa+1) (QR cn (zs e)) [8,7,0,1] [2] Z;refine k0 Z<|iT<|Q8<|Q8<|Qt ?_;refine jn () (Qx cn (zs e)) [] [] Z;rintro _ g;try dsimp only at g⊢
 have e:=QR bw g;try dsimp only at e
 refine sq<|wP Z<|nr ?_;obtain rfl:=Zi e;refine ct [] [] results102 Z ⟨Z,Z,Z⟩ Z
theorem Q8q {N:Nat} {bu:OA} {bx:Nat} {U:List V} {o0:Bool} (e:XI N U=some o0):QD prog 55 [aw bu U bx,.func (.func 56) #[] #[]] [.sli 3 dw bu bx U] [] (R0 (.bool o0) [] []):=by
 unfold XI at e;refine Qp func55 Z ntmps55 Z (S:=[_,_]) Z λC=>sq<|wP Z<|dp 0 1 Z<|sq<|ay Z<|kn e λv7 Lv e=>c0 [] [] Z UW Lv Q9d [0] [] Z<|ay Z<|dz 4 Z<|Qm ?_
 obtain rfl:=Zi e;refine ct [] [] results55 Z ⟨Z,Z,Z⟩ Z
theorem E3 (p:OA)(c:Nat)(l:List Qa)(hb:l.length<=5864062014805):QD prog 37 [aw p l c] [.sli 2 Qd p c l] [] (λv bo Hr=>∃p' c',v=aw p' l c'/\bo=[]/\Hr=[.own 78 2 Qd v l]):=by
 refine Qp func37 Z ntmps37 Z (S:=[_]) Z λC=>pE (λF w h=>oS (h _ (iZ (k:=0) Z))) λox=>sq<|wP Z<|nt<|Q6<|sq<|wP Z<|Qbe Z Z Z Zq Z Z Z jL<|gR 4 2 0 Z ?_;refine iS Z (λU=>?_) λU=>?_;replace U:=ZW U;obtain rfl:=ox U;subst U;refine ON 78 2 Qd<|sq<|Qq (S':=[_,_]) Z Z Z Z Z<|nr<|Q5<|tA (Hr:=[.own 78 2 Qd (V1) []]) [0] results37 (kd Z) ?_ (bh [] Z) Z Z (.inl Z);exact⟨none,0,Z,Z,Z⟩;replace U:=ZS U;refine kt<|sq<|tz Z Z Z Zq Z jL rE Tt Z (zs:=[]) aq Z (out:=[]) Z λg5=>wP Z<|K9 (sz:=2) (m:=0) Qd [] 0 Z (λF w bj=>Z) Z bf (H':=[_]) Z<|Qbd 0 0 Z Z Z Zq Z Z Z Z Z jL a1N Z Z (by simp;omega) (by simp;omega) (H2:=λp7 c7=>[_]) (λ_ _=>Z) λp7 c7=>Qq (S':=V5 ..) Z Z Z Z Z<|gR 2 4 0 Z<|Qm<|tA (Hr:=[.own 78 2 Qd (.slice p7 (l).length c7) l]) [0] results37 (kd Z) ?_ (bh [] Z) Z Z (.inl Z);exact⟨_,_,Z,Z,Z⟩
theorem E4 (p:OA)(c:Nat)(l:List gS)(hb:l.length<=2932031007402):QD prog 83 [aw p l c] [.sli 5 jt p c l] [] (λv bo Hr=>∃p' c',v=aw p' l c'/\bo=[]/\Hr=[.own 76 5 jt v l]):=by
 refine Qp func83 Z ntmps83 Z (S:=[_]) Z λC=>pE (λF w h=>oS (h _ (iZ (k:=0) Z))) λox=>sq<|wP Z<|nt<|Q6<|sq<|wP Z<|Qbe Z Z Z Zq Z Z Z za<|gR 4 2 0 Z ?_;refine iS Z (λU=>?_) λU=>?_;replace U:=ZW U;obtain rfl:=ox U;subst U;refine ON 76 5 jt<|sq<|Qq (S':=[_,_]) Z Z Z Z Z<|nr<|Q5<|tA (Hr:=[.own 76 5 jt (V1) []]) [0] results83 (kd Z) ?_ (bh [] Z) Z Z (.inl Z);exact⟨none,0,Z,Z,Z⟩;replace U:=ZS U;refine kt<|sq<|tz Z Z Z Zq Z za wg rF Z (zs:=[]) aq Z (out:=[]) Z λg5=>wP Z<|K9 (sz:=5) (m:=0) jt [] 0 Z (λF w bj=>Z) Z bf (H':=[_]) Z<|Qbd 0 0 Z Z Z Zq Z Z Z Z Z za Ts Z Z (by simp;omega) (by simp;omega) (H2:=λp7 c7=>[_]) (λ_ _=>Z) λp7 c7=>Qq (S':=V5 ..) Z Z Z Z Z<|gR 2 4 0 Z<|Qm<|tA (Hr:=[.own 76 5 jt (.slice p7 (l).length c7) l]) [0] results83 (kd Z) ?_ (bh [] Z) Z Z (.inl Z);exact⟨_,_,Z,Z,Z⟩
theorem AW (p:OA)(c:Nat)(l:List Q4)(hb:l.length<=1759218604441):QD prog 164 [aw p l c] [.sli 7 Qj p c l] [] (λv bo Hr=>∃p' c',v=aw p' l c'/\bo=[]/\Hr=[.own 67 7 Qj v l]):=by
 refine Qp func164 Z ntmps164 Z (S:=[_]) Z λC=>pE (λF w h=>oS (h _ (iZ (k:=0) Z))) λox=>sq<|wP Z<|nt<|Q6<|sq<|wP Z<|Qbe Z Z Z Zq Z Z Z nH<|gR 4 2 0 Z ?_;refine iS Z (λU=>?_) λU=>?_;replace U:=ZW U;obtain rfl:=ox U;subst U;refine ON 67 7 Qj<|sq<|Qq (S':=[_,_]) Z Z Z Z Z<|nr<|Q5<|tA (Hr:=[.own 67 7 Qj (V1) []]) [0] results164 (kd Z) ?_ (bh [] Z) Z Z (.inl Z);exact⟨none,0,Z,Z,Z⟩;replace U:=ZS U;refine kt<|sq<|tz Z Z Z Zq Z nH kD Hp Z (zs:=[]) aq Z (out:=[]) Z λg5=>wP Z<|K9 (sz:=7) (m:=0) Qj [] 0 Z (λF w bj=>Z) Z bf (H':=[_]) Z<|Qbd 0 0 Z Z Z Zq Z Z Z Z Z nH a1M Z Z (by simp;omega) (by simp;omega) (H2:=λp7 c7=>[_]) (λ_ _=>Z) λp7 c7=>Qq (S':=V5 ..) Z Z Z Z Z<|gR 2 4 0 Z<|Qm<|tA (Hr:=[.own 67 7 Qj (.slice p7 (l).length c7) l]) [0] results164 (kd Z) ?_ (bh [] Z) Z Z (.inl Z);exact⟨_,_,Z,Z,Z⟩
def Qbi (rc:Int->Int->Int->ByteArray->Int->Int->(List Q4)->Option (List Q4)):Prop:=∀(a0:Int)(a1:Int)(a2:Int)(a3:ByteArray)(a4:Int)(a5:Int)(bu:OA)(bx:Nat)(U:List Q4)(o2:List Q4),rc a0 a1 a2 a3 a4 a5 U=some o2->QD prog 84 [.agg #[bc a0,bc a1,ao a2,.string a3,ao a4,bc a5,aw bu U bx]] [.sli 7 Qj bu bx U] [] (λv p q=>∃o0 o1,R0 (.agg #[bc a0,bc a1,ao a2,.string a3,ao a4,bc a5,aw o0 U o1]) [] [.own 67 7 Qj (aw o0 U o1) o2] v p q)
theorem qD (N:Nat)(rc:Int->Int->Int->ByteArray->Int->Int->(List Q4)->Option (List Q4))(ih:Qbi rc):Qbi (ZM N rc):=by
 intro a0 a1 a2 a3 a4 a5 bu bx l6 o2 e;unfold ZM at e;refine Qp func84 Z ntmps84 Z (S:=[_]) Z λC=>sq<|wB Z λg1=>QP Z Z Z Zq Z Hp Z λg2=>dp 2 1 Z<|sq<|wF Z HL<|wD 1 6 Z qZ rS Z<|kg e λaO e=>wC [] [0,1] Z Vg Z (AW bu bx l6 aO) (bh [0] Z) Z (H':=[_,_]) Z ?_
 rintro _ _ _ ⟨p6,c6,rfl,rfl,rfl⟩;refine wF Z HL<|wS 2 6 Z qZ (all':=V7 ..) Z (H':=V3 ..) Z<|dp 2 1 Z<|Q6<|kn e λaK e bw=>?_
 refine cut (σ:=List Q4) aK (λaB=>(aB,[(2,bs g2),(1,bs g1)],[],[.blk g2 [bc 0,bc 0,ao 0,.string EB,ao 0,bc 0,V1] 67,.blk g1 [bc a0,bc a1,ao a2,.string a3,ao a4,bc a5,aw p6 l6 c6] 67,.own 67 7 Qj (aw p6 l6 c6) aB])) ?_ ?_;refine sq<|wF Z HL<|wD 2 6 Z qZ rS Z<|wN Z nH<|wP Z<|ib 11 10 2 1 Z<|Qi<|K2 [1,2,0] Z (H':=V3 ..) Z<|pM (σ:=Nat×(List Q4)) (Y4 N l6 rc) (λ(a6,a7)=>((a6,a7),[(11,ao (a6:Int)),(10,ao (l6.length:Int)),(2,bs g2),(1,bs g1)],[],[.blk g2 [bc 0,bc 0,ao 0,.string EB,ao 0,bc 0,V1] 67,.blk g1 [bc a0,bc a1,ao a2,.string a3,ao a4,bc a5,aw p6 l6 c6] 67,.own 67 7 Qj (aw p6 l6 c6) a7])) (0,l6) e [11,10,2,1] [] Z λs_ aQ aR e cn=>?_;obtain⟨a6,a7⟩:=s_;unfold Y4 at e;try dsimp only at e⊢
 refine sq<|wP Z<|Qn (jP a6 l6.length)<|nt<|Q6 ?_;refine QO e Z (λe=>?_) λe=>?_
 ·
  refine k4 11 10 2 1 Z<|kt<|Q6<|Qi<|sq<|ay Z<|mu 3 11 10 2 1 Z<|kn e λh aF e=>kn e λaE aH e=>kn e λaS aG e=>QK [0,2,3,5,6,9] Z Z λz=>xF z 0 Z HL<|xP z 2 Z<|xF z 3 Z HL ?_;refine xP z 5 Z ?_;refine HJ z 1 4 Z Z Z Z Z Z ?_ ?_;rotate_left
  focus
   refine wD 1 6 Z qZ rS Z<|Q2<|ie [] [] Z Z<|OT z 6 2 a6 Z Z Z Zq Z Z Z Z Z Z (lN aF) nH kD λaP aI=>?_;subst aI;refine HJ z 1 7 Z Z Z Z Z Z ?_ ?_;rotate_left
   focus
    refine JU S8 2 a6 0 Z Z Z Zq Z Z Z aF kD wc (v:=λU=>.agg #[bc (h.kind),bc (h.value.k),ao (h.value.n),.string h.value.s,ao (h.var),bc (h.op),aw U.1 h.kids U.2]) (λ_=>Z) (λ_=>Z) λU _=>Q2<|ie [] [] Z Z ?_;refine HJ z 1 8 Z Z Z Z Z Z ?_ ?_;rotate_left
    focus
     have aD:=ih h.kind h.value.k h.value.n h.value.s h.var h.op U.1 U.2 h.kids _ aH;refine wC [] [0,1,2] Z BE Z (aD) (bh [0] Z) Z (H':=V3 ..) Z ?_;rintro _ _ _ ⟨a8,a9,rfl,rfl,rfl⟩;refine Q2<|cv 0 [] Z<|xS z 1 Z<|wD 2 6 Z qZ rS Z<|Q2<|cv 0 [] Z<|QcS z 9 3 a6 Z Z Z Zq Z Z Z Z Z Z (lN aG) nH kD<|xS z 10 Z<|rM 0 Z λaC _=>pG 2 (v':=.agg #[bc (h.kind),bc (h.value.k),ao (h.value.n),.string h.value.s,ao (h.var),bc (h.op),aw a8 aE a9]) Z (by first|rfl|(rw[aC];done)|(unfold aw;rw[aC];done)|simp) ?_
    rotate_right
    focus
     refine wD 1 6 Z qZ rS Z<|Q2<|cv 0 [] Z<|xS z 8 Z ?_;have aD:=ih h.kind h.value.k h.value.n h.value.s h.var h.op U.1 U.2 h.kids _ aH;refine wC [] [0,1,2] Z BE Z (aD) (bh [0] Z) Z (H':=V3 ..) Z ?_;rintro _ _ _ ⟨a8,a9,rfl,rfl,rfl⟩;refine Q2<|cv 0 [] Z<|QcS z 9 3 a6 Z Z Z Zq Z Z Z Z Z Z (lN aG) nH kD<|xS z 10 Z<|rM 0 Z λaC _=>pG 1 (v':=.agg #[bc (h.kind),bc (h.value.k),ao (h.value.n),.string h.value.s,ao (h.var),bc (h.op),aw a8 aE a9]) Z (by first|rfl|(rw[aC];done)|(unfold aw;rw[aC];done)|simp) ?_
   rotate_right
   focus
    refine wD 1 6 Z qZ rS Z<|Q2<|ie [] [] Z Z<|xS z 7 Z<|JU S8 2 a6 0 Z Z Z Zq Z Z Z aF kD wc (v:=λU=>.agg #[bc (h.kind),bc (h.value.k),ao (h.value.n),.string h.value.s,ao (h.var),bc (h.op),aw U.1 h.kids U.2]) (λ_=>Z) (λ_=>Z) λU _=>Q2<|ie [] [] Z Z<|xS z 8 Z ?_;have aD:=ih h.kind h.value.k h.value.n h.value.s h.var h.op U.1 U.2 h.kids _ aH;refine wC [] [0,1,2] Z BE Z (aD) (bh [0] Z) Z (H':=V3 ..) Z ?_;rintro _ _ _ ⟨a8,a9,rfl,rfl,rfl⟩;refine Q2<|cv 0 [] Z<|QcS z 9 3 a6 Z Z Z Zq Z Z Z Z Z Z (lN aG) nH kD<|xS z 10 Z<|rM 0 Z λaC _=>pG 1 (v':=.agg #[bc (h.kind),bc (h.value.k),ao (h.value.n),.string h.value.s,ao (h.var),bc (h.op),aw a8 aE a9]) Z (by first|rfl|(rw[aC];done)|(unfold aw;rw[aC];done)|simp) ?_
  rotate_right
  focus
   refine wD 1 6 Z qZ rS Z<|Q2<|ie [] [] Z Z<|xS z 4 Z<|wD 1 6 Z qZ rS Z<|Q2<|ie [] [] Z Z<|OT z 6 2 a6 Z Z Z Zq Z Z Z Z Z Z (lN aF) nH kD λaP aI=>?_;subst aI;refine xS z 7 Z<|JU S8 2 a6 0 Z Z Z Zq Z Z Z aF kD wc (v:=λU=>.agg #[bc (h.kind),bc (h.value.k),ao (h.value.n),.string h.value.s,ao (h.var),bc (h.op),aw U.1 h.kids U.2]) (λ_=>Z) (λ_=>Z) λU _=>Q2<|ie [] [] Z Z<|xS z 8 Z ?_;have aD:=ih h.kind h.value.k h.value.n h.value.s h.var h.op U.1 U.2 h.kids _ aH;refine wC [] [0,1,2] Z BE Z (aD) (bh [0] Z) Z (H':=V3 ..) Z ?_;rintro _ _ _ ⟨a8,a9,rfl,rfl,rfl⟩;refine Q2<|cv 0 [] Z<|QcS z 9 3 a6 Z Z Z Zq Z Z Z Z Z Z (lN aG) nH kD<|xS z 10 Z<|rM 0 Z λaC _=>pG 1 (v':=.agg #[bc (h.kind),bc (h.value.k),ao (h.value.n),.string h.value.s,ao (h.var),bc (h.op),aw a8 aE a9]) Z (by first|rfl|(rw[aC];done)|(unfold aw;rw[aC];done)|simp) ?_
  all_goals
   refine x5 0 (φ':=.own 67 7 Qj (aw a8 aE a9) aE) Z (by first|rfl|(rw[aC];done)|(unfold aw;rw[aC];done)|simp) (H':=V4 ..) Z<|OQ 0 Z (H':=V3 ..) Z<|P3 (.sli 7 Qj a8 a9 aE) (λF w bj=>vN (bj _ (iZ (k:=0) Z)))<|ZZ (u:=(⟨h.kind,h.value,h.var,h.op,aE⟩:Q4)) 2 a6 Z Z Z Z Z (lN aG) Z Z kD Z (λF w bj=>(oO (a8,a9) Z (jm (bj _ (iZ (k:=0) Z)) QF))) (H':=V3 ..) Z<|Q2<|cv 2 [] Z<|QE z Z<|Q7<|Qw<|k4 11 10 2 1 Z<|Qb<|wP Z<|kg e λaL e=>Qn (jz (a:=a6) (b:=1) aL) ?_;refine Qq (S':=V4 ..) Z Z Z Z Z<|Q2 ?_;refine pN (a6+1,(a7.set a6 (⟨h.kind,h.value,h.var,h.op,aE⟩:Q4))) (QR cn (zs e)) [11,10,2,1] [] Z
 refine k2 2 1 Z<|iT<|Q8<|Q8<|Qt ?_;refine jn a7 (Qx cn (zs e)) [2,1] [] Z;rintro aB g;try dsimp only at g⊢
 have e:=bw;try rw[g]at e
 refine sq<|wM 1 0 (V7 ..) Z kD wc Z<|wS 0 0 Z kD (all':=V7 ..) Z (H':=V3 ..) Z<|dz 2 Z<|Qm ?_;obtain rfl:=Zi e;refine tA (Hr:=[_]) [2] results84 (nD 0 Z Z kD wc Z Z) ⟨p6,c6,Z,Z,Z⟩ (bh [] Z) Z Z (.inl Z)
theorem vB:∀(N:Nat),Qbi (Y7 N):=by
 intro N;induction N with
 |zero=>intro a0 a1 a2 a3 a4 a5 bu bx l6 o2 e;cases e
 |succ N U=>exact qD N (Y7 N) U
theorem si {N:Nat} {a0:Int} {a1:Int} {bu:OA} {bx:Nat} {l2:List gS} {a3:Int} {a4:Int} {a5:Int} {a6:ByteArray} {a7:Int} {a8:Int} {ej:OA} {ei:Nat} {U:List Q4} {o4:List Q4} (e:Y8 N a0 a1 l2 a3 a4 a5 a6 a7 a8 U=some o4):QD prog 38 [.agg #[bc a0,ao a1,aw bu l2 bx,bc a3,bc a4,ao a5,.string a6,ao a7,bc a8,aw ej U ei]] [.sli 5 jt bu bx l2,.sli 7 Qj ej ei U] [] (λv p q=>∃o0 o1 o2 o3,R0 (.agg #[bc a0,ao a1,aw o0 l2 o1,bc a3,bc a4,ao a5,.string a6,ao a7,bc a8,aw o2 U o3]) [] [.own 76 5 jt (aw o0 l2 o1) l2,.own 67 7 Qj (aw o2 U o3) o4] v p q):=by
 unfold Y8 at e;refine Qp func38 Z ntmps38 Z (S:=[_]) Z λC=>sq<|wB Z λg1=>QP Z Z Z Zq Z Nn Z λg2=>dp 2 1 Z<|sq<|wF Z P2<|wD 1 2 Z jO lh Z<|kg e λhg5 e=>wC [] [0,1] Z a0x Z (E4 bu bx l2 hg5) (bh [0] Z) Z (H':=[_,_]) Z ?_
 rintro _ _ _ ⟨p5,c5,rfl,rfl,rfl⟩;refine wF Z P2<|wS 2 2 Z jO (all':=AM ..) Z (H':=V3 ..) Z<|dp 2 1 Z<|sq<|wF Z Uh<|wM 2 3 (V7 ..) Z kD wc Z<|kn e λv9 hc9 e=>wC [] [0,1,2] Z BE Z (vB N a3 a4 a5 a6 a7 a8 ej ei U _ hc9) (bh [1] Z) Z (H':=V3 ..) Z ?_
 rintro _ _ _ ⟨ae,ah,rfl,rfl,rfl⟩;refine wF Z Uh<|wS 3 3 Z kD (all':=AM ..) Z (H':=V4 ..) Z<|dp 2 1 Z<|sq<|wM 3 0 (AM ..) Z AL lj Z<|wS 2 0 Z AL (all':=AM ..) Z (H':=V4 ..) Z<|dz 2 Z<|Qm ?_;obtain rfl:=Zi e;refine tA (Hr:=[_,_]) [1,0] results38 (nD 2 Z Z AL lj Z Z) ⟨p5,c5,ae,ah,Z,Z,Z⟩ (bh [] Z) Z Z (.inl Z)
theorem vC {N:Nat} {a0:Int} {U:Int} {a2:ByteArray} {o0:ByteArray} (e:ZT N a0 U a2=some o0):QD prog 86 [.agg #[bc a0,ao U,.string a2]] [tF] [] (R0 (.string o0) [] []):=by
 unfold ZT at e;refine Qp func86 Z ntmps86 Z (S:=[_]) Z λC=>sq<|wB Z λg1=>wP Z<|dz 1 Z<|Q6<|Qi<|sq<|wM 0 0 (V3 ..) Z fc iU Z<|kn e λv5 Lu e=>c0 [] [0] Z uh Lu TW [] [_] Z<|ay Z<|dp 3 1 Z ?_
 refine QO e Z (λe=>?_) λe=>?_;refine k0 Z<|sq<|wP Z<|nr<|Qr<|Q5 ?_;obtain rfl:=Zi e;refine ct [] [] results86 Z ⟨Z,Z,Z⟩ Z;refine k1 1 Z<|sq<|wF Z ta<|wD 0 0 Z Hn Hg Z<|ay Z<|dp 7 1 Z ?_;refine QO e Z (λe=>?_) λe=>?_;refine k1 1 Z<|sq<|wF Z tc<|wD 0 2 Z lV lU Z<|kg e λa2v e=>sF Z Z Z Zq Z Z Z (np a2v)<|wP Z<|dz 2 Z<|Qm<|Qr<|Q5 ?_;obtain rfl:=Zi e;refine ct [] [] results86 Z ⟨Z,Z,Z⟩ Z;refine k1 1 Z<|QV<|Q7<|Qw<|sq<|wF Z w6<|wD 0 1 Z jk ji Z<|kg e λa2N e=>wC [] [0] Z Vh Z (Aa U a2N) (bh [0] Z) Z (H':=[_]) Z ?_;rintro _ _ _ ⟨rfl,rfl,rfl⟩;refine wP Z<|dz 2 Z<|Qm ?_;obtain rfl:=Zi e;refine ct [] [] results86 Z ⟨Z,Z,Z⟩ Z
end
section
open Go Go.RowKit
abbrev pp (a:Nat):Value:=.pointer (some ⟨a,0,none⟩)
abbrev RP (Q:Qc->Prop) (v:Value) (bo Hr:List Fact):Prop:=∃U,Q U/\v=.tuple #[]/\bo=[]/\Hr=[Q3 gg U]
section
variable {P:Program} {C:Ctx} {n:FD} {Q:Exit->Act->World->Prop} {Φ H H' T:List Fact} {S:List (Nat×Value)} {ops:Array Oper} {rest:List Oper} {c:Code} {e:Exit} {s:Qc} {a:Nat}
theorem AF {x:gT} (k:Nat)(hk:H[k]? =some (Q3 gg s))(hs:s a=some (.net x))(T:List Fact)(U:H.set k (Q3 gg (del s a))=T)(next:∀r:Option Addr×Nat,WL P C n Q (E6 x r++Φ) (QH (gM (QA iL)).X true QL x.factsA x.facts::QH (Ef (B4 kH)).X false j2 x.alphasA x.alphas::.own 108 1 j2 (.slice x.rowsP x.rows.length x.rowsC) x.rows::.blk a [.slice r.1 x.types.length r.2,.slice x.rowsP x.rows.length x.rowsC,.map (some x.alphasA),.map (some x.factsA),.int .i64 (x.parts)] 85::T) S ops rest):WL P C n Q Φ H S ops rest:=JZ (gg:=gg) k hk hs rfl (λr=>QH (gM (QA iL)).X true QL x.factsA x.facts::QH (Ef (B4 kH)).X false j2 x.alphasA x.alphas::.own 108 1 j2 (.slice x.rowsP x.rows.length x.rowsC) x.rows::.blk a [.slice r.1 x.types.length r.2,.slice x.rowsP x.rows.length x.rowsC,.map (some x.alphasA),.map (some x.factsA),.int .i64 (x.parts)] 85::T) (λ_=>by rw[U];rfl) next
theorem tj {x:gT} (k:Nat)(hk:H[k]? =some (Q3 gg s))(hs:s a=some (.net x))(T:List Fact)(U:H.set k (Q3 gg (del s a))=T)(next:∀r:Option Addr×Nat,WC P C n Q (E6 x r++Φ) (QH (gM (QA iL)).X true QL x.factsA x.facts::QH (Ef (B4 kH)).X false j2 x.alphasA x.alphas::.own 108 1 j2 (.slice x.rowsP x.rows.length x.rowsC) x.rows::.blk a [.slice r.1 x.types.length r.2,.slice x.rowsP x.rows.length x.rowsC,.map (some x.alphasA),.map (some x.factsA),.int .i64 (x.parts)] 85::T) S c):WC P C n Q Φ H S c:=Ue (gg:=gg) k hk hs rfl (λr=>QH (gM (QA iL)).X true QL x.factsA x.facts::QH (Ef (B4 kH)).X false j2 x.alphasA x.alphas::.own 108 1 j2 (.slice x.rowsP x.rows.length x.rowsC) x.rows::.blk a [.slice r.1 x.types.length r.2,.slice x.rowsP x.rows.length x.rowsC,.map (some x.alphasA),.map (some x.factsA),.int .i64 (x.parts)] 85::T) (λ_=>by rw[U];rfl) next
theorem Sv {x:nQ} (k:Nat)(hk:H[k]? =some (Q3 gg s))(hs:s a=some (.row x))(T:List Fact)(U:H.set k (Q3 gg (del s a))=T)(next:∀r:Unit,WL P C n Q (E8 x r++Φ) (QH QB false Qg x.wholeA x.whole::.own 213 1 DF (.slice x.stepsP x.steps.length x.stepsC) x.steps::.blk a [.pointer (some ⟨x.net,0,none⟩),.slice x.stepsP x.steps.length x.stepsC,.map (some x.wholeA)] 112::T) S ops rest):WL P C n Q Φ H S ops rest:=JZ (gg:=gg) k hk hs rfl (λ_=>QH QB false Qg x.wholeA x.whole::.own 213 1 DF (.slice x.stepsP x.steps.length x.stepsC) x.steps::.blk a [.pointer (some ⟨x.net,0,none⟩),.slice x.stepsP x.steps.length x.stepsC,.map (some x.wholeA)] 112::T) (λ_=>by rw[U];rfl) next
theorem Aw {x:nQ} (k:Nat)(hk:H[k]? =some (Q3 gg s))(hs:s a=some (.row x))(T:List Fact)(U:H.set k (Q3 gg (del s a))=T)(next:∀r:Unit,WC P C n Q (E8 x r++Φ) (QH QB false Qg x.wholeA x.whole::.own 213 1 DF (.slice x.stepsP x.steps.length x.stepsC) x.steps::.blk a [.pointer (some ⟨x.net,0,none⟩),.slice x.stepsP x.steps.length x.stepsC,.map (some x.wholeA)] 112::T) S c):WC P C n Q Φ H S c:=Ue (gg:=gg) k hk hs rfl (λ_=>QH QB false Qg x.wholeA x.whole::.own 213 1 DF (.slice x.stepsP x.steps.length x.stepsC) x.steps::.blk a [.pointer (some ⟨x.net,0,none⟩),.slice x.stepsP x.steps.length x.stepsC,.map (some x.wholeA)] 112::T) (λ_=>by rw[U];rfl) next
theorem OR {x:O7} (k:Nat)(hk:H[k]? =some (Q3 gg s))(hs:s a=some (.alpha x))(T:List Fact)(U:H.set k (Q3 gg (del s a))=T)(next:∀r:Unit,WL P C n Q (tr x r++Φ) (QH (gM (QA iL)).X true QL x.factsA x.facts::.own 76 5 jt (.slice x.argsP x.args.length x.argsC) x.args::.blk a [.int .i64 (x.kind),.slice x.argsP x.args.length x.argsC,.map (some x.factsA)] 209::T) S ops rest):WL P C n Q Φ H S ops rest:=JZ (gg:=gg) k hk hs rfl (λ_=>QH (gM (QA iL)).X true QL x.factsA x.facts::.own 76 5 jt (.slice x.argsP x.args.length x.argsC) x.args::.blk a [.int .i64 (x.kind),.slice x.argsP x.args.length x.argsC,.map (some x.factsA)] 209::T) (λ_=>by rw[U];rfl) next
theorem QcQ {x:O7} (k:Nat)(hk:H[k]? =some (Q3 gg s))(hs:s a=some (.alpha x))(T:List Fact)(U:H.set k (Q3 gg (del s a))=T)(next:∀r:Unit,WC P C n Q (tr x r++Φ) (QH (gM (QA iL)).X true QL x.factsA x.facts::.own 76 5 jt (.slice x.argsP x.args.length x.argsC) x.args::.blk a [.int .i64 (x.kind),.slice x.argsP x.args.length x.argsC,.map (some x.factsA)] 209::T) S c):WC P C n Q Φ H S c:=Ue (gg:=gg) k hk hs rfl (λ_=>QH (gM (QA iL)).X true QL x.factsA x.facts::.own 76 5 jt (.slice x.argsP x.args.length x.argsC) x.args::.blk a [.int .i64 (x.kind),.slice x.argsP x.args.length x.argsC,.map (some x.factsA)] 209::T) (λ_=>by rw[U];rfl) next
theorem Uf {x:x8} (k:Nat)(hk:H[k]? =some (Q3 gg s))(hs:s a=some (.join x))(T:List Fact)(U:H.set k (Q3 gg (del s a))=T)(next:∀r:(Option Addr×Nat)×(Option Addr×Nat),WL P C n Q (yO x r++Φ) (QH QB false Qg x.partsA x.parts::.blk a [.pointer (some ⟨x.alpha,0,none⟩),.pointer (some ⟨x.row,0,none⟩),.int .i64 (x.k),.int .u8 (x.cond.kind),.int .i64 (x.cond.type),.slice r.1.1 x.cond.args.length r.1.2,.int .u8 (x.cond.test.kind),.int .u8 (x.cond.test.value.k),.int .i64 (x.cond.test.value.n),.string x.cond.test.value.s,.int .i64 (x.cond.test.var),.int .u8 (x.cond.test.op),.slice r.2.1 x.cond.test.kids.length r.2.2,.map (some x.partsA)] 120::T) S ops rest):WL P C n Q Φ H S ops rest:=JZ (gg:=gg) k hk hs rfl (λr=>QH QB false Qg x.partsA x.parts::.blk a [.pointer (some ⟨x.alpha,0,none⟩),.pointer (some ⟨x.row,0,none⟩),.int .i64 (x.k),.int .u8 (x.cond.kind),.int .i64 (x.cond.type),.slice r.1.1 x.cond.args.length r.1.2,.int .u8 (x.cond.test.kind),.int .u8 (x.cond.test.value.k),.int .i64 (x.cond.test.value.n),.string x.cond.test.value.s,.int .i64 (x.cond.test.var),.int .u8 (x.cond.test.op),.slice r.2.1 x.cond.test.kids.length r.2.2,.map (some x.partsA)] 120::T) (λ_=>by rw[U];rfl) next
theorem vD {x:x8} (k:Nat)(hk:H[k]? =some (Q3 gg s))(hs:s a=some (.join x))(T:List Fact)(U:H.set k (Q3 gg (del s a))=T)(next:∀r:(Option Addr×Nat)×(Option Addr×Nat),WC P C n Q (yO x r++Φ) (QH QB false Qg x.partsA x.parts::.blk a [.pointer (some ⟨x.alpha,0,none⟩),.pointer (some ⟨x.row,0,none⟩),.int .i64 (x.k),.int .u8 (x.cond.kind),.int .i64 (x.cond.type),.slice r.1.1 x.cond.args.length r.1.2,.int .u8 (x.cond.test.kind),.int .u8 (x.cond.test.value.k),.int .i64 (x.cond.test.value.n),.string x.cond.test.value.s,.int .i64 (x.cond.test.var),.int .u8 (x.cond.test.op),.slice r.2.1 x.cond.test.kids.length r.2.2,.map (some x.partsA)] 120::T) S c):WC P C n Q Φ H S c:=Ue (gg:=gg) k hk hs rfl (λr=>QH QB false Qg x.partsA x.parts::.blk a [.pointer (some ⟨x.alpha,0,none⟩),.pointer (some ⟨x.row,0,none⟩),.int .i64 (x.k),.int .u8 (x.cond.kind),.int .i64 (x.cond.type),.slice r.1.1 x.cond.args.length r.1.2,.int .u8 (x.cond.test.kind),.int .u8 (x.cond.test.value.k),.int .i64 (x.cond.test.value.n),.string x.cond.test.value.s,.int .i64 (x.cond.test.var),.int .u8 (x.cond.test.op),.slice r.2.1 x.cond.test.kids.length r.2.2,.map (some x.partsA)] 120::T) (λ_=>by rw[U];rfl) next
theorem Su {x:x8} (k:Nat)(hk:H[k]? =some (Q3 gg s))(hs:s a=some (.nt x))(T:List Fact)(U:H.set k (Q3 gg (del s a))=T)(next:∀r:(Option Addr×Nat)×(Option Addr×Nat),WL P C n Q (E7 x r++Φ) (QH QB false Qg x.partsA x.parts::.blk a [.pointer (some ⟨x.alpha,0,none⟩),.pointer (some ⟨x.row,0,none⟩),.int .i64 (x.k),.int .u8 (x.cond.kind),.int .i64 (x.cond.type),.slice r.1.1 x.cond.args.length r.1.2,.int .u8 (x.cond.test.kind),.int .u8 (x.cond.test.value.k),.int .i64 (x.cond.test.value.n),.string x.cond.test.value.s,.int .i64 (x.cond.test.var),.int .u8 (x.cond.test.op),.slice r.2.1 x.cond.test.kids.length r.2.2,.map (some x.partsA)] 122::T) S ops rest):WL P C n Q Φ H S ops rest:=JZ (gg:=gg) k hk hs rfl (λr=>QH QB false Qg x.partsA x.parts::.blk a [.pointer (some ⟨x.alpha,0,none⟩),.pointer (some ⟨x.row,0,none⟩),.int .i64 (x.k),.int .u8 (x.cond.kind),.int .i64 (x.cond.type),.slice r.1.1 x.cond.args.length r.1.2,.int .u8 (x.cond.test.kind),.int .u8 (x.cond.test.value.k),.int .i64 (x.cond.test.value.n),.string x.cond.test.value.s,.int .i64 (x.cond.test.var),.int .u8 (x.cond.test.op),.slice r.2.1 x.cond.test.kids.length r.2.2,.map (some x.partsA)] 122::T) (λ_=>by rw[U];rfl) next
theorem Av {x:x8} (k:Nat)(hk:H[k]? =some (Q3 gg s))(hs:s a=some (.nt x))(T:List Fact)(U:H.set k (Q3 gg (del s a))=T)(next:∀r:(Option Addr×Nat)×(Option Addr×Nat),WC P C n Q (E7 x r++Φ) (QH QB false Qg x.partsA x.parts::.blk a [.pointer (some ⟨x.alpha,0,none⟩),.pointer (some ⟨x.row,0,none⟩),.int .i64 (x.k),.int .u8 (x.cond.kind),.int .i64 (x.cond.type),.slice r.1.1 x.cond.args.length r.1.2,.int .u8 (x.cond.test.kind),.int .u8 (x.cond.test.value.k),.int .i64 (x.cond.test.value.n),.string x.cond.test.value.s,.int .i64 (x.cond.test.var),.int .u8 (x.cond.test.op),.slice r.2.1 x.cond.test.kids.length r.2.2,.map (some x.partsA)] 122::T) S c):WC P C n Q Φ H S c:=Ue (gg:=gg) k hk hs rfl (λr=>QH QB false Qg x.partsA x.parts::.blk a [.pointer (some ⟨x.alpha,0,none⟩),.pointer (some ⟨x.row,0,none⟩),.int .i64 (x.k),.int .u8 (x.cond.kind),.int .i64 (x.cond.type),.slice r.1.1 x.cond.args.length r.1.2,.int .u8 (x.cond.test.kind),.int .u8 (x.cond.test.value.k),.int .i64 (x.cond.test.value.n),.string x.cond.test.value.s,.int .i64 (x.cond.test.var),.int .u8 (x.cond.test.op),.slice r.2.1 x.cond.test.kids.length r.2.2,.map (some x.partsA)] 122::T) (λ_=>by rw[U];rfl) next
theorem Dp {x:mf} (k:Nat)(hk:H[k]? =some (Q3 gg s))(hs:s a=some (.test x))(T:List Fact)(U:H.set k (Q3 gg (del s a))=T)(next:∀r:(Option Addr×Nat)×(Option Addr×Nat),WL P C n Q (yQ x r++Φ) (QH QB false Qg x.partsA x.parts::.blk a [.pointer (some ⟨x.row,0,none⟩),.int .i64 (x.k),.int .u8 (x.cond.kind),.int .i64 (x.cond.type),.slice r.1.1 x.cond.args.length r.1.2,.int .u8 (x.cond.test.kind),.int .u8 (x.cond.test.value.k),.int .i64 (x.cond.test.value.n),.string x.cond.test.value.s,.int .i64 (x.cond.test.var),.int .u8 (x.cond.test.op),.slice r.2.1 x.cond.test.kids.length r.2.2,.map (some x.partsA)] 125::T) S ops rest):WL P C n Q Φ H S ops rest:=JZ (gg:=gg) k hk hs rfl (λr=>QH QB false Qg x.partsA x.parts::.blk a [.pointer (some ⟨x.row,0,none⟩),.int .i64 (x.k),.int .u8 (x.cond.kind),.int .i64 (x.cond.type),.slice r.1.1 x.cond.args.length r.1.2,.int .u8 (x.cond.test.kind),.int .u8 (x.cond.test.value.k),.int .i64 (x.cond.test.value.n),.string x.cond.test.value.s,.int .i64 (x.cond.test.var),.int .u8 (x.cond.test.op),.slice r.2.1 x.cond.test.kids.length r.2.2,.map (some x.partsA)] 125::T) (λ_=>by rw[U];rfl) next
theorem Dg {x:mf} (k:Nat)(hk:H[k]? =some (Q3 gg s))(hs:s a=some (.test x))(T:List Fact)(U:H.set k (Q3 gg (del s a))=T)(next:∀r:(Option Addr×Nat)×(Option Addr×Nat),WC P C n Q (yQ x r++Φ) (QH QB false Qg x.partsA x.parts::.blk a [.pointer (some ⟨x.row,0,none⟩),.int .i64 (x.k),.int .u8 (x.cond.kind),.int .i64 (x.cond.type),.slice r.1.1 x.cond.args.length r.1.2,.int .u8 (x.cond.test.kind),.int .u8 (x.cond.test.value.k),.int .i64 (x.cond.test.value.n),.string x.cond.test.value.s,.int .i64 (x.cond.test.var),.int .u8 (x.cond.test.op),.slice r.2.1 x.cond.test.kids.length r.2.2,.map (some x.partsA)] 125::T) S c):WC P C n Q Φ H S c:=Ue (gg:=gg) k hk hs rfl (λr=>QH QB false Qg x.partsA x.parts::.blk a [.pointer (some ⟨x.row,0,none⟩),.int .i64 (x.k),.int .u8 (x.cond.kind),.int .i64 (x.cond.type),.slice r.1.1 x.cond.args.length r.1.2,.int .u8 (x.cond.test.kind),.int .u8 (x.cond.test.value.k),.int .i64 (x.cond.test.value.n),.string x.cond.test.value.s,.int .i64 (x.cond.test.var),.int .u8 (x.cond.test.op),.slice r.2.1 x.cond.test.kids.length r.2.2,.map (some x.partsA)] 125::T) (λ_=>by rw[U];rfl) next
theorem B5 {x:jy} (k:Nat)(hk:H[k]? =some (Q3 gg s))(hs:s a=some (.part x))(T:List Fact)(U:H.set k (Q3 gg (del s a))=T)(next:∀r:(Option Addr×Nat)×(Option Addr×Nat),WL P C n Q (yP x r++Φ) (la x.blocks (λb m=>QH (gM (QA iL)).X false Qg b m)::QH QB false Qg x.kidsA x.kids::.blk a [.slice r.1.1 x.has.length r.1.2,.slice r.2.1 x.vals.length r.2.2,.pointer (a' pA x.up),.int .i64 (x.id),.map (some x.kidsA),.map (a' b' x.blocks)] 133::T) S ops rest):WL P C n Q Φ H S ops rest:=JZ (gg:=gg) k hk hs rfl (λr=>la x.blocks (λb m=>QH (gM (QA iL)).X false Qg b m)::QH QB false Qg x.kidsA x.kids::.blk a [.slice r.1.1 x.has.length r.1.2,.slice r.2.1 x.vals.length r.2.2,.pointer (a' pA x.up),.int .i64 (x.id),.map (some x.kidsA),.map (a' b' x.blocks)] 133::T) (λ_=>by rw[U];rfl) next
theorem Ud {x:jy} (k:Nat)(hk:H[k]? =some (Q3 gg s))(hs:s a=some (.part x))(T:List Fact)(U:H.set k (Q3 gg (del s a))=T)(next:∀r:(Option Addr×Nat)×(Option Addr×Nat),WC P C n Q (yP x r++Φ) (la x.blocks (λb m=>QH (gM (QA iL)).X false Qg b m)::QH QB false Qg x.kidsA x.kids::.blk a [.slice r.1.1 x.has.length r.1.2,.slice r.2.1 x.vals.length r.2.2,.pointer (a' pA x.up),.int .i64 (x.id),.map (some x.kidsA),.map (a' b' x.blocks)] 133::T) S c):WC P C n Q Φ H S c:=Ue (gg:=gg) k hk hs rfl (λr=>la x.blocks (λb m=>QH (gM (QA iL)).X false Qg b m)::QH QB false Qg x.kidsA x.kids::.blk a [.slice r.1.1 x.has.length r.1.2,.slice r.2.1 x.vals.length r.2.2,.pointer (a' pA x.up),.int .i64 (x.id),.map (some x.kidsA),.map (a' b' x.blocks)] 133::T) (λ_=>by rw[U];rfl) next
variable {α Λ:Type} {o:PO} {ty:Nat} {K:α->Λ->List Value} {Fs:α->Λ->List Fact} {x:α} {l H0:List Fact} {cs:List Value}
theorem mD (hs:s a=some o)(q:List Nat)(k:Nat)(r:Λ)(hg:gg a o=qX a ty K Fs x::l)(hl:ig q H.length=true)(hp:QQ H q=l.reverse++.blk a cs ty::H0)(hk:H0[k]? =some (Q3 gg (del s a)))(U:cs=K x r)(hf:∀F w,(∀ψ∈Φ,ψ.p F w)->∀φ∈Fs x r,φ.p F w)(hH:H0.set k (Q3 gg s)=H')(next:WL P C n Q Φ H' S ops rest):WL P C n Q Φ H S ops rest:=Yt q k r hg hl hp hk U hf (TZ hs) hH λ_=>next
theorem AG (hs:s a=some o)(q:List Nat)(k:Nat)(r:Λ)(hg:gg a o=qX a ty K Fs x::l)(hl:ig q H.length=true)(hp:QQ H q=l.reverse++.blk a cs ty::H0)(hk:H0[k]? =some (Q3 gg (del s a)))(U:cs=K x r)(hf:∀F w,(∀ψ∈Φ,ψ.p F w)->∀φ∈Fs x r,φ.p F w)(hH:H0.set k (Q3 gg s)=H')(next:WC P C n Q Φ H' S c):WC P C n Q Φ H S c:=Dh q k r hg hl hp hk U hf (TZ hs) hH λ_=>next
theorem iO (hs:s a=some o)(q:List Nat)(k:Nat)(r:Λ)(hg:gg a o=qX a ty K Fs x::l)(hl:ig q H.length=true)(hp:QQ H q=l.reverse++.blk a cs ty::H0)(hk:H0[k]? =some (Q3 gg (del s a)))(U:cs=K x r)(hf:∀F w,(∀ψ∈Φ,ψ.p F w)->∀φ∈Fs x r,φ.p F w)(hH:H0.set k (Q3 gg s)=H')(next:WE C n Q Φ H' S e):WE C n Q Φ H S e:=Dm q k r hg hl hp hk U hf (TZ hs) hH λ_=>next
end
section
variable {A R:Type} {P:Prop} {Q:R->Prop}
theorem ja {o:Option A} {k:A->WM R} (h:Qu o k Q)(n:∀a,o=some a->k a Q->P):P:=n _ (Jk h).choose_spec.1 (Jk h).choose_spec.2
theorem iW {c:Prop} {k:WM R} (h:gv c k Q)(n:c->k Q->P):P:=n (xx h).1 (xx h).2
theorem nK {x:A} {k:A->WM R} (h:jc x k Q)(n:∀y,y=x->k y Q->P):P:=n x rfl (h x rfl)
theorem qi {f:A->WM R} {g:(A->WM R)->WM R} (h:lO f g Q)(n:∀k,k=f->g k Q->P):P:=n f rfl h
theorem loF {f:(A->WM R)->A->WM R} {N:Nat} {s:A} (h:kC f N s Q)(n:∀L,L=f->kC L N s Q->P):P:=n f rfl h
theorem z8 {s:Qc} {a:Nat} {k:gT->WM R} (h:Qu (gNet s a) k Q)(n:∀x,s a=some (.net x)->k x Q->P):P:=ja h λx e=>n x (qb e)
theorem mq {s:Qc} {a:Nat} {k:nQ->WM R} (h:Qu (gRow s a) k Q)(n:∀x,s a=some (.row x)->k x Q->P):P:=ja h λx e=>n x (qc e)
theorem Sy {s:Qc} {a:Nat} {k:O7->WM R} (h:Qu (vQ s a) k Q)(n:∀x,s a=some (.alpha x)->k x Q->P):P:=ja h λx e=>n x (BH e)
theorem mV {s:Qc} {a:Nat} {k:x8->WM R} (h:Qu (jD s a) k Q)(n:∀x,s a=some (.join x)->k x Q->P):P:=ja h λx e=>n x (ES e)
theorem mo {s:Qc} {a:Nat} {k:x8->WM R} (h:Qu (jE s a) k Q)(n:∀x,s a=some (.nt x)->k x Q->P):P:=ja h λx e=>n x (Ih e)
theorem Fi {s:Qc} {a:Nat} {k:mf->WM R} (h:Qu (rf s a) k Q)(n:∀x,s a=some (.test x)->k x Q->P):P:=ja h λx e=>n x (EV e)
theorem w9 {s:Qc} {a:Nat} {k:jy->WM R} (h:Qu (gPart s a) k Q)(n:∀x,s a=some (.part x)->k x Q->P):P:=ja h λx e=>n x (EU e)
end
section
variable {P:Program} {C:Ctx} {n:FD} {Q:Exit->Act->World->Prop} {Φ H H':List Fact} {S:List (Nat×Value)} {ops:Array Oper} {rest:List Oper} {c:Code} {e:Exit} {s s':Qc} {a:Nat} {α Λ:Type} {o:PO} {ty:Nat} {K:α->Λ->List Value} {Fs:α->Λ->List Fact} {x:α} {l H0:List Fact} {cs:List Value}
theorem DO (q:List Nat)(k:Nat)(r:Λ)(hg:gg a o=qX a ty K Fs x::l)(hl:ig q H.length=true)(hp:QQ H q=l.reverse++.blk a cs ty::H0)(hk:H0[k]? =some (Q3 gg s))(U:cs=K x r)(hf:∀F w,(∀ψ∈Φ,ψ.p F w)->∀φ∈Fs x r,φ.p F w)(he:cu s a o=s')(hH:H0.set k (Q3 gg s')=H')(next:s a=none->WL P C n Q Φ H' S ops rest):WL P C n Q Φ H S ops rest:=Yt q k r hg hl hp hk U hf he hH next
theorem yD (q:List Nat)(k:Nat)(r:Λ)(hg:gg a o=qX a ty K Fs x::l)(hl:ig q H.length=true)(hp:QQ H q=l.reverse++.blk a cs ty::H0)(hk:H0[k]? =some (Q3 gg s))(U:cs=K x r)(hf:∀F w,(∀ψ∈Φ,ψ.p F w)->∀φ∈Fs x r,φ.p F w)(he:cu s a o=s')(hH:H0.set k (Q3 gg s')=H')(next:s a=none->WC P C n Q Φ H' S c):WC P C n Q Φ H S c:=Dh q k r hg hl hp hk U hf he hH next
theorem DN (q:List Nat)(k:Nat)(r:Λ)(hg:gg a o=qX a ty K Fs x::l)(hl:ig q H.length=true)(hp:QQ H q=l.reverse++.blk a cs ty::H0)(hk:H0[k]? =some (Q3 gg s))(U:cs=K x r)(hf:∀F w,(∀ψ∈Φ,ψ.p F w)->∀φ∈Fs x r,φ.p F w)(he:cu s a o=s')(hH:H0.set k (Q3 gg s')=H')(next:s a=none->WE C n Q Φ H' S e):WE C n Q Φ H S e:=Dm q k r hg hl hp hk U hf he hH next
end
section
variable {P:Program} {C:Ctx} {n:FD} {Q:Exit->Act->World->Prop} {Φ H:List Fact} {S:List (Nat×Value)} {c x y:Code} {σ τ R:Type}
variable {f:(τ->WM R)->τ->WM R}{Q':R->Prop}
def JW (K:σ->Prop×List (Nat×Value)×List Fact×List Fact)(C:Ctx)(n:FD):Act->World->Prop:=λa w=>∃s,pQ (λs=>(K s).1) (λs=>(K s).2.1) (λs=>(K s).2.2.1) (λs=>(K s).2.2.2) C n s a w
theorem mI (K:σ->Prop×List (Nat×Value)×List Fact×List Fact)(U:WC P C n (Exit.then (JW K C n) Q) Φ H S x)(hy:∀s,(K s).1->WC P C n Q (K s).2.2.1 (K s).2.2.2 (K s).2.1 y):WC P C n (Exit.then (λa w=>y.wp P Q a w) Q) Φ H S x:=Au _ _ _ _ U hy
theorem iy {K:σ->Prop×List (Nat×Value)×List Fact×List Fact} (s:σ)(h:(K s).1)(l l2:List Nat)(U:(j0 l S,QQ Φ l2,H)=(K s).2):WE C n (Exit.then (JW K C n) Q) Φ H S .normal:=
 lL s h l (congrArg (·.1) U) (bh l2 (congrArg (·.2.1) U)) (congrArg (·.2.2) U)
def LW (f:(τ->WM R)->τ->WM R)(Q':R->Prop)(K:σ->τ×List (Nat×Value)×List Fact×List Fact)(m:Nat)(C:Ctx)(n:FD):Act->World->Prop:=λa w=>∃s:Nat×σ,s.1<m+1/\pQ (λs:Nat×σ=>kC f s.1 (K s.2).1 Q') (λs=>(K s.2).2.1) (λs=>(K s.2).2.2.1) (λs=>(K s.2).2.2.2) C n s a w
theorem DY {N:Nat} (K:σ->τ×List (Nat×Value)×List Fact×List Fact)(s0:σ)(hm:kC f N (K s0).1 Q')(l l2:List Nat)(U:(j0 l S,QQ Φ l2,H)=(K s0).2)
  (round:∀s m g,g=kC f m->f g (K s).1 Q'->WC P C n (Exit.then (LW f Q' K m C n) Q) (K s).2.2.1 (K s).2.2.2 (K s).2.1 c):WC P C n Q Φ H S (.loop c):=by
 refine Ul (σ:=Nat×σ) (λs=>kC f s.1 (K s.2).1 Q') (λs=>s.1) (λs=>(K s.2).2.1) (λs=>(K s.2).2.2.1) (λs=>(K s.2).2.2.2) (N,s0) hm l (congrArg (·.1) U) (bh l2 (congrArg (·.2.1) U)) (congrArg (·.2.2) U) ?_;rintro⟨k,s⟩ hs;obtain⟨m,g,rfl,hg,hm⟩:=sU hs;exact round s m g hg hm
theorem AR {K:σ->τ×List (Nat×Value)×List Fact×List Fact} {m:Nat} {g:τ->WM R} (s:σ)(hg:g=kC f m)(h:g (K s).1 Q')(l l2:List Nat)(U:(j0 l S,QQ Φ l2,H)=(K s).2):WE C n (Exit.then (LW f Q' K m C n) Q) Φ H S .normal:=by
 subst hg;exact OO (μ:=λs:Nat×σ=>s.1) (m,s) (Nat.lt_succ_self _) h l (congrArg (·.1) U) (bh l2 (congrArg (·.2.1) U)) (congrArg (·.2.2) U)
end
end
end Go.Proofs.YtocfkfhdcnjklaaGreatDoor
namespace Go.Proofs
open Go.Shelf
def Tryz.keysI_ren:Go.Shelf.Ren:=⟨λ|7=>410|10=>418|n=>n,λ|23=>83|26=>3|3=>40|28=>542|0=>0|27=>541|33=>323|4=>4|n=>n,λ|n=>n⟩
theorem Tryz.keysI:Go.Proofs.SlLaysZI.n7 Tryz.prog Tryz.keysI_ren:={
 mixed:=by kernel_rfl
 f7:=⟨Tryz.f410.name,by decide,Tryz.func410.trans (congrArg some (by kernel_rfl))⟩
 f10:=⟨Tryz.f418.name,by decide,Tryz.func418.trans (congrArg some (by kernel_rfl))⟩
 t0:=Tryz.underlying0
 a0:=Tryz.isAgg0
 z0:=Tryz.sizeOf0
 v0:=Tryz.zeroValue0
 t4:=Tryz.underlying4
 a4:=Tryz.isAgg4
 z4:=Tryz.sizeOf4
 v4:=Tryz.zeroValue4
 t23:=Tryz.underlying83
 a23:=Tryz.isAgg83
 z23:=Tryz.sizeOf83
 v23:=Tryz.zeroValue83
 t26:=Tryz.underlying3
 a26:=Tryz.isAgg3
 z26:=Tryz.sizeOf3
 v26:=Tryz.zeroValue3
 t27:=Tryz.underlying541
 a27:=Tryz.isAgg541
 z27:=Tryz.sizeOf541
 v27:=Tryz.zeroValue541
 t28:=Tryz.underlying542
 a28:=Tryz.isAgg542
 z28:=Tryz.sizeOf542
 v28:=Tryz.zeroValue542
 t33:=Tryz.underlying323
 a33:=Tryz.isAgg323
 z33:=Tryz.sizeOf323
 v33:=Tryz.zeroValue323}
def Tryz.sortedI_ren:Go.Shelf.Ren:=⟨λ|6=>409|8=>416|9=>417|11=>419|13=>108|12=>420|23=>190|24=>191|14=>421|15=>422|16=>423|17=>424|18=>425|19=>426|20=>427|21=>428|22=>429|25=>430|26=>275|27=>276|28=>431|29=>432|30=>192|31=>433|n=>n,λ|26=>3|28=>542|24=>99|0=>0|3=>3|37=>230|48=>320|50=>322|4=>4|40=>314|39=>313|45=>142|5=>5|9=>9|51=>435|55=>439|57=>482|58=>483|33=>323|n=>n,λ|n=>n⟩
theorem Tryz.sortedI:Go.Proofs.SlLaysZI.n6 Tryz.prog Tryz.sortedI_ren:={
 mixed:=by kernel_rfl
 f6:=⟨Tryz.f409.name,by decide,Tryz.func409.trans (congrArg some (by kernel_rfl))⟩
 f8:=⟨Tryz.f416.name,by decide,Tryz.func416.trans (congrArg some (by kernel_rfl))⟩
 f11:=⟨Tryz.f419.name,by decide,Tryz.func419.trans (congrArg some (by kernel_rfl))⟩
 t0:=Tryz.underlying0
 a0:=Tryz.isAgg0
 z0:=Tryz.sizeOf0
 v0:=Tryz.zeroValue0
 t24:=Tryz.underlying99
 a24:=Tryz.isAgg99
 z24:=Tryz.sizeOf99
 v24:=Tryz.zeroValue99
 t26:=Tryz.underlying3
 a26:=Tryz.isAgg3
 z26:=Tryz.sizeOf3
 v26:=Tryz.zeroValue3
 t28:=Tryz.underlying542
 a28:=Tryz.isAgg542
 z28:=Tryz.sizeOf542
 v28:=Tryz.zeroValue542
 i26:=by kernel_rfl}
def Tryz.sortI_ren:Go.Shelf.Ren:=⟨λ|5=>417|8=>108|7=>420|19=>190|20=>191|10=>421|11=>422|12=>423|13=>424|14=>425|15=>426|16=>427|17=>428|18=>429|30=>430|31=>275|32=>276|33=>431|34=>432|35=>192|40=>433|n=>n,λ|23=>99|25=>3|3=>3|32=>230|22=>99|0=>0|44=>320|46=>322|4=>4|36=>314|35=>313|41=>142|5=>5|9=>9|53=>435|57=>439|63=>482|64=>483|n=>n,λ|n=>n⟩
theorem Tryz.sortI:Go.Proofs.SlLaysM.n5 Tryz.prog Tryz.sortI_ren:={
 mixed:=by kernel_rfl
 f5:=⟨Tryz.f417.name,by decide,Tryz.func417.trans (congrArg some (by kernel_rfl))⟩
 f7:=⟨Tryz.f420.name,by decide,Tryz.func420.trans (congrArg some (by kernel_rfl))⟩
 f8:=Tryz.func108.trans (congrArg some (by kernel_rfl))
 f10:=⟨Tryz.f421.name,by decide,Tryz.func421.trans (congrArg some (by kernel_rfl))⟩
 f11:=⟨Tryz.f422.name,by decide,Tryz.func422.trans (congrArg some (by kernel_rfl))⟩
 f12:=⟨Tryz.f423.name,by decide,Tryz.func423.trans (congrArg some (by kernel_rfl))⟩
 f13:=⟨Tryz.f424.name,by decide,Tryz.func424.trans (congrArg some (by kernel_rfl))⟩
 f14:=⟨Tryz.f425.name,by decide,Tryz.func425.trans (congrArg some (by kernel_rfl))⟩
 f15:=⟨Tryz.f426.name,by decide,Tryz.func426.trans (congrArg some (by kernel_rfl))⟩
 f16:=⟨Tryz.f427.name,by decide,Tryz.func427.trans (congrArg some (by kernel_rfl))⟩
 f17:=⟨Tryz.f428.name,by decide,Tryz.func428.trans (congrArg some (by kernel_rfl))⟩
 f18:=⟨Tryz.f429.name,by decide,Tryz.func429.trans (congrArg some (by kernel_rfl))⟩
 f19:=Tryz.func190.trans (congrArg some (by kernel_rfl))
 f20:=Tryz.func191.trans (congrArg some (by kernel_rfl))
 f30:=⟨Tryz.f430.name,by decide,Tryz.func430.trans (congrArg some (by kernel_rfl))⟩
 f31:=Tryz.func275.trans (congrArg some (by kernel_rfl))
 f32:=Tryz.func276.trans (congrArg some (by kernel_rfl))
 f33:=⟨Tryz.f431.name,by decide,Tryz.func431.trans (congrArg some (by kernel_rfl))⟩
 f34:=⟨Tryz.f432.name,by decide,Tryz.func432.trans (congrArg some (by kernel_rfl))⟩
 f35:=⟨Tryz.f192.name,by decide,Tryz.func192.trans (congrArg some (by kernel_rfl))⟩
 f40:=⟨Tryz.f433.name,by decide,Tryz.func433.trans (congrArg some (by kernel_rfl))⟩
 t0:=Tryz.underlying0
 a0:=Tryz.isAgg0
 z0:=Tryz.sizeOf0
 v0:=Tryz.zeroValue0
 t3:=Tryz.underlying3
 a3:=Tryz.isAgg3
 z3:=Tryz.sizeOf3
 v3:=Tryz.zeroValue3
 t4:=Tryz.underlying4
 a4:=Tryz.isAgg4
 z4:=Tryz.sizeOf4
 v4:=Tryz.zeroValue4
 t5:=Tryz.underlying5
 a5:=Tryz.isAgg5
 z5:=Tryz.sizeOf5
 v5:=Tryz.zeroValue5
 t9:=Tryz.underlying9
 a9:=Tryz.isAgg9
 z9:=Tryz.sizeOf9
 v9:=Tryz.zeroValue9
 t22:=Tryz.underlying99
 a22:=Tryz.isAgg99
 z22:=Tryz.sizeOf99
 v22:=Tryz.zeroValue99
 t23:=Tryz.underlying99
 a23:=Tryz.isAgg99
 z23:=Tryz.sizeOf99
 v23:=Tryz.zeroValue99
 t25:=Tryz.underlying3
 a25:=Tryz.isAgg3
 z25:=Tryz.sizeOf3
 v25:=Tryz.zeroValue3
 t32:=Tryz.underlying230
 a32:=Tryz.isAgg230
 z32:=Tryz.sizeOf230
 v32:=Tryz.zeroValue230
 t35:=Tryz.underlying313
 a35:=Tryz.isAgg313
 z35:=Tryz.sizeOf313
 v35:=Tryz.zeroValue313
 t36:=Tryz.underlying314
 a36:=Tryz.isAgg314
 z36:=Tryz.sizeOf314
 v36:=Tryz.zeroValue314
 t41:=Tryz.underlying142
 a41:=Tryz.isAgg142
 z41:=Tryz.sizeOf142
 v41:=Tryz.zeroValue142
 t44:=Tryz.underlying320
 a44:=Tryz.isAgg320
 z44:=Tryz.sizeOf320
 v44:=Tryz.zeroValue320
 t46:=Tryz.underlying322
 a46:=Tryz.isAgg322
 z46:=Tryz.sizeOf322
 v46:=Tryz.zeroValue322
 t53:=Tryz.underlying435
 a53:=Tryz.isAgg435
 z53:=Tryz.sizeOf435
 v53:=Tryz.zeroValue435
 t57:=Tryz.underlying439
 a57:=Tryz.isAgg439
 z57:=Tryz.sizeOf439
 v57:=Tryz.zeroValue439
 t63:=Tryz.underlying482
 a63:=Tryz.isAgg482
 z63:=Tryz.sizeOf482
 v63:=Tryz.zeroValue482
 t64:=Tryz.underlying483
 a64:=Tryz.isAgg483
 z64:=Tryz.sizeOf483
 v64:=Tryz.zeroValue483}
def Tryz.cloneM_ren:Go.Shelf.Ren:=⟨λ|5=>405|7=>412|n=>n,λ|23=>109|25=>127|3=>4|4=>4|20=>20|n=>n,λ|n=>n⟩
theorem Tryz.cloneM:Go.Proofs.SlLaysW.n5 Tryz.prog Tryz.cloneM_ren:={
 mixed:=by kernel_rfl
 f5:=⟨Tryz.f405.name,by decide,Tryz.func405.trans (congrArg some (by kernel_rfl))⟩
 f7:=Tryz.func412.trans (congrArg some (by kernel_rfl))
 t4:=Tryz.underlying4
 a4:=Tryz.isAgg4
 z4:=Tryz.sizeOf4
 v4:=Tryz.zeroValue4
 t20:=Tryz.underlying20
 a20:=Tryz.isAgg20
 z20:=Tryz.sizeOf20
 v20:=Tryz.zeroValue20
 t23:=Tryz.underlying109
 a23:=Tryz.isAgg109
 z23:=Tryz.sizeOf109
 v23:=Tryz.zeroValue109}
open Go.RowKit Go.Maps Go.Sort in
theorem Tryz.sortsI (m:Nat):AnyZI.SortsIn Tryz.prog Tryz.sortedI_ren Fence.wide m:=
 ⟨λblk off cap ss W hH hblk U=>callsIn_wide.2 (AnyM.slices_Sort_int Tryz.sortI blk off cap ss W hH hblk U),
  λp cap W=>callsIn_wide.2 (AnyM.slices_Sort_int_none Tryz.sortI p cap W)⟩
open Go.RowKit Go.Maps Go.Sort in
theorem Tryz.keysI_at (U:Option Nat)(W:World):CallsIn Fence.wide 5 Tryz.prog 410 #[.map U] W λe w'=>e=.returned (.func (.func 418) #[] #[.pointer (some ⟨W.heap.size,0,none⟩)])/\w'=W.alloc (.cells #[.map U] 83):=
 AnyZI.keys_in Tryz.keysI Fence.wide 5 trivial rfl U W
open Go.RowKit Go.Maps Go.Sort in
theorem Tryz.sortedI_at {H:Type} (b nn:Nat)(D0:DataW H)(R:Value->Option (DataW H×List MemPlace))(W:World)(U:Nat)(hBm:U<W.heap.size)(hm:W.cell? ⟨U,0,none⟩=some (.map (some b)))(gw:W.ownsMap Tryz.prog 3 R b nn D0)(We:Maps.size D0<=maxLen)(j3:Maps.size D0*8<=140737488355328):
  CallsIn Fence.wide 5 Tryz.prog 409 #[.func (.func 418) #[] #[.pointer (some ⟨U,0,none⟩)]] W λe w'=>∃(v:Value) (ss:List Int),e=.returned v/\ss.Perm (intKeys D0)/\
   w'.ownsRow W.heap.size 3 1 v ss.length ((ss.mergeSort (λx y=>decide (x<=y))).map encZ)/\(v=.slice none 0 0↔ss=[])/\Below W.heap.size W w':=
 AnyZI.sorted_in Tryz.sortedI Fence.wide 5 trivial trivial trivial trivial rfl (by omega) (Tryz.sortsI _) (enters_of Tryz.func417 (by kernel_rfl) rfl) 418 #[.pointer (some ⟨U,0,none⟩)] trivial (enters_of Tryz.func418 (by kernel_rfl) rfl) _ _ We j3 _
  (AnyZI.keys_gives (ρ:=Tryz.keysI_ren) {Tryz.keysI with} Fence.wide 2 trivial rfl (by omega) U b nn D0 W hBm hm gw)
open Go.RowKit Go.Maps in
theorem Tryz.cloneM_at (b:Nat)(es:Array MapEntry)(clock:Nat)(w:World)(U:w.heap[b]? =some (.map es clock)):Calls Tryz.prog 405 #[.map (some b)] w λe w'=>e=.returned (.map (some w.heap.size))/\w'=w.alloc (.map es clock):=AnyW.maps_Clone Tryz.cloneM b es clock w U
end Go.Proofs
namespace Go.Proofs.YtocfkfhdcnjklaaGreatDoor
end Go.Proofs.YtocfkfhdcnjklaaGreatDoor
