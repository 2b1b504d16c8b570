import Derived.Test.YtbgodclhmgmcgaaGreatDoorProg
import Derived.Maps.Own
import Derived.Maps.OwnSet
import Derived.Maps.Views
import Derived.DeepKeys4
import Derived.Laws.BytesArg
import Derived.Laws.BytesString
import Derived.Laws.IdiomStrings
import Derived.Lib.LaidTab
import Derived.Lib.ItoaNum
import Derived.LaidSub
import Derived.Test.YtbgodclhmgmcgaaGreatDoorXM
import Derived.Test.YtbgodclhmgmcgaaGreatDoorAb
import Derived.Test.YtbgodclhmgmcgaaGreatDoorPan
namespace Go.Proofs.YtbgodclhmgmcgaaGreatDoor
open Go.RowKit
set_option maxRecDepth 100000
set_option maxHeartbeats 4000000
theorem tFT_197_0:fldTy Tryz.prog 197 0 = some (195,0):=by kernel_rfl
theorem Qcm:fldTy Tryz.prog 197 2 = some (3,2):=by kernel_rfl
theorem tFT_159_1:fldTy Tryz.prog 159 1 = some (9,1):=by kernel_rfl
theorem tFT_197_1:fldTy Tryz.prog 197 1 = some (9,1):=by kernel_rfl
theorem tM_146:Tryz.prog.underlying 146 = some (.map 61 140):=by kernel_rfl
theorem Q70:Tryz.prog.underlying 221 = some (.map 62 183):=by kernel_rfl
theorem tFT_57_1:fldTy Tryz.prog 57 1 = some (2,1):=by kernel_rfl
theorem idle_65 (g:Nat):Idle Tryz.prog 65 #[.pointer (some ⟨g,0,none⟩)]:=by
 intro w
 refine callsD_of_wpS Tryz.func65 Z fun c₀ cs hu=>?_
 apply wpS_seq
 apply wpS_region
 simp [wpOpsS,go_sem,recoverD,hu,Tryz.ntmps65,Exit.thenS]
 apply wpS_seq
 apply wpS_region
 simp [wpOpsS,go_sem,Exit.thenS]
 refine wpS_cond (t:=false) (by simp [Act.eval,Array.replicate]) ?_
 refine wpS_of_wp (wp_skip ?_)
 cases c₀
 simp_all [bodyPostS,results,Tryz.results65]
theorem recovers_65 (g:Nat):Recovers Tryz.prog 65 #[.pointer (some ⟨g,0,none⟩)] (.iface 131 (.agg #[])) (fun w w1=>(∃ a t,w.heap[g]? = some (.cells #[a] t)) ∧ w1 = Q5U w g 0 [.int .i64 204]):=by
 rintro w w1 ⟨⟨a0,t0,hcell⟩,rfl⟩
 refine callsD_of_wpS Tryz.func65 Z fun c₀ cs hu=>?_
 have hneq : ∀ w:World,(binOp BinOp.neq 20 (.iface 131 (.agg #[])) .nilIface).run Tryz.prog w = .ok (.bool true) w:=fun _=>by kernel_rfl
 apply wpS_seq
 apply wpS_region
 simp [wpOpsS,go_sem,recoverD,hu,oneP,Tryz.ntmps65,Exit.thenS]
 apply wpS_seq
 apply wpS_region
 simp [wpOpsS,go_sem,Exit.thenS,hneq]
 refine wpS_cond (t:=true) (by simp [Act.eval,Array.replicate]) ?_
 simp only [if_true]
 apply wpS_seq
 refine wpS_store (t:=32) (x:=.tmp 0) (y:=.const (.int .i64 204)) (v:=.int .i64 204) Z Z Z (by simp [Act.eval]) Z Z (by kernel_rfl) Z hcell ?_
 simp only [Exit.thenS]
 apply wpS_region
 have hass : ∀ w:World,(Instr.typeAssert (.iface 131 (.agg #[])) 20 131 false).run Tryz.prog w = .ok ((.agg #[])) w:=fun _=>by kernel_rfl
 simp [wpOpsS,go_sem,hass]
 cases c₀
 simp_all [bodyPostS,results,Tryz.results65]
theorem Q8Q (N:Nat) (a0:Int) (o0:Bool) (hm:Q69 N a0 = some o0):Q17 Tryz.prog 198 [.int .u8 a0] [] [] (fun v Φr Hr=>v = .bool o0 ∧ Φr = [] ∧ Hr = []):=by
 unfold Q69 at hm
 refine QC Tryz.func198 Z Tryz.ntmps198 Z (S:=[_]) Z (fun C=>(Q5 (Q1 (wP Z (Q4 (Q3 (Q2 [0] (S':=[_]) Z (Q5 (Q1 (wP Z (wP Z (wP Z ?_))))))))))))
 refine QG (d:=5) (S':=V3 ..) Z Z (fun hs5=>?_) (fun hs5=>?_)
 replace hm:=QI hm hs5
 refine wP Z (wP Z (wP Z (wP Z (Q4 (Q3 (Q2 [2] (S':=[_]) Z (Qo ?_)))))))
 have hE:=(Zi hm).symm
 replace hE:=hE.symm
 subst hE
 refine Qp (Hr:=[]) [] Tryz.results198 (Qg Z) ⟨Z,Z,Z⟩ (asK [] Z) Z Z (.inl Z)
 replace hm:=QH hm hs5
 refine wO Z (wO Z (wP Z (wP Z (Q4 (Q3 (Q2 [2] (S':=[_]) Z (Qo ?_)))))))
 have hE:=(Zi hm).symm
 replace hE:=hE.symm
 subst hE
 refine Qp (Hr:=[]) [] Tryz.results198 (Qg Z) ⟨Z,Z,Z⟩ (asK [] Z) Z Z (.inl Z)
theorem Q4L (N:Nat) (a0:Int) (o0:Bool) (hm:Q3b N a0 = some o0):Q17 Tryz.prog 201 [.int .u8 a0] [] [] (fun v Φr Hr=>v = .bool o0 ∧ Φr = [] ∧ Hr = []):=by
 unfold Q3b at hm
 refine QC Tryz.func201 Z Tryz.ntmps201 Z (S:=[_]) Z (fun C=>(Q5 (Q1 (wP Z (Q4 (Q3 (Q2 [0] (S':=[_]) Z (Q5 (Q1 (wP Z (wP Z (wP Z ?_))))))))))))
 refine QG (d:=5) (S':=V3 ..) Z Z (fun hs5=>?_) (fun hs5=>?_)
 replace hm:=QI hm hs5
 refine wP Z (wP Z (wP Z (wP Z (Q4 (Q3 (Q2 [2] (S':=[_]) Z (Qo ?_)))))))
 have hE:=(Zi hm).symm
 replace hE:=hE.symm
 subst hE
 refine Qp (Hr:=[]) [] Tryz.results201 (Qg Z) ⟨Z,Z,Z⟩ (asK [] Z) Z Z (.inl Z)
 replace hm:=QH hm hs5
 refine wO Z (wO Z (wP Z (wP Z (Q4 (Q3 (Q2 [2] (S':=[_]) Z (Qo ?_)))))))
 have hE:=(Zi hm).symm
 replace hE:=hE.symm
 subst hE
 refine Qp (Hr:=[]) [] Tryz.results201 (Qg Z) ⟨Z,Z,Z⟩ (asK [] Z) Z Z (.inl Z)
theorem Q9r (N:Nat) (a0:Int) (o0:Bool) (hm:Q6M N a0 = some o0):Q17 Tryz.prog 203 [.int .u8 a0] [] [] (fun v Φr Hr=>v = .bool o0 ∧ Φr = [] ∧ Hr = []):=by
 unfold Q6M at hm
 refine QC Tryz.func203 Z Tryz.ntmps203 Z (S:=[_]) Z (fun C=>(Q5 (Q1 (wP Z (Q4 (Q3 (Q2 [0] (S':=[_]) Z (Q5 (Q1 (wP Z ?_))))))))))
 obtain ⟨v4,hc4,hm⟩:=Q6 hm
 refine wC [] [] Z fn_198 Z (Q8Q N a0 _ hc4) (asK [] Z) Z (H':=[]) Z ?_
 rintro _ _ _ ⟨rfl,rfl,rfl⟩
 refine wP Z ?_
 refine QG (d:=5) (S':=V3 ..) Z Z (fun hs5=>?_) (fun hs5=>?_)
 replace hm:=QI hm hs5
 refine wO Z (wO Z (wP Z (wP Z (wO Z (wO Z (wP Z (wP Z (Q4 (Q3 (Q2 [2] (S':=[_]) Z (Qo ?_)))))))))))
 have hE:=(Zi hm).symm
 replace hE:=hE.symm
 subst hE
 refine Qp (Hr:=[]) [] Tryz.results203 (Qg Z) ⟨Z,Z,Z⟩ (asK [] Z) Z Z (.inl Z)
 replace hm:=QH hm hs5
 refine wP Z ?_
 obtain ⟨v7,hc7,hm⟩:=Q6 hm
 refine wC [] [] Z fn_201 Z (Q4L N a0 _ hc7) (asK [] Z) Z (H':=[]) Z ?_
 rintro _ _ _ ⟨rfl,rfl,rfl⟩
 refine wP Z (wP Z ?_)
 obtain ⟨hpr9,hm⟩:=Qd hm
 refine Qs (d:=9) (v':=.bool false) (S':=V7 ..) Z Z (Qy hpr9) (wP Z (wP Z (wP Z (wP Z (Q4 (Q3 (Q2 [2] (S':=[_]) Z (Qo ?_))))))))
 have hE:=(Zi hm).symm
 replace hE:=hE.symm
 subst hE
 refine Qp (Hr:=[]) [] Tryz.results203 (Qg Z) ⟨Z,Z,Z⟩ (asK [] Z) Z Z (.inl Z)
theorem Q8R (N:Nat) (a0:ByteArray) (a1:Int) (o0:Int) (hm:Q6a N a0 a1 = some o0):Q17 Tryz.prog 199 [.string a0,.int .i64 a1] [] [] (fun v Φr Hr=>v = .int .i64 o0 ∧ Φr = [] ∧ Hr = []):=by
 unfold Q6a at hm
 refine QC Tryz.func199 Z Tryz.ntmps199 Z (S:=[_,_]) Z (fun C=>(Q5 (Q1 (wP Z (Q4 (Q3 (Q2 [0,1] (S':=[_,_]) Z (Q5 ?_))))))))
 obtain ⟨bj_1,hm,hLj_1⟩:=Q6 hm
 refine QM (σ:=Int) (fun j_1_1=>bj_1 = j_1_1) (fun j_1_1=>[(1,.int .i64 j_1_1)]) (fun j_1_1=>[]) (fun j_1_1=>[]) ?_ ?_
 refine Qw (Q1j (σ:=Nat × Int) (fun (nu1,u1_1)=>Q1h (Q6N N a0) nu1 u1_1 = some bj_1) (fun (nu1,u1_1)=>nu1) (fun (nu1,u1_1)=>[(0,.string a0),(1,.int .i64 u1_1)]) (fun (nu1,u1_1)=>[]) (fun (nu1,u1_1)=>[]) (N,a1) hm [0,1] Z (asK [] Z) Z (fun s_ hm=>?_))
 obtain ⟨nu1,u1_1⟩:=s_
 try dsimp only at hm ⊢
 obtain ⟨mu1,bu1,hnu1,hq,hLu1⟩:=QV hm
 clear hm
 subst hnu1
 replace hm:=hq
 clear hq
 unfold Q6N at hm
 try dsimp only at hm
 refine Q5 (Q5 (Q1 (wP Z (wP Z (Q1w Z Z Z Zq (Q4g Z Z Q7r) (wP Z (wP Z ?_)))))))
 obtain ⟨hpr9,hm⟩:=Qd hm
 refine Qs (d:=9) (v':=.bool true) (S':=V6 ..) Z Z (Qy hpr9) (wP Z (wP Z ?_))
 obtain ⟨hn12,hm⟩:=Qd hm
 obtain ⟨x12,hx12,hm⟩:=Q6 hm
 refine Q1w Z Z Z Zq (Q4V u1_1.toNat Z Z Z (Q1d hn12) hx12 Q7r) ?_
 obtain ⟨v13,hc13,hm⟩:=Q6 hm
 refine wC [] [] Z fn_203 Z (Q9r N ((x12.toNat:Nat):Int) _ hc13) (asK [] Z) Z (H':=[]) Z ?_
 rintro _ _ _ ⟨rfl,rfl,rfl⟩
 refine wP Z (Q4 (Q3 (Q2 [14,0,1] (S':=V3 ..) Z ?_)))
 refine Qt Z (fun hb14=>?_) (fun hb14=>?_)
 replace hm:=QI hm hb14
 refine Q2 [0,1] (S':=[_,_]) Z (Qr (Q3 (Qw (Q1 (wP Z (wP Z ?_))))))
 obtain ⟨hg16,hm⟩:=Qd hm
 refine Qs (d:=16) (v':=.int .i64 (u1_1 + 1)) (S':=V3 ..) Z Z (i64_in hg16) (QT (S':=V3 ..) Z Z Z Z Z (Q4 (Qf ?_)))
 have hE:=(Zi hm).symm
 replace hE:=QF hLu1 hE
 refine QU (_,u1_1 + 1) (Nat.lt_succ_self _) hE [0,1] Z (asK [] Z) Z
 replace hm:=QH hm hb14
 refine Q2 [1] (S':=[_]) Z (Q1g (Qj (Qj (QD ?_))))
 have hE:=(Zi hm).symm
 replace hE:=Qx hLu1 hE
 refine Qh u1_1 hE [1] Z (asK [] Z) Z
 rintro j_1_1 hE
 try dsimp only
 have hm:=hLj_1
 try rw [hE] at hm
 refine Q5 (Q1 (wP Z (wP Z (Q4 (Q3 (Q2 [4] (S':=[_]) Z (Qo ?_)))))))
 have hE:=(Zi hm).symm
 replace hE:=hE.symm
 subst hE
 refine Qp (Hr:=[]) [] Tryz.results199 (Qg Z) ⟨Z,Z,Z⟩ (asK [] Z) Z Z (.inl Z)
theorem Q8h (N:Nat)   (hm:Q5v N = some ()):Q17 Tryz.prog 220 [] [] [] (fun v Φr Hr=>∃ (o0:Nat),v = .slice (some ⟨o0,0,none⟩) 11 11 ∧ Φr = [] ∧ Hr = [.blk o0 [.string ((⟨#[102,97,99,116]⟩ : ByteArray)),.string ((⟨#[114,117,108,101]⟩ : ByteArray)),.string ((⟨#[115,97,108,105,101,110,99,101]⟩ : ByteArray)),.string ((⟨#[110,111,116]⟩ : ByteArray)),.string ((⟨#[116,101,115,116]⟩ : ByteArray)),.string ((⟨#[97,115,115,101,114,116]⟩ : ByteArray)),.string ((⟨#[114,101,116,114,97,99,116]⟩ : ByteArray)),.string ((⟨#[115,97,121]⟩ : ByteArray)),.string ((⟨#[104,97,108,116]⟩ : ByteArray)),.string ((⟨#[97,110,100]⟩ : ByteArray)),.string ((⟨#[111,114]⟩ : ByteArray))] 9]):=by
 unfold Q5v at hm
 refine QC Tryz.func220 Z Tryz.ntmps220 Z (S:=[]) Z (fun C=>(Q5 (Q1 (wP Z (Q4 (Q3 (Q2 [] (S':=[]) Z (Q5 (Q1 (QB Z Z Z Zq Z Q22 Q2e tZ_9 Z (zs:=[.string ((⟨#[]⟩ : ByteArray)),.string ((⟨#[]⟩ : ByteArray)),.string ((⟨#[]⟩ : ByteArray)),.string ((⟨#[]⟩ : ByteArray)),.string ((⟨#[]⟩ : ByteArray)),.string ((⟨#[]⟩ : ByteArray)),.string ((⟨#[]⟩ : ByteArray)),.string ((⟨#[]⟩ : ByteArray)),.string ((⟨#[]⟩ : ByteArray)),.string ((⟨#[]⟩ : ByteArray)),.string ((⟨#[]⟩ : ByteArray))]) (by kernel_rfl) Z (out:=[.string ((⟨#[102,97,99,116]⟩ : ByteArray)),.string ((⟨#[114,117,108,101]⟩ : ByteArray)),.string ((⟨#[115,97,108,105,101,110,99,101]⟩ : ByteArray)),.string ((⟨#[110,111,116]⟩ : ByteArray)),.string ((⟨#[116,101,115,116]⟩ : ByteArray)),.string ((⟨#[97,115,115,101,114,116]⟩ : ByteArray)),.string ((⟨#[114,101,116,114,97,99,116]⟩ : ByteArray)),.string ((⟨#[115,97,121]⟩ : ByteArray)),.string ((⟨#[104,97,108,116]⟩ : ByteArray)),.string ((⟨#[97,110,100]⟩ : ByteArray)),.string ((⟨#[111,114]⟩ : ByteArray))]) (by kernel_rfl) (fun g1=>(wP Z (Q4 (Q3 (Q2 [0] (S':=[_]) Z ?_)))))))))))))))
 refine Qo ?_
 have hE:=(Zi hm).symm
 refine Qp (Hr:=[_]) [0] Tryz.results220 (Qg Z) ⟨g1,Z,Z,Z⟩ (asK [] Z) Z Z (.inl Z)
theorem QbP (N:Nat) (a0:ByteArray) (o0:Bool) (hm:Q7u N a0 = some o0):Q17 Tryz.prog 200 [.string a0] [] [] (fun v Φr Hr=>v = .bool o0 ∧ Φr = [] ∧ Hr = []):=by
 unfold Q7u at hm
 refine QC Tryz.func200 Z Tryz.ntmps200 Z (S:=[_]) Z (fun C=>(Q5 (Q1 (wP Z (Q4 (Q3 (Q2 [0] (S':=[_]) Z (Q5 (Q1 ?_)))))))))
 obtain ⟨_,aC,hm⟩:=Q6 hm
 try dsimp only at hm
 refine wC [] [] Z fn_220 Z (Q8h N  aC) (asK [] Z) Z (H':=[]) Z ?_
 rintro _ _ _ ⟨a5,rfl,rfl,rfl⟩
 refine wP Z (Q4 (Q3 (Q2 [3,0] (S':=[_,_]) Z (Q5 ?_))))
 obtain ⟨a6,hm,hLj_1⟩:=Q1o hm
 refine QM (σ:=Unit) (fun _=>a6 = .inl ()) (fun _=>[]) (fun _=>[]) (fun _=>[]) ?_ ?_
 refine Q5 (Q1 (wP Z (Q4 (Q3 (Qw (wc_row (sz:=1) (m:=11) Q1u ([(⟨#[102,97,99,116]⟩ : ByteArray),(⟨#[114,117,108,101]⟩ : ByteArray),(⟨#[115,97,108,105,101,110,99,101]⟩ : ByteArray),(⟨#[110,111,116]⟩ : ByteArray),(⟨#[116,101,115,116]⟩ : ByteArray),(⟨#[97,115,115,101,114,116]⟩ : ByteArray),(⟨#[114,101,116,114,97,99,116]⟩ : ByteArray),(⟨#[115,97,121]⟩ : ByteArray),(⟨#[104,97,108,116]⟩ : ByteArray),(⟨#[97,110,100]⟩ : ByteArray),(⟨#[111,114]⟩ : ByteArray)]) 0 Z (fun F w hφ=>⟨[.string ((⟨#[102,97,99,116]⟩ : ByteArray))],[.string ((⟨#[114,117,108,101]⟩ : ByteArray)),.string ((⟨#[115,97,108,105,101,110,99,101]⟩ : ByteArray)),.string ((⟨#[110,111,116]⟩ : ByteArray)),.string ((⟨#[116,101,115,116]⟩ : ByteArray)),.string ((⟨#[97,115,115,101,114,116]⟩ : ByteArray)),.string ((⟨#[114,101,116,114,97,99,116]⟩ : ByteArray)),.string ((⟨#[115,97,121]⟩ : ByteArray)),.string ((⟨#[104,97,108,116]⟩ : ByteArray)),.string ((⟨#[97,110,100]⟩ : ByteArray)),.string ((⟨#[111,114]⟩ : ByteArray))],Z,Z,⟨(),Z,Qu⟩,⟨[.string ((⟨#[114,117,108,101]⟩ : ByteArray))],[.string ((⟨#[115,97,108,105,101,110,99,101]⟩ : ByteArray)),.string ((⟨#[110,111,116]⟩ : ByteArray)),.string ((⟨#[116,101,115,116]⟩ : ByteArray)),.string ((⟨#[97,115,115,101,114,116]⟩ : ByteArray)),.string ((⟨#[114,101,116,114,97,99,116]⟩ : ByteArray)),.string ((⟨#[115,97,121]⟩ : ByteArray)),.string ((⟨#[104,97,108,116]⟩ : ByteArray)),.string ((⟨#[97,110,100]⟩ : ByteArray)),.string ((⟨#[111,114]⟩ : ByteArray))],Z,Z,⟨(),Z,Qu⟩,⟨[.string ((⟨#[115,97,108,105,101,110,99,101]⟩ : ByteArray))],[.string ((⟨#[110,111,116]⟩ : ByteArray)),.string ((⟨#[116,101,115,116]⟩ : ByteArray)),.string ((⟨#[97,115,115,101,114,116]⟩ : ByteArray)),.string ((⟨#[114,101,116,114,97,99,116]⟩ : ByteArray)),.string ((⟨#[115,97,121]⟩ : ByteArray)),.string ((⟨#[104,97,108,116]⟩ : ByteArray)),.string ((⟨#[97,110,100]⟩ : ByteArray)),.string ((⟨#[111,114]⟩ : ByteArray))],Z,Z,⟨(),Z,Qu⟩,⟨[.string ((⟨#[110,111,116]⟩ : ByteArray))],[.string ((⟨#[116,101,115,116]⟩ : ByteArray)),.string ((⟨#[97,115,115,101,114,116]⟩ : ByteArray)),.string ((⟨#[114,101,116,114,97,99,116]⟩ : ByteArray)),.string ((⟨#[115,97,121]⟩ : ByteArray)),.string ((⟨#[104,97,108,116]⟩ : ByteArray)),.string ((⟨#[97,110,100]⟩ : ByteArray)),.string ((⟨#[111,114]⟩ : ByteArray))],Z,Z,⟨(),Z,Qu⟩,⟨[.string ((⟨#[116,101,115,116]⟩ : ByteArray))],[.string ((⟨#[97,115,115,101,114,116]⟩ : ByteArray)),.string ((⟨#[114,101,116,114,97,99,116]⟩ : ByteArray)),.string ((⟨#[115,97,121]⟩ : ByteArray)),.string ((⟨#[104,97,108,116]⟩ : ByteArray)),.string ((⟨#[97,110,100]⟩ : ByteArray)),.string ((⟨#[111,114]⟩ : ByteArray))],Z,Z,⟨(),Z,Qu⟩,⟨[.string ((⟨#[97,115,115,101,114,116]⟩ : ByteArray))],[.string ((⟨#[114,101,116,114,97,99,116]⟩ : ByteArray)),.string ((⟨#[115,97,121]⟩ : ByteArray)),.string ((⟨#[104,97,108,116]⟩ : ByteArray)),.string ((⟨#[97,110,100]⟩ : ByteArray)),.string ((⟨#[111,114]⟩ : ByteArray))],Z,Z,⟨(),Z,Qu⟩,⟨[.string ((⟨#[114,101,116,114,97,99,116]⟩ : ByteArray))],[.string ((⟨#[115,97,121]⟩ : ByteArray)),.string ((⟨#[104,97,108,116]⟩ : ByteArray)),.string ((⟨#[97,110,100]⟩ : ByteArray)),.string ((⟨#[111,114]⟩ : ByteArray))],Z,Z,⟨(),Z,Qu⟩,⟨[.string ((⟨#[115,97,121]⟩ : ByteArray))],[.string ((⟨#[104,97,108,116]⟩ : ByteArray)),.string ((⟨#[97,110,100]⟩ : ByteArray)),.string ((⟨#[111,114]⟩ : ByteArray))],Z,Z,⟨(),Z,Qu⟩,⟨[.string ((⟨#[104,97,108,116]⟩ : ByteArray))],[.string ((⟨#[97,110,100]⟩ : ByteArray)),.string ((⟨#[111,114]⟩ : ByteArray))],Z,Z,⟨(),Z,Qu⟩,⟨[.string ((⟨#[97,110,100]⟩ : ByteArray))],[.string ((⟨#[111,114]⟩ : ByteArray))],Z,Z,⟨(),Z,Qu⟩,⟨[.string ((⟨#[111,114]⟩ : ByteArray))],[],Z,Z,⟨(),Z,Qu⟩,Z⟩⟩⟩⟩⟩⟩⟩⟩⟩⟩⟩) Z (by decide) (H':=[_]) Z (Q1j (σ:=Nat × Nat) (fun (z,s)=>Q1h (Q6l N a0) z s = some a6) (fun (z,s)=>z) (fun (z,s)=>[(4,.int .i64 ((s:Nat):Int)),(3,.slice (some ⟨a5,0,none⟩) ([(⟨#[102,97,99,116]⟩ : ByteArray),(⟨#[114,117,108,101]⟩ : ByteArray),(⟨#[115,97,108,105,101,110,99,101]⟩ : ByteArray),(⟨#[110,111,116]⟩ : ByteArray),(⟨#[116,101,115,116]⟩ : ByteArray),(⟨#[97,115,115,101,114,116]⟩ : ByteArray),(⟨#[114,101,116,114,97,99,116]⟩ : ByteArray),(⟨#[115,97,121]⟩ : ByteArray),(⟨#[104,97,108,116]⟩ : ByteArray),(⟨#[97,110,100]⟩ : ByteArray),(⟨#[111,114]⟩ : ByteArray)].length) 11),(0,.string a0)]) (fun (z,s)=>[]) (fun (z,s)=>[.own 9 1 Q1u (.slice (some ⟨a5,0,none⟩) ([(⟨#[102,97,99,116]⟩ : ByteArray),(⟨#[114,117,108,101]⟩ : ByteArray),(⟨#[115,97,108,105,101,110,99,101]⟩ : ByteArray),(⟨#[110,111,116]⟩ : ByteArray),(⟨#[116,101,115,116]⟩ : ByteArray),(⟨#[97,115,115,101,114,116]⟩ : ByteArray),(⟨#[114,101,116,114,97,99,116]⟩ : ByteArray),(⟨#[115,97,121]⟩ : ByteArray),(⟨#[104,97,108,116]⟩ : ByteArray),(⟨#[97,110,100]⟩ : ByteArray),(⟨#[111,114]⟩ : ByteArray)].length) 11) ([(⟨#[102,97,99,116]⟩ : ByteArray),(⟨#[114,117,108,101]⟩ : ByteArray),(⟨#[115,97,108,105,101,110,99,101]⟩ : ByteArray),(⟨#[110,111,116]⟩ : ByteArray),(⟨#[116,101,115,116]⟩ : ByteArray),(⟨#[97,115,115,101,114,116]⟩ : ByteArray),(⟨#[114,101,116,114,97,99,116]⟩ : ByteArray),(⟨#[115,97,121]⟩ : ByteArray),(⟨#[104,97,108,116]⟩ : ByteArray),(⟨#[97,110,100]⟩ : ByteArray),(⟨#[111,114]⟩ : ByteArray)])]) (N,0) hm [4,3,0] Z (asK [] Z) Z (fun s_ hm=>?_))))))))
 obtain ⟨z,s⟩:=s_
 try dsimp only at hm ⊢
 obtain ⟨aF,aG,a9,hq,hLu1⟩:=QV hm
 clear hm
 subst a9
 replace hm:=hq
 clear hq
 unfold Q6l at hm
 try dsimp only at hm
 refine Q5 (Q5 (Q1 (wP Z (wP Z (wN Z Q22 (wP Z (Qs (d:=9) (v':=.bool (decide (s < ([(⟨#[102,97,99,116]⟩ : ByteArray),(⟨#[114,117,108,101]⟩ : ByteArray),(⟨#[115,97,108,105,101,110,99,101]⟩ : ByteArray),(⟨#[110,111,116]⟩ : ByteArray),(⟨#[116,101,115,116]⟩ : ByteArray),(⟨#[97,115,115,101,114,116]⟩ : ByteArray),(⟨#[114,101,116,114,97,99,116]⟩ : ByteArray),(⟨#[115,97,121]⟩ : ByteArray),(⟨#[104,97,108,116]⟩ : ByteArray),(⟨#[97,110,100]⟩ : ByteArray),(⟨#[111,114]⟩ : ByteArray)].length)))) (S':=V6 ..) Z Z (Q2l (a:=s) (b:=[(⟨#[102,97,99,116]⟩ : ByteArray),(⟨#[114,117,108,101]⟩ : ByteArray),(⟨#[115,97,108,105,101,110,99,101]⟩ : ByteArray),(⟨#[110,111,116]⟩ : ByteArray),(⟨#[116,101,115,116]⟩ : ByteArray),(⟨#[97,115,115,101,114,116]⟩ : ByteArray),(⟨#[114,101,116,114,97,99,116]⟩ : ByteArray),(⟨#[115,97,121]⟩ : ByteArray),(⟨#[104,97,108,116]⟩ : ByteArray),(⟨#[97,110,100]⟩ : ByteArray),(⟨#[111,114]⟩ : ByteArray)].length)) (Q4 (Q3 (Q2 [9,4,3,0] (S':=V4 ..) Z ?_))))))))))
 refine Qt Z (fun a8=>?_) (fun a8=>?_)
 replace hm:=QI hm a8
 refine Q2 [4,3,0] (S':=V3 ..) Z (Qr (Q3 (Q5 (Qw (Q5 (Q1 (wP Z (wP Z ?_))))))))
 obtain ⟨aD,a7,hm⟩:=Q6 hm
 refine Q8j 0 s Z Z Z Zq Z Z Z Z Z (Q2Y a7) Q22 Q2e (Q29 Q6A 0 s 0 Z Z Z Zq Z Z Z a7 Q2e Q3O (v:=fun _=>.string aD) (fun _=>Z) (fun _=>Z) (fun _ _=>(wP Z (wP Z (Q4 (Q3 (Q2 [17,4,3,0] (S':=V4 ..) Z ?_)))))))
 refine Qt Z (fun a1=>?_) (fun a1=>?_)
 replace hm:=QI hm a1
 refine Q2 [] (S':=[]) Z (Q5 (Q1 (wP Z (Q4 (Q3 (Qo (Qk (Q9 (Q9 (Qk (Q9 ?_)))))))))))
 have hE:=(Zi hm).symm
 replace hE:=Qx hLu1 hE
 replace hE:=Qx hLj_1 hE
 replace hE:=hE.symm
 subst hE
 refine Qp (Hr:=[]) [] Tryz.results200 (Qg Z) ⟨Z,Z,Z⟩ (asK [] Z) Z Z (.inl Z)
 replace hm:=QH hm a1
 refine Q2 [4,3,0] (S':=V3 ..) Z (Qr (Qf (Q3 (Q1 (wP Z (wP Z ?_))))))
 obtain ⟨aA,hm⟩:=Qd hm
 refine Qs (d:=11) (v':=.int .i64 ((s + 1:Nat):Int)) (S':=V4 ..) Z Z (Q1r (a:=s) (b:=1) aA) (QT (S':=V4 ..) Z Z Z Z Z (Q4 ?_))
 have hE:=(Zi hm).symm
 replace hE:=QF hLu1 hE
 refine QU (_,s + 1) (Nat.lt_succ_self _) hE [4,3,0] Z (asK [] Z) Z
 replace hm:=QH hm a8
 refine Q2 [] (S':=[]) Z (Q1g (Qj (Qj (QD ?_))))
 have hE:=(Zi hm).symm
 replace hE:=Qx hLu1 hE
 refine QE [] Z (H':=[]) Z ?_
 refine Qh () hE [] Z (asK [] Z) Z
 rintro _ hE
 try dsimp only
 have hm:=QF hLj_1 hE
 try dsimp only at hm
 refine Q5 (Q1 (wP Z (Q4 (Q3 (Qo ?_)))))
 have hE:=(Zi hm).symm
 replace hE:=hE.symm
 subst hE
 refine Qp (Hr:=[]) [] Tryz.results200 (Qg Z) ⟨Z,Z,Z⟩ (asK [] Z) Z Z (.inl Z)
theorem Q6z (N:Nat) (a0:ByteArray) (o0:Bool) (hm:Q2r N a0 = some o0):Q17 Tryz.prog 70 [.string a0] [] [] (fun v Φr Hr=>v = .bool o0 ∧ Φr = [] ∧ Hr = []):=by
 unfold Q2r at hm
 refine QC Tryz.func70 Z Tryz.ntmps70 Z (S:=[_]) Z (fun C=>(Q5 (Q1 (wP Z (Q4 (Q3 (Q2 [0] (S':=[_]) Z (Q5 ?_))))))))
 obtain ⟨aF,hm,hLj_1⟩:=Q1o hm
 refine QM (σ:=Unit) (fun _=>aF = .inl ()) (fun _=>[(0,.string a0)]) (fun _=>[]) (fun _=>[]) ?_ ?_
 refine Q5 (Q1 (wP Z (Q4 (Q3 (Qw (Q1j (σ:=Nat × Nat) (fun (a6,s)=>Q1h (Q3e N a0) a6 s = some aF) (fun (a6,s)=>a6) (fun (a6,s)=>[(3,.int .i64 ((s:Nat):Int)),(0,.string a0)]) (fun (a6,s)=>[]) (fun (a6,s)=>[]) (N,0) hm [3,0] Z (asK [] Z) Z (fun s_ hm=>?_)))))))
 obtain ⟨a6,s⟩:=s_
 try dsimp only at hm ⊢
 obtain ⟨aN,aO,aH,hq,hLu1⟩:=QV hm
 clear hm
 subst aH
 replace hm:=hq
 clear hq
 unfold Q3e at hm
 try dsimp only at hm
 refine Q5 (Q5 (Q1 (wP Z (wP Z (Q1w Z Z Z Zq (Q4g Z Z Q7r) (wP Z (Qs (d:=9) (v':=.bool (decide (s < a0.size))) (S':=V5 ..) Z Z (Q2l (a:=s) (b:=a0.size)) (Q4 (Q3 (Q2 [9,3,0] (S':=V3 ..) Z ?_))))))))))
 refine Qt Z (fun aG=>?_) (fun aG=>?_)
 replace hm:=QI hm aG
 refine Q2 [3,0] (S':=[_,_]) Z (Qr (Q3 (Q5 (Qw (Q5 (Q1 (wP Z (wP Z ?_))))))))
 obtain ⟨a1,aI,hm⟩:=Q6 hm
 refine Q1w Z Z Z Zq (Q4V s Z Z Z Z aI Q7r) (wP Z (Q4 (Q3 (Q2 [4,3,0] (S':=V3 ..) Z (Q5 ?_)))))
 obtain ⟨aJ,hm,hLj_2⟩:=Q6 hm
 refine QM (σ:=Bool) (fun a5=>aJ = a5) (fun a5=>[(4,.int .u8 ((a1.toNat:Nat):Int)),(3,.int .i64 ((s:Nat):Int)),(0,.string a0),(5,.bool a5)]) (fun a5=>[]) (fun a5=>[]) ?_ ?_
 refine Q1 (wP Z (wP Z (Qs (d:=16) (v':=.bool (decide (97 ≤ a1.toNat))) (S':=V4 ..) Z Z (natge (a:=a1.toNat) (b:=97)) (wP Z ?_))))
 refine QG (d:=17) (S':=V5 ..) Z Z (fun a8=>?_) (fun a8=>?_)
 replace hm:=QI hm a8
 refine wP Z (wP Z (Qs (d:=19) (v':=.bool (decide (a1.toNat ≤ 122))) (S':=V7 ..) Z Z (natle (a:=a1.toNat) (b:=122)) (wP Z (wP Z (Q4 ?_)))))
 have hE:=(Zi hm).symm
 refine Qh (decide (a1.toNat ≤ 122)) hE [4,3,0,5] Z (asK [] Z) Z
 replace hm:=QH hm a8
 refine wO Z (wO Z (wP Z (wP Z (Q4 ?_))))
 have hE:=(Zi hm).symm
 refine Qh false hE [4,3,0,5] Z (asK [] Z) Z
 rintro a5 hE
 try dsimp only
 have hm:=hLj_2
 try rw [hE] at hm
 refine Q5 ?_
 obtain ⟨aK,hm,hLj_3⟩:=Q6 hm
 unfold Q4l at hm
 refine QM (σ:=Bool) (fun z=>aK = z) (fun z=>[(3,.int .i64 ((s:Nat):Int)),(0,.string a0),(39,.bool z)]) (fun z=>[]) (fun z=>[]) ?_ ?_
 refine Q1 (wP Z (wP Z (wP Z ?_)))
 refine QG (d:=23) (S':=V6 ..) Z Z (fun a9=>?_) (fun a9=>?_)
 replace hm:=QI hm a9
 refine wP Z (wP Z (Qs (d:=25) (v':=.bool (s == 0)) (S':=V8 ..) Z Z (Q4J (a:=s) (b:=0)) (wP Z ?_)))
 refine QG (d:=26) (S':=V9 ..) Z Z (fun aA=>?_) (fun aA=>?_)
 replace hm:=QI hm aA
 refine wO Z (wO Z (wO Z (wO Z (wO Z (wO Z (wO Z (wO Z (wO Z (wO Z (wO Z (wP Z (wP Z (Q4 ?_)))))))))))))
 have hE:=(Zi hm).symm
 refine Qh true hE [3,0,39] Z (asK [] Z) Z
 replace hm:=QH hm aA
 refine wP Z (wP Z (Qs (d:=28) (v':=.bool (decide (48 ≤ a1.toNat))) (S':=V11 ..) Z Z (natge (a:=a1.toNat) (b:=48)) (wP Z ?_)))
 refine QG (d:=29) (S':=V12 ..) Z Z (fun aB=>?_) (fun aB=>?_)
 replace hm:=QI hm aB
 refine wP Z (wP Z (Qs (d:=31) (v':=.bool (decide (a1.toNat ≤ 57))) (S':=V14 ..) Z Z (natle (a:=a1.toNat) (b:=57)) (wP Z (wP Z ?_))))
 refine QG (d:=33) (S':=V16 ..) Z Z (fun aC=>?_) (fun aC=>?_)
 replace hm:=QI hm aC
 refine wO Z (wO Z (wP Z (wP Z (wP Z (wP Z (Q4 ?_))))))
 have hE:=(Zi hm).symm
 refine Qh false hE [3,0,39] Z (asK [] Z) Z
 replace hm:=QH hm aC
 refine wP Z (wP Z (Qs (d:=35) (v':=.bool (a1.toNat == 95)) (S':=V18 ..) Z Z (Q4J (a:=a1.toNat) (b:=95)) (wP Z (wP Z (wP Z (wP Z (Q4 ?_)))))))
 have hE:=(Zi hm).symm
 refine Qh (!(a1.toNat == 95)) hE [3,0,39] Z (asK [] Z) Z
 replace hm:=QH hm aB
 refine wO Z (wO Z (wP Z (wP Z (wP Z (wP Z (Qs (d:=35) (v':=.bool (a1.toNat == 95)) (S':=V18 ..) Z Z (Q4J (a:=a1.toNat) (b:=95)) (wP Z (wP Z (wP Z (wP Z (Q4 ?_)))))))))))
 have hE:=(Zi hm).symm
 refine Qh (!(a1.toNat == 95)) hE [3,0,39] Z (asK [] Z) Z
 replace hm:=QH hm a9
 refine wO Z (wO Z (wO Z (wO Z (wO Z (wO Z (wO Z (wO Z (wO Z (wO Z (wO Z (wO Z (wO Z (wO Z ?_)))))))))))))
 refine wO Z (wP Z (Q4 ?_))
 have hE:=(Zi hm).symm
 refine Qh false hE [3,0,39] Z (asK [] Z) Z
 rintro z hE
 try dsimp only
 have hm:=hLj_3
 try rw [hE] at hm
 refine Qt Z (fun aD=>?_) (fun aD=>?_)
 replace hm:=QI hm aD
 refine Q2 [] (S':=[]) Z (Q5 (Q1 (wP Z (Q4 (Q3 (Qo (Qk (Q9 (Q9 (Qk (Q9 ?_)))))))))))
 have hE:=(Zi hm).symm
 replace hE:=Qx hLu1 hE
 replace hE:=Qx hLj_1 hE
 replace hE:=hE.symm
 subst hE
 refine Qp (Hr:=[]) [] Tryz.results70 (Qg Z) ⟨Z,Z,Z⟩ (asK [] Z) Z Z (.inl Z)
 replace hm:=QH hm aD
 refine Q2 [3,0] (S':=[_,_]) Z (Qr (Qf (Q3 (Q1 (wP Z (wP Z ?_))))))
 obtain ⟨aL,hm⟩:=Qd hm
 refine Qs (d:=11) (v':=.int .i64 ((s + 1:Nat):Int)) (S':=V3 ..) Z Z (Q1r (a:=s) (b:=1) aL) (QT (S':=V3 ..) Z Z Z Z Z (Q4 ?_))
 have hE:=(Zi hm).symm
 replace hE:=QF hLu1 hE
 refine QU (_,s + 1) (Nat.lt_succ_self _) hE [3,0] Z (asK [] Z) Z
 replace hm:=QH hm aG
 refine Q2 [0] (S':=[_]) Z (Q1g (Qj (Qj (QD ?_))))
 have hE:=(Zi hm).symm
 replace hE:=Qx hLu1 hE
 refine Qh () hE [0] Z (asK [] Z) Z
 rintro _ hE
 try dsimp only
 have hm:=QF hLj_1 hE
 try dsimp only at hm
 refine Q5 (Q1 (wP Z (Q1w Z Z Z Zq (Q4g Z Z Q7r) (wP Z (Qs (d:=42) (v':=.bool (decide (1 ≤ a0.size))) (S':=V3 ..) Z Z (natge (a:=a0.size) (b:=1)) (wP Z ?_))))))
 refine QG (d:=43) (S':=V4 ..) Z Z (fun aE=>?_) (fun aE=>?_)
 replace hm:=QI hm aE
 refine wP Z (Q1w Z Z Z Zq (Q4g Z Z Q7r) (wP Z (Qs (d:=46) (v':=.bool (decide (a0.size ≤ 24))) (S':=V7 ..) Z Z (natle (a:=a0.size) (b:=24)) (wP Z (wP Z (Q4 (Q3 (Q2 [2] (S':=[_]) Z (Qo ?_)))))))))
 have hE:=(Zi hm).symm
 replace hE:=hE.symm
 subst hE
 refine Qp (Hr:=[]) [] Tryz.results70 (Qg Z) ⟨Z,Z,Z⟩ (asK [] Z) Z Z (.inl Z)
 replace hm:=QH hm aE
 refine wO Z (wO Z (wO Z (wP Z (wP Z (Q4 (Q3 (Q2 [2] (S':=[_]) Z (Qo ?_))))))))
 have hE:=(Zi hm).symm
 replace hE:=hE.symm
 subst hE
 refine Qp (Hr:=[]) [] Tryz.results70 (Qg Z) ⟨Z,Z,Z⟩ (asK [] Z) Z Z (.inl Z)
theorem Q4p (N:Nat) (a0:ByteArray) (o0:Int) (hm:Q30 N a0 = some o0):Q17 Tryz.prog 202 [.string a0] [] [] (fun v Φr Hr=>v = .tuple #[.int .i64 o0,.bool (!(a0.toList == (⟨#[]⟩ : ByteArray).toList))] ∧ Φr = [] ∧ Hr = []):=by
 unfold Q30 at hm
 refine QC Tryz.func202 Z Tryz.ntmps202 Z (S:=[_]) Z (fun C=>(Q5 (Q1 (wP Z (wP Z (Q4 (Q3 (Q2 [0] (S':=[_]) Z (Q5 (Q1 (wP Z (Q4 (Q3 (Q5 ?_))))))))))))))
 obtain ⟨a8,hm,hLj_1⟩:=Q6 hm
 refine QM (σ:=Int) (fun a1=>a8 = a1) (fun a1=>[(0,.string a0),(4,.int .i64 a1)]) (fun a1=>[]) (fun a1=>[]) ?_ ?_
 refine Q5 (Q1 (wP Z (Q4 (Q3 (Qw (Q1j (σ:=Nat × Nat × Int) (fun (a5,s,z)=>Q1h (Q5z N a0) a5 (s,z) = some a8) (fun (a5,s,z)=>a5) (fun (a5,s,z)=>[(5,.int .i64 ((s:Nat):Int)),(4,.int .i64 z),(0,.string a0)]) (fun (a5,s,z)=>[]) (fun (a5,s,z)=>[]) (N,0,0) hm [5,4,0] Z (asK [] Z) Z (fun s_ hm=>?_)))))))
 obtain ⟨a5,s,z⟩:=s_
 try dsimp only at hm ⊢
 obtain ⟨aM,aN,aC,hq,hLu1⟩:=QV hm
 clear hm
 subst aC
 replace hm:=hq
 clear hq
 unfold Q5z at hm
 try dsimp only at hm
 refine Q5 (Q5 (Q1 (wP Z (wP Z (Q1w Z Z Z Zq (Q4g Z Z Q7r) (wP Z (Qs (d:=10) (v':=.bool (decide (s < a0.size))) (S':=V6 ..) Z Z (Q2l (a:=s) (b:=a0.size)) (Q4 (Q3 (Q2 [10,5,4,0] (S':=V4 ..) Z ?_))))))))))
 refine Qt Z (fun a6=>?_) (fun a6=>?_)
 replace hm:=QI hm a6
 refine Q2 [5,4,0] (S':=V3 ..) Z (Qr (Q3 (Q5 (Qw (Q5 (Q5 (Q1 (wP Z (wP Z ?_)))))))))
 obtain ⟨aK,aD,hm⟩:=Q6 hm
 refine Q1w Z Z Z Zq (Q4V s Z Z Z Z aD Q7r) ?_
 obtain ⟨aO,aE,hm⟩:=Q6 hm
 refine wC [] [] Z fn_201 Z (Q4L N ((aK.toNat:Nat):Int) _ aE) (asK [] Z) Z (H':=[]) Z ?_
 rintro _ _ _ ⟨rfl,rfl,rfl⟩
 refine wP Z ?_
 obtain ⟨a9,hm⟩:=Qd hm
 refine Qs (d:=17) (v':=.bool false) (S':=V7 ..) Z Z (Qy a9) (Q4 (Q3 (Q2 [17,5,4,0] (S':=V4 ..) Z (Q1l Z (Q2 [5,4,0] (S':=V3 ..) Z (Qr (Q3 (Q5 (Q1 (wP Z (wP Z ?_)))))))))))
 obtain ⟨aA,aF,hm⟩:=Q6 hm
 refine Q1w Z Z Z Zq (Q4V s Z Z Z Z aF Q7r) (wP Z (Q1w Z Z Z Zq (Qbz Z Z tI_5 tI_2) (wP Z (Q4 (Q3 (Q2 [6,5,4,0] (S':=V4 ..) Z (Q5 (Q5 (Q1 (wP Z (wP Z (wP Z ?_))))))))))))
 obtain ⟨aG,hm⟩:=Qd hm
 refine Qs (d:=25) (v':=.int .i64 (9223372036854775807 - (IntKind.wrap .i64 (IntKind.wrap .u8 (((aA.toNat:Nat):Int) - 48))))) (S':=V6 ..) Z Z (i64_in aG) (Q8E Z Z Z Zq Z Z Z (run_quo (by decide)) (wP Z ?_))
 obtain ⟨aB,hm⟩:=Qd hm
 refine Qs (d:=27) (v':=.bool false) (S':=V8 ..) Z Z (Qy aB) (Q4 (Q3 (Q2 [27,6,5,4,0] (S':=V5 ..) Z (Q1l Z (Q2 [6,5,4,0] (S':=V4 ..) Z (Qr (Q3 (Q1 (wP Z (wP Z ?_))))))))))
 obtain ⟨aH,hm⟩:=Qd hm
 refine Qs (d:=29) (v':=.int .i64 (10 * z)) (S':=V5 ..) Z Z (i64_in aH) (wP Z (wP Z ?_))
 obtain ⟨aI,hm⟩:=Qd hm
 refine Qs (d:=31) (v':=.int .i64 ((10 * z) + (IntKind.wrap .i64 (IntKind.wrap .u8 (((aA.toNat:Nat):Int) - 48))))) (S':=V7 ..) Z Z (i64_in aI) (QT (S':=V7 ..) Z Z Z Z Z (Q4 (Qf (Q3 (Q2 [4,5,0] (S':=V3 ..) Z (Q1 (wP Z (wP Z ?_))))))))
 obtain ⟨aJ,hm⟩:=Qd hm
 refine Qs (d:=12) (v':=.int .i64 ((s + 1:Nat):Int)) (S':=V4 ..) Z Z (Q1r (a:=s) (b:=1) aJ) (QT (S':=V4 ..) Z Z Z Z Z (Q4 ?_))
 have hE:=(Zi hm).symm
 replace hE:=QF hLu1 hE
 refine QU (_,s + 1,((10 * z) + (IntKind.wrap .i64 (IntKind.wrap .u8 (((aA.toNat:Nat):Int) - 48))))) (Nat.lt_succ_self _) hE [5,4,0] Z (asK [] Z) Z
 replace hm:=QH hm a6
 refine Q2 [4,0] (S':=[_,_]) Z (Q1g (Qj (Qj (QD ?_))))
 have hE:=(Zi hm).symm
 replace hE:=Qx hLu1 hE
 refine Qh z hE [0,4] Z (asK [] Z) Z
 rintro a1 hE
 try dsimp only
 have hm:=hLj_1
 try rw [hE] at hm
 refine Q5 (Q1 (wP Z (wP Z (wP Z (wP Z (wP Z (Q4 (Q3 (Q2 [3,2] (S':=[_,_]) Z (Qo ?_))))))))))
 have hE:=(Zi hm).symm
 replace hE:=hE.symm
 subst hE
 refine Q1D (Hr:=[]) [] Tryz.results202 (Qg Z) (Qg Z) ⟨Z,Z,Z⟩ (asK [] Z) Z Z (.inl Z)
theorem Qbf (N:Nat)   (hm:Q7e N = some ()):Q17 Tryz.prog 204 [] [] [] (fun v Φr Hr=>∃ (o0:Nat),v = .slice (some ⟨o0,0,none⟩) 17 17 ∧ Φr = [] ∧ Hr = [.blk o0 [.string ((⟨#[61,62]⟩ : ByteArray)),.string ((⟨#[33,61]⟩ : ByteArray)),.string ((⟨#[60,61]⟩ : ByteArray)),.string ((⟨#[62,61]⟩ : ByteArray)),.string ((⟨#[40]⟩ : ByteArray)),.string ((⟨#[41]⟩ : ByteArray)),.string ((⟨#[123]⟩ : ByteArray)),.string ((⟨#[125]⟩ : ByteArray)),.string ((⟨#[44]⟩ : ByteArray)),.string ((⟨#[59]⟩ : ByteArray)),.string ((⟨#[61]⟩ : ByteArray)),.string ((⟨#[60]⟩ : ByteArray)),.string ((⟨#[62]⟩ : ByteArray)),.string ((⟨#[43]⟩ : ByteArray)),.string ((⟨#[45]⟩ : ByteArray)),.string ((⟨#[42]⟩ : ByteArray)),.string ((⟨#[95]⟩ : ByteArray))] 9]):=by
 unfold Q7e at hm
 refine QC Tryz.func204 Z Tryz.ntmps204 Z (S:=[]) Z (fun C=>(Q5 (Q1 (wP Z (Q4 (Q3 (Q2 [] (S':=[]) Z (Q5 (Q1 (QB Z Z Z Zq Z Q22 Q2e tZ_9 Z (zs:=[.string ((⟨#[]⟩ : ByteArray)),.string ((⟨#[]⟩ : ByteArray)),.string ((⟨#[]⟩ : ByteArray)),.string ((⟨#[]⟩ : ByteArray)),.string ((⟨#[]⟩ : ByteArray)),.string ((⟨#[]⟩ : ByteArray)),.string ((⟨#[]⟩ : ByteArray)),.string ((⟨#[]⟩ : ByteArray)),.string ((⟨#[]⟩ : ByteArray)),.string ((⟨#[]⟩ : ByteArray)),.string ((⟨#[]⟩ : ByteArray)),.string ((⟨#[]⟩ : ByteArray)),.string ((⟨#[]⟩ : ByteArray)),.string ((⟨#[]⟩ : ByteArray)),.string ((⟨#[]⟩ : ByteArray)),.string ((⟨#[]⟩ : ByteArray)),.string ((⟨#[]⟩ : ByteArray))]) (by kernel_rfl) Z (out:=[.string ((⟨#[61,62]⟩ : ByteArray)),.string ((⟨#[33,61]⟩ : ByteArray)),.string ((⟨#[60,61]⟩ : ByteArray)),.string ((⟨#[62,61]⟩ : ByteArray)),.string ((⟨#[40]⟩ : ByteArray)),.string ((⟨#[41]⟩ : ByteArray)),.string ((⟨#[123]⟩ : ByteArray)),.string ((⟨#[125]⟩ : ByteArray)),.string ((⟨#[44]⟩ : ByteArray)),.string ((⟨#[59]⟩ : ByteArray)),.string ((⟨#[61]⟩ : ByteArray)),.string ((⟨#[60]⟩ : ByteArray)),.string ((⟨#[62]⟩ : ByteArray)),.string ((⟨#[43]⟩ : ByteArray)),.string ((⟨#[45]⟩ : ByteArray)),.string ((⟨#[42]⟩ : ByteArray)),.string ((⟨#[95]⟩ : ByteArray))]) (by kernel_rfl) (fun g1=>(wP Z (Q4 (Q3 (Q2 [0] (S':=[_]) Z ?_)))))))))))))))
 refine Qo ?_
 have hE:=(Zi hm).symm
 refine Qp (Hr:=[_]) [0] Tryz.results204 (Qg Z) ⟨g1,Z,Z,Z⟩ (asK [] Z) Z Z (.inl Z)
theorem Qbg (N:Nat) (a0:ByteArray) (a1:Int) (o0:Nat) (o1:ByteArray) (o2:Int) (hm:Q7f N a0 a1 = some (o0,o1,o2)):Q17 Tryz.prog 160 [.string a0,.int .i64 a1] [] [] (fun v Φr Hr=>v = .tuple #[.agg #[.int .u8 ((o0:Nat):Int),.string o1,.int .i64 a1],.int .i64 o2,.int .i64 0] ∧ Φr = [] ∧ Hr = []):=by
 unfold Q7f at hm
 refine QC Tryz.func160 Z Tryz.ntmps160 Z (S:=[_,_]) Z (fun C=>(Q5 (Q1 (QK Z Z Z Zq Z Q7U Z (fun g4=>(wP Z (wP Z (Q4 (Q3 (Q2 [4,0,1] (S':=V3 ..) Z (Q5 (Q1 (wP Z (wP Z ?_))))))))))))))
 obtain ⟨bO,hm⟩:=Qd hm
 obtain ⟨aB,bP,hm⟩:=Q6 hm
 refine Q1w Z Z Z Zq (Q4V a1.toNat Z Z Z (Q1d bO) bP Q7r) (wP Z (Q4 (Q3 (Q2 [7,4,0,1] (S':=V4 ..) Z (Q5 (Qw (Q5 (Q1 (wP Z ?_)))))))))
 obtain ⟨cI,bQ,hm⟩:=Q6 hm
 refine wC [] [0] Z fn_198 Z (Q8Q N ((aB.toNat:Nat):Int) _ bQ) (asK [] Z) Z (H':=[_]) Z ?_
 rintro _ _ _ ⟨rfl,rfl,rfl⟩
 refine wP Z (Q4 (Q3 (Q2 [21,7,4,0,1] (S':=V5 ..) Z ?_)))
 refine Qt Z (fun aJ=>?_) (fun aJ=>?_)
 replace hm:=QI hm aJ
 refine Q2 [4,0,1] (S':=V3 ..) Z (Q5 (Q1 (wP Z (wP Z ?_))))
 obtain ⟨aK,bR,hm⟩:=Q6 hm
 refine wC [] [0] Z fn_199 Z (Q8R N a0 a1 _ bR) (asK [] Z) Z (H':=[_]) Z ?_
 rintro _ _ _ ⟨rfl,rfl,rfl⟩
 refine wP Z (Q4 (Q3 (Q2 [8,4,0,1] (S':=V4 ..) Z (Q5 (Q1 (wP Z (wP Z (wP Z ?_))))))))
 obtain ⟨aZ,hm⟩:=Qd hm
 obtain ⟨b0,hm⟩:=Qd hm
 obtain ⟨b8,hm⟩:=Qd hm
 refine Q1w Z Z Z Zq (Q9g a1.toNat aK.toNat Z Z Z (Q1d aZ) Z (Q1d b0) b8.1 b8.2 Q7r) (wP Z (Q1v Z Z Z Zq Z Q7U tP_197 Z (out:=V3 ..) Z (QK Z Z Z Zq Z Q7U Z (fun g9=>(wS 0 0 Z Q52 (all':=V3 ..) Z (H':=[_,_]) Z (Q4 (Q3 (Q2 [9,8,4,1] (S':=V4 ..) Z (Q5 (Q5 (Q1 (wP Z (wP Z (wP Z ?_))))))))))))))
 obtain ⟨bS,hm⟩:=Qd hm
 refine Qs (d:=35) (v':=.int .i64 (aK - a1)) (S':=V6 ..) Z Z (i64_in bS) (wP Z ?_)
 obtain ⟨bD,hm⟩:=Qd hm
 refine Qs (d:=36) (v':=.bool false) (S':=V7 ..) Z Z (Qy bD) (Q4 (Q3 (Q2 [36,9,8,4] (S':=V4 ..) Z (Q1l Z (Q2 [9,8,4] (S':=V3 ..) Z (Qr (Q3 (Q5 ?_))))))))
 obtain ⟨bT,hm,hLj_1⟩:=Q6 hm
 refine QM (σ:=Nat) (fun a5=>bT = a5) (fun a5=>[(9,.pointer (some ⟨g9,0,none⟩)),(8,.int .i64 aK),(4,.pointer (some ⟨g4,0,none⟩))]) (fun a5=>[]) (fun a5=>[.blk g9 [.int .u8 ((a5:Nat):Int),.string (a0.extract a1.toNat aK.toNat),.int .i64 a1] 197,.blk g4 [.int .u8 0,.string ((⟨#[]⟩ : ByteArray)),.int .i64 0] 197]) ?_ ?_
 refine Q5 (Q1 (wF Z Qb9 (wD 0 1 Z Q2e Q3O Z ?_)))
 obtain ⟨cJ,bU,hm⟩:=Q6 hm
 refine wC [] [0,1] Z fn_200 Z (QbP N (a0.extract a1.toNat aK.toNat) _ bU) (asK [] Z) Z (H':=[_,_]) Z ?_
 rintro _ _ _ ⟨rfl,rfl,rfl⟩
 refine Q4 (Q3 (Q2 [40,9,8,4] (S':=V4 ..) Z ?_))
 refine Qt Z (fun aL=>?_) (fun aL=>?_)
 replace hm:=QI hm aL
 refine Q2 [9,8,4] (S':=V3 ..) Z (Q1 (wF Z Qaf (wS 0 0 Z QaO (all':=V3 ..) Z (H':=[_,_]) Z (Q4 ?_))))
 have hE:=(Zi hm).symm
 refine Qh 1 hE [9,8,4] Z (asK [] Z) Z
 replace hm:=QH hm aL
 refine Q2 [9,8,4] (S':=V3 ..) Z (Qr ?_)
 have hE:=(Zi hm).symm
 refine Qh 2 hE [9,8,4] Z (asK [] Z) Z
 rintro a5 hE
 try dsimp only
 have hm:=hLj_1
 try rw [hE] at hm
 refine Q5 (Q1 (QO 0 0 Z Z Z Zq Z Z Z (cs:=V3 ..) Z Q52 QbD Z Z (wP Z (wS 1 0 Z Q52 (all':=V3 ..) Z (H':=[_,_]) Z (wP Z (wP Z (Q4 (Q3 (Q2 [6,5,4] (S':=V3 ..) Z (Qo (Qk (Q9 ?_))))))))))))
 have hE:=(Zi hm).symm
 obtain ⟨hE0,hF1⟩:=Prod.mk.inj hE
 obtain ⟨hE1,hE2⟩:=Prod.mk.inj hF1
 clear hE hF1
 replace hE0:=hE0.symm
 subst hE0
 replace hE1:=hE1.symm
 subst hE1
 replace hE2:=hE2.symm
 subst hE2
 refine Qcl (Hr:=[]) [] Tryz.results160 (Q1e 1 Z Z Q52 QbD Z Z) (Qg Z) (Qg Z) ⟨Z,Z,Z⟩ (asK [] Z) Z Z (.inl Z)
 replace hm:=QH hm aJ
 refine Q2 [7,4,0,1] (S':=V4 ..) Z (Q5 ?_)
 obtain ⟨bV,hm,hLj_2⟩:=Q6 hm
 refine QM (σ:=Bool) (fun a8=>bV = a8) (fun a8=>[(7,.int .u8 ((aB.toNat:Nat):Int)),(4,.pointer (some ⟨g4,0,none⟩)),(0,.string a0),(1,.int .i64 a1),(44,.bool a8)]) (fun a8=>[]) (fun a8=>[.blk g4 [.int .u8 0,.string ((⟨#[]⟩ : ByteArray)),.int .i64 0] 197]) ?_ ?_
 refine Q1 (wP Z (wP Z (Qs (d:=46) (v':=.bool (aB.toNat == 63)) (S':=V5 ..) Z Z (Q4J (a:=aB.toNat) (b:=63)) (wP Z ?_))))
 refine QG (d:=47) (S':=V6 ..) Z Z (fun aM=>?_) (fun aM=>?_)
 replace hm:=QI hm aM
 refine wO Z (wO Z (wP Z (wP Z (Q4 ?_))))
 have hE:=(Zi hm).symm
 refine Qh true hE [7,4,0,1,44] Z (asK [] Z) Z
 replace hm:=QH hm aM
 refine wP Z (wP Z (Qs (d:=49) (v':=.bool (aB.toNat == 39)) (S':=V8 ..) Z Z (Q4J (a:=aB.toNat) (b:=39)) (wP Z (wP Z (Q4 ?_)))))
 have hE:=(Zi hm).symm
 refine Qh (aB.toNat == 39) hE [7,4,0,1,44] Z (asK [] Z) Z
 rintro a8 hE
 try dsimp only
 have hm:=hLj_2
 try rw [hE] at hm
 refine Qt Z (fun aN=>?_) (fun aN=>?_)
 replace hm:=QI hm aN
 refine Q2 [7,4,0,1] (S':=V4 ..) Z (Q5 (Q1 (wP Z (wP Z (wP Z ?_)))))
 obtain ⟨bW,hm⟩:=Qd hm
 refine Qs (d:=53) (v':=.int .i64 (a1 + 1)) (S':=V6 ..) Z Z (i64_in bW) ?_
 obtain ⟨bX,bY,hm⟩:=Q6 hm
 refine wC [] [0] Z fn_199 Z (Q8R N a0 (a1 + 1) _ bY) (asK [] Z) Z (H':=[_]) Z ?_
 rintro _ _ _ ⟨rfl,rfl,rfl⟩
 refine wP Z (Q4 (Q3 (Q2 [10,7,4,0,1] (S':=V5 ..) Z (Q5 (Q1 (wP Z (wP Z (wP Z ?_))))))))
 obtain ⟨bZ,hm⟩:=Qd hm
 refine Qs (d:=57) (v':=.int .i64 (a1 + 1)) (S':=V7 ..) Z Z (i64_in bZ) (wP Z ?_)
 obtain ⟨b1,hm⟩:=Qd hm
 obtain ⟨b2,hm⟩:=Qd hm
 obtain ⟨b9,hm⟩:=Qd hm
 refine Q1w Z Z Z Zq (Q9g ((a1 + 1).toNat) bX.toNat Z Z Z (Q1d b1) Z (Q1d b2) b9.1 b9.2 Q7r) (wP Z (Q1v Z Z Z Zq Z Q7U tP_197 Z (out:=V3 ..) Z (QK Z Z Z Zq Z Q7U Z (fun cK=>(wS 0 0 Z Q52 (all':=V3 ..) Z (H':=[_,_]) Z (Q4 (Q3 (Q2 [11,10,7,4] (S':=V4 ..) Z (Q5 (Q5 (Q1 (wP Z (wP Z (Qs (d:=63) (v':=.bool (aB.toNat == 39)) (S':=V5 ..) Z Z (Q4J (a:=aB.toNat) (b:=39)) ?_))))))))))))))
 obtain ⟨bE,hm⟩:=Qd hm
 refine Qs (d:=63) (v':=.bool false) (S':=V5 ..) Z Z (Qy bE) (Q4 (Q3 (Q2 [63,11,10,4] (S':=V4 ..) Z (Q1l Z (Q2 [11,10,4] (S':=V3 ..) Z (Qr (Q3 (Q5 (Q5 (Q1 (wF Z Qb9 (wD 0 1 Z Q2e Q3O Z ?_))))))))))))
 obtain ⟨cL,c0,hm⟩:=Q6 hm
 refine wC [] [0,1] Z fn_70 Z (Q6z N (a0.extract ((a1 + 1).toNat) bX.toNat) _ c0) (asK [] Z) Z (H':=[_,_]) Z ?_
 rintro _ _ _ ⟨rfl,rfl,rfl⟩
 refine wP Z ?_
 obtain ⟨bF,hm⟩:=Qd hm
 refine Qs (d:=68) (v':=.bool false) (S':=V6 ..) Z Z (Qy bF) (Q4 (Q3 (Q2 [68,11,10,4] (S':=V4 ..) Z (Q1l Z (Q2 [11,10,4] (S':=V3 ..) Z (Qr (Q3 (Q5 (Q1 (QO 0 0 Z Z Z Zq Z Z Z (cs:=V3 ..) Z Q52 QbD Z Z (wP Z (wS 1 0 Z Q52 (all':=V3 ..) Z (H':=[_,_]) Z (wP Z ?_)))))))))))))
 refine wP Z (Q4 (Q3 (Q2 [6,5,4] (S':=V3 ..) Z (Qo (Qk (Q9 ?_))))))
 have hE:=(Zi hm).symm
 obtain ⟨hE0,hF1⟩:=Prod.mk.inj hE
 obtain ⟨hE1,hE2⟩:=Prod.mk.inj hF1
 clear hE hF1
 replace hE0:=hE0.symm
 subst hE0
 replace hE1:=hE1.symm
 subst hE1
 replace hE2:=hE2.symm
 subst hE2
 refine Qcl (Hr:=[]) [] Tryz.results160 (Q1e 1 Z Z Q52 QbD Z Z) (Qg Z) (Qg Z) ⟨Z,Z,Z⟩ (asK [] Z) Z Z (.inl Z)
 replace hm:=QH hm aN
 refine Q2 [7,4,0,1] (S':=V4 ..) Z (Q5 (Q1 (wP Z ?_)))
 obtain ⟨cM,c1,hm⟩:=Q6 hm
 refine wC [] [0] Z fn_201 Z (Q4L N ((aB.toNat:Nat):Int) _ c1) (asK [] Z) Z (H':=[_]) Z ?_
 rintro _ _ _ ⟨rfl,rfl,rfl⟩
 refine wP Z (Q4 (Q3 (Q2 [72,4,0,1] (S':=V4 ..) Z ?_)))
 refine Qt Z (fun aO=>?_) (fun aO=>?_)
 replace hm:=QI hm aO
 refine Q2 [4,0,1] (S':=V3 ..) Z (Q5 (Q1 (wP Z (wP Z (Q4 (Q3 (Q2 [12,4,0,1] (S':=V4 ..) Z (Q5 ?_))))))))
 obtain ⟨bA,hm,hLj_3⟩:=Q6 hm
 refine QM (σ:=Int) (fun z=>bA = z) (fun z=>[(12,.int .i64 z),(4,.pointer (some ⟨g4,0,none⟩)),(0,.string a0),(1,.int .i64 a1)]) (fun z=>[]) (fun z=>[.blk g4 [.int .u8 0,.string ((⟨#[]⟩ : ByteArray)),.int .i64 0] 197]) ?_ ?_
 refine Qw (Q1j (σ:=Nat × Int) (fun (aE,a6)=>Q1h (Q5Z N a0) aE a6 = some bA) (fun (aE,a6)=>aE) (fun (aE,a6)=>[(12,.int .i64 a6),(4,.pointer (some ⟨g4,0,none⟩)),(0,.string a0),(1,.int .i64 a1)]) (fun (aE,a6)=>[]) (fun (aE,a6)=>[.blk g4 [.int .u8 0,.string ((⟨#[]⟩ : ByteArray)),.int .i64 0] 197]) (N,a1) hm [12,4,0,1] Z (asK [] Z) Z (fun s_ hm=>?_))
 obtain ⟨aE,a6⟩:=s_
 try dsimp only at hm ⊢
 obtain ⟨cN,cO,c2,hq,hLu1⟩:=QV hm
 clear hm
 subst c2
 replace hm:=hq
 clear hq
 unfold Q5Z at hm
 try dsimp only at hm
 refine Q5 (Q5 (Q1 (wP Z (wP Z (Q1w Z Z Z Zq (Q4g Z Z Q7r) (wP Z (wP Z ?_)))))))
 obtain ⟨bG,hm⟩:=Qd hm
 refine Qs (d:=80) (v':=.bool true) (S':=V8 ..) Z Z (Qy bG) (wP Z (wP Z ?_))
 obtain ⟨c3,hm⟩:=Qd hm
 obtain ⟨cF,c4,hm⟩:=Q6 hm
 refine Q1w Z Z Z Zq (Q4V a6.toNat Z Z Z (Q1d c3) c4 Q7r) ?_
 obtain ⟨cP,c5,hm⟩:=Q6 hm
 refine wC [] [0] Z fn_201 Z (Q4L N ((cF.toNat:Nat):Int) _ c5) (asK [] Z) Z (H':=[_]) Z ?_
 rintro _ _ _ ⟨rfl,rfl,rfl⟩
 refine wP Z (Q4 (Q3 (Q2 [85,12,4,0,1] (S':=V5 ..) Z ?_)))
 refine Qt Z (fun aP=>?_) (fun aP=>?_)
 replace hm:=QI hm aP
 refine Q2 [12,4,0,1] (S':=V4 ..) Z (Qr (Q3 (Qw (Q1 (wP Z (wP Z ?_))))))
 obtain ⟨c6,hm⟩:=Qd hm
 refine Qs (d:=87) (v':=.int .i64 (a6 + 1)) (S':=V5 ..) Z Z (i64_in c6) (QT (S':=V5 ..) Z Z Z Z Z (Q4 (Qf ?_)))
 have hE:=(Zi hm).symm
 replace hE:=QF hLu1 hE
 refine QU (_,a6 + 1) (Nat.lt_succ_self _) hE [12,4,0,1] Z (asK [] Z) Z
 replace hm:=QH hm aP
 refine Q2 [12,4,0,1] (S':=V4 ..) Z (Q1g (Qj (Qj (QD ?_))))
 have hE:=(Zi hm).symm
 replace hE:=Qx hLu1 hE
 refine Qh a6 hE [12,4,0,1] Z (asK [] Z) Z
 rintro z hE
 try dsimp only
 have hm:=hLj_3
 try rw [hE] at hm
 refine Q5 (Q1 (wP Z (wP Z (wP Z ?_))))
 obtain ⟨b3,hm⟩:=Qd hm
 obtain ⟨b4,hm⟩:=Qd hm
 obtain ⟨bB,hm⟩:=Qd hm
 refine Q1w Z Z Z Zq (Q9g a1.toNat z.toNat Z Z Z (Q1d b3) Z (Q1d b4) bB.1 bB.2 Q7r) ?_
 obtain ⟨cQ,c7,hm⟩:=Q6 hm
 refine wC [] [0] Z fn_202 Z (Q4p N (a0.extract a1.toNat z.toNat) _ c7) (asK [] Z) Z (H':=[_]) Z ?_
 rintro _ _ _ ⟨rfl,rfl,rfl⟩
 refine wP Z (wP Z (wP Z (wP Z (wP Z (Q4 (Q3 (Q2 [14,12,4,0,1] (S':=V5 ..) Z (Q5 (Q5 (Q1 (wP Z (wP Z (wP Z ?_)))))))))))))
 obtain ⟨bH,hm⟩:=Qd hm
 refine Qs (d:=98) (v':=.bool false) (S':=V7 ..) Z Z (Qy bH) (wP Z (wP Z (Q1w Z Z Z Zq (Q4g Z Z Q7r) (wP Z (wP Z ?_)))))
 obtain ⟨b5,hm⟩:=Qd hm
 refine Qs (d:=103) (v':=.bool true) (S':=V12 ..) Z Z (Qy b5) (wP Z (wP Z ?_))
 obtain ⟨bI,hm⟩:=Qd hm
 obtain ⟨c8,bJ,hm⟩:=Q6 hm
 refine Q1w Z Z Z Zq (Q4V z.toNat Z Z Z (Q1d bI) bJ Q7r) ?_
 obtain ⟨cH,bK,hm⟩:=Q6 hm
 refine wC [] [0] Z fn_203 Z (Q9r N ((c8.toNat:Nat):Int) _ bK) (asK [] Z) Z (H':=[_]) Z ?_
 rintro _ _ _ ⟨rfl,rfl,rfl⟩
 refine wP Z (wP Z ?_)
 obtain ⟨b6,hm⟩:=Qd hm
 refine Qs (d:=109) (v':=.bool false) (S':=V18 ..) Z Z (Qy b6) (Q4 (Q3 (Q2 [109,12,4,0,1] (S':=V5 ..) Z (Q1l Z (Q2 [12,4,0,1] (S':=V4 ..) Z (Qr (Q3 (Q5 (Q1 (wP Z (wP Z (wP Z ?_))))))))))))
 obtain ⟨aQ,hm⟩:=Qd hm
 obtain ⟨aR,hm⟩:=Qd hm
 obtain ⟨aS,hm⟩:=Qd hm
 refine Q1w Z Z Z Zq (Q9g a1.toNat z.toNat Z Z Z (Q1d aQ) Z (Q1d aR) aS.1 aS.2 Q7r) (wP Z (Q1v Z Z Z Zq Z Q7U tP_197 Z (out:=V3 ..) Z (wP Z (wS 0 0 Z Q52 (all':=V3 ..) Z (H':=[_]) Z (wP Z (wP Z (Q4 (Q3 (Q2 [6,5,4] (S':=V3 ..) Z (Qo (Qk (Q9 ?_))))))))))))
 have hE:=(Zi hm).symm
 obtain ⟨hE0,hF1⟩:=Prod.mk.inj hE
 obtain ⟨hE1,hE2⟩:=Prod.mk.inj hF1
 clear hE hF1
 replace hE0:=hE0.symm
 subst hE0
 replace hE1:=hE1.symm
 subst hE1
 replace hE2:=hE2.symm
 subst hE2
 refine Qcl (Hr:=[]) [] Tryz.results160 (Q1e 0 Z Z Q52 QbD Z Z) (Qg Z) (Qg Z) ⟨Z,Z,Z⟩ (asK [] Z) Z Z (.inl Z)
 replace hm:=QH hm aO
 refine Q2 [4,0,1] (S':=V3 ..) Z (Qr (Qf (Q3 (Q5 (Q1 ?_)))))
 obtain ⟨_,bL,hm⟩:=Q6 hm
 try dsimp only at hm
 refine wC [] [0] Z fn_204 Z (Qbf N  bL) (asK [] Z) Z (H':=[_]) Z ?_
 rintro _ _ _ ⟨aA,rfl,rfl,rfl⟩
 refine wP Z (Q4 (Q3 (Q2 [15,4,0,1] (S':=V4 ..) Z (Q5 (Q5 (Q1 (wP Z (Q4 (Q3 (Qw (wc_row (sz:=1) (m:=17) Q1u lit1 0 Z (fun F w hφ=>⟨[.string ((⟨#[61,62]⟩ : ByteArray))],[.string ((⟨#[33,61]⟩ : ByteArray)),.string ((⟨#[60,61]⟩ : ByteArray)),.string ((⟨#[62,61]⟩ : ByteArray)),.string ((⟨#[40]⟩ : ByteArray)),.string ((⟨#[41]⟩ : ByteArray)),.string ((⟨#[123]⟩ : ByteArray)),.string ((⟨#[125]⟩ : ByteArray)),.string ((⟨#[44]⟩ : ByteArray)),.string ((⟨#[59]⟩ : ByteArray)),.string ((⟨#[61]⟩ : ByteArray)),.string ((⟨#[60]⟩ : ByteArray)),.string ((⟨#[62]⟩ : ByteArray)),.string ((⟨#[43]⟩ : ByteArray)),.string ((⟨#[45]⟩ : ByteArray)),.string ((⟨#[42]⟩ : ByteArray)),.string ((⟨#[95]⟩ : ByteArray))],Z,Z,⟨(),Z,Qu⟩,⟨[.string ((⟨#[33,61]⟩ : ByteArray))],[.string ((⟨#[60,61]⟩ : ByteArray)),.string ((⟨#[62,61]⟩ : ByteArray)),.string ((⟨#[40]⟩ : ByteArray)),.string ((⟨#[41]⟩ : ByteArray)),.string ((⟨#[123]⟩ : ByteArray)),.string ((⟨#[125]⟩ : ByteArray)),.string ((⟨#[44]⟩ : ByteArray)),.string ((⟨#[59]⟩ : ByteArray)),.string ((⟨#[61]⟩ : ByteArray)),.string ((⟨#[60]⟩ : ByteArray)),.string ((⟨#[62]⟩ : ByteArray)),.string ((⟨#[43]⟩ : ByteArray)),.string ((⟨#[45]⟩ : ByteArray)),.string ((⟨#[42]⟩ : ByteArray)),.string ((⟨#[95]⟩ : ByteArray))],Z,Z,⟨(),Z,Qu⟩,⟨[.string ((⟨#[60,61]⟩ : ByteArray))],[.string ((⟨#[62,61]⟩ : ByteArray)),.string ((⟨#[40]⟩ : ByteArray)),.string ((⟨#[41]⟩ : ByteArray)),.string ((⟨#[123]⟩ : ByteArray)),.string ((⟨#[125]⟩ : ByteArray)),.string ((⟨#[44]⟩ : ByteArray)),.string ((⟨#[59]⟩ : ByteArray)),.string ((⟨#[61]⟩ : ByteArray)),.string ((⟨#[60]⟩ : ByteArray)),.string ((⟨#[62]⟩ : ByteArray)),.string ((⟨#[43]⟩ : ByteArray)),.string ((⟨#[45]⟩ : ByteArray)),.string ((⟨#[42]⟩ : ByteArray)),.string ((⟨#[95]⟩ : ByteArray))],Z,Z,⟨(),Z,Qu⟩,⟨[.string ((⟨#[62,61]⟩ : ByteArray))],[.string ((⟨#[40]⟩ : ByteArray)),.string ((⟨#[41]⟩ : ByteArray)),.string ((⟨#[123]⟩ : ByteArray)),.string ((⟨#[125]⟩ : ByteArray)),.string ((⟨#[44]⟩ : ByteArray)),.string ((⟨#[59]⟩ : ByteArray)),.string ((⟨#[61]⟩ : ByteArray)),.string ((⟨#[60]⟩ : ByteArray)),.string ((⟨#[62]⟩ : ByteArray)),.string ((⟨#[43]⟩ : ByteArray)),.string ((⟨#[45]⟩ : ByteArray)),.string ((⟨#[42]⟩ : ByteArray)),.string ((⟨#[95]⟩ : ByteArray))],Z,Z,⟨(),Z,Qu⟩,⟨[.string ((⟨#[40]⟩ : ByteArray))],[.string ((⟨#[41]⟩ : ByteArray)),.string ((⟨#[123]⟩ : ByteArray)),.string ((⟨#[125]⟩ : ByteArray)),.string ((⟨#[44]⟩ : ByteArray)),.string ((⟨#[59]⟩ : ByteArray)),.string ((⟨#[61]⟩ : ByteArray)),.string ((⟨#[60]⟩ : ByteArray)),.string ((⟨#[62]⟩ : ByteArray)),.string ((⟨#[43]⟩ : ByteArray)),.string ((⟨#[45]⟩ : ByteArray)),.string ((⟨#[42]⟩ : ByteArray)),.string ((⟨#[95]⟩ : ByteArray))],Z,Z,⟨(),Z,Qu⟩,⟨[.string ((⟨#[41]⟩ : ByteArray))],[.string ((⟨#[123]⟩ : ByteArray)),.string ((⟨#[125]⟩ : ByteArray)),.string ((⟨#[44]⟩ : ByteArray)),.string ((⟨#[59]⟩ : ByteArray)),.string ((⟨#[61]⟩ : ByteArray)),.string ((⟨#[60]⟩ : ByteArray)),.string ((⟨#[62]⟩ : ByteArray)),.string ((⟨#[43]⟩ : ByteArray)),.string ((⟨#[45]⟩ : ByteArray)),.string ((⟨#[42]⟩ : ByteArray)),.string ((⟨#[95]⟩ : ByteArray))],Z,Z,⟨(),Z,Qu⟩,⟨[.string ((⟨#[123]⟩ : ByteArray))],[.string ((⟨#[125]⟩ : ByteArray)),.string ((⟨#[44]⟩ : ByteArray)),.string ((⟨#[59]⟩ : ByteArray)),.string ((⟨#[61]⟩ : ByteArray)),.string ((⟨#[60]⟩ : ByteArray)),.string ((⟨#[62]⟩ : ByteArray)),.string ((⟨#[43]⟩ : ByteArray)),.string ((⟨#[45]⟩ : ByteArray)),.string ((⟨#[42]⟩ : ByteArray)),.string ((⟨#[95]⟩ : ByteArray))],Z,Z,⟨(),Z,Qu⟩,⟨[.string ((⟨#[125]⟩ : ByteArray))],[.string ((⟨#[44]⟩ : ByteArray)),.string ((⟨#[59]⟩ : ByteArray)),.string ((⟨#[61]⟩ : ByteArray)),.string ((⟨#[60]⟩ : ByteArray)),.string ((⟨#[62]⟩ : ByteArray)),.string ((⟨#[43]⟩ : ByteArray)),.string ((⟨#[45]⟩ : ByteArray)),.string ((⟨#[42]⟩ : ByteArray)),.string ((⟨#[95]⟩ : ByteArray))],Z,Z,⟨(),Z,Qu⟩,⟨[.string ((⟨#[44]⟩ : ByteArray))],[.string ((⟨#[59]⟩ : ByteArray)),.string ((⟨#[61]⟩ : ByteArray)),.string ((⟨#[60]⟩ : ByteArray)),.string ((⟨#[62]⟩ : ByteArray)),.string ((⟨#[43]⟩ : ByteArray)),.string ((⟨#[45]⟩ : ByteArray)),.string ((⟨#[42]⟩ : ByteArray)),.string ((⟨#[95]⟩ : ByteArray))],Z,Z,⟨(),Z,Qu⟩,⟨[.string ((⟨#[59]⟩ : ByteArray))],[.string ((⟨#[61]⟩ : ByteArray)),.string ((⟨#[60]⟩ : ByteArray)),.string ((⟨#[62]⟩ : ByteArray)),.string ((⟨#[43]⟩ : ByteArray)),.string ((⟨#[45]⟩ : ByteArray)),.string ((⟨#[42]⟩ : ByteArray)),.string ((⟨#[95]⟩ : ByteArray))],Z,Z,⟨(),Z,Qu⟩,⟨[.string ((⟨#[61]⟩ : ByteArray))],[.string ((⟨#[60]⟩ : ByteArray)),.string ((⟨#[62]⟩ : ByteArray)),.string ((⟨#[43]⟩ : ByteArray)),.string ((⟨#[45]⟩ : ByteArray)),.string ((⟨#[42]⟩ : ByteArray)),.string ((⟨#[95]⟩ : ByteArray))],Z,Z,⟨(),Z,Qu⟩,⟨[.string ((⟨#[60]⟩ : ByteArray))],[.string ((⟨#[62]⟩ : ByteArray)),.string ((⟨#[43]⟩ : ByteArray)),.string ((⟨#[45]⟩ : ByteArray)),.string ((⟨#[42]⟩ : ByteArray)),.string ((⟨#[95]⟩ : ByteArray))],Z,Z,⟨(),Z,Qu⟩,⟨[.string ((⟨#[62]⟩ : ByteArray))],[.string ((⟨#[43]⟩ : ByteArray)),.string ((⟨#[45]⟩ : ByteArray)),.string ((⟨#[42]⟩ : ByteArray)),.string ((⟨#[95]⟩ : ByteArray))],Z,Z,⟨(),Z,Qu⟩,⟨[.string ((⟨#[43]⟩ : ByteArray))],[.string ((⟨#[45]⟩ : ByteArray)),.string ((⟨#[42]⟩ : ByteArray)),.string ((⟨#[95]⟩ : ByteArray))],Z,Z,⟨(),Z,Qu⟩,⟨[.string ((⟨#[45]⟩ : ByteArray))],[.string ((⟨#[42]⟩ : ByteArray)),.string ((⟨#[95]⟩ : ByteArray))],Z,Z,⟨(),Z,Qu⟩,⟨[.string ((⟨#[42]⟩ : ByteArray))],[.string ((⟨#[95]⟩ : ByteArray))],Z,Z,⟨(),Z,Qu⟩,⟨[.string ((⟨#[95]⟩ : ByteArray))],[],Z,Z,⟨(),Z,Qu⟩,Z⟩⟩⟩⟩⟩⟩⟩⟩⟩⟩⟩⟩⟩⟩⟩⟩⟩) Z (by decide) (H':=[_,_]) Z (Q1j (σ:=Nat × Nat) (fun (aF,s)=>Q1h (Q60 N a1 a0) aF s = some (o0,o1,o2)) (fun (aF,s)=>aF) (fun (aF,s)=>[(16,.int .i64 ((s:Nat):Int)),(15,.slice (some ⟨aA,0,none⟩) lit1.length 17),(4,.pointer (some ⟨g4,0,none⟩)),(0,.string a0),(1,.int .i64 a1)]) (fun (aF,s)=>[]) (fun (aF,s)=>[.own 9 1 Q1u (.slice (some ⟨aA,0,none⟩) lit1.length 17) lit1,.blk g4 [.int .u8 0,.string ((⟨#[]⟩ : ByteArray)),.int .i64 0] 197]) (N,0) hm [16,15,4,0,1] Z (asK [] Z) Z (fun s_ hm=>?_)))))))))))))
 obtain ⟨aF,s⟩:=s_
 try dsimp only at hm ⊢
 obtain ⟨cR,cS,c9,hq,hLu2⟩:=QV hm
 clear hm
 subst c9
 replace hm:=hq
 clear hq
 unfold Q60 at hm
 try dsimp only at hm
 refine Q5 (Q5 (Q1 (wP Z (wP Z (wN Z Q22 (wP Z (Qs (d:=122) (v':=.bool (decide (s < lit1.length))) (S':=V8 ..) Z Z (Q2l (a:=s) (b:=lit1.length)) ?_)))))))
 obtain ⟨b7,hm⟩:=Qd hm
 refine Qs (d:=122) (v':=.bool true) (S':=V8 ..) Z Z (Qy b7) (Q4 (Q3 (Q2 [122,16,15,4,0,1] (S':=V6 ..) Z (Q8D Z (Q2 [16,15,4,0,1] (S':=V5 ..) Z (Qr (Q3 (Q5 (Qw (Q5 (Q1 (wP Z (wP Z ?_)))))))))))))
 refine wP Z ?_
 obtain ⟨aC,aT,hm⟩:=Q6 hm
 refine Q8j 0 s Z Z Z Zq Z Z Z Z Z (Q2Y aT) Q22 Q2e (Q29 Q6A 0 s 0 Z Z Z Zq Z Z Z aT Q2e Q3O (v:=fun _=>.string aC) (fun _=>Z) (fun _=>Z) (fun _ _=>(Q1w Z Z Z Zq (Q4g Z Z Q7r) (wP Z ?_))))
 obtain ⟨bM,hm⟩:=Qd hm
 refine Qs (d:=131) (v':=.int .i64 (a1 + ((aC.size:Nat):Int))) (S':=V11 ..) Z Z (i64_in bM) (wP Z (Q4 (Q3 (Q2 [17,16,15,4,0,1] (S':=V6 ..) Z (Q5 ?_)))))
 obtain ⟨cA,hm,hLj_4⟩:=Q6 hm
 unfold Q7X at hm
 refine QM (σ:=Bool) (fun a7=>cA = a7) (fun a7=>[(17,.int .i64 (a1 + ((aC.size:Nat):Int))),(16,.int .i64 ((s:Nat):Int)),(15,.slice (some ⟨aA,0,none⟩) lit1.length 17),(4,.pointer (some ⟨g4,0,none⟩)),(0,.string a0),(1,.int .i64 a1),(146,.bool a7)]) (fun a7=>[]) (fun a7=>[.own 9 1 Q1u (.slice (some ⟨aA,0,none⟩) lit1.length 17) lit1,.blk g4 [.int .u8 0,.string ((⟨#[]⟩ : ByteArray)),.int .i64 0] 197]) ?_ ?_
 rcases Q1E hm with ⟨aG,hm⟩ | ⟨aG,hm⟩
 obtain ⟨aU,hm⟩:=Qd hm
 obtain ⟨aV,hm⟩:=Qd hm
 obtain ⟨aW,hm⟩:=Qd hm
 obtain ⟨bC,aX,hm⟩:=Q6 hm
 refine QW [0,1,2,3,4,5,6,7,9,10,11,12,13,14] Z Z (fun hok=>(xP hok 0 Z (xP hok 1 Z (wx_reck hok 2 Z Z Z Zq Z (Q4g Z Z Q7r) (xP hok 3 Z (xP hok 4 Z (Q1z (d:=136) (v':=.bool true) (S':=V10 ..) Z Z (Qy aG) (xP hok 5 Z (xP hok 6 Z (xP hok 7 Z (xP hok 9 Z (xP hok 10 Z (wx_indexK hok 11 0 s Z Z Z Zq Z Z Z Z Z Z (Q2Y aX) Q22 Q2e (Q94 hok 12 Q6A 0 s 0 Z Z Z Zq Z Z Z Z aX Q2e Q3O (v:=.string bC) Z Z (fun _=>?_)))))))))))))))
 refine xS hok 8 Z (Q1w Z Z Z Zq (Q9g a1.toNat ((a1 + ((aC.size:Nat):Int)).toNat) Z Z Z (Q1d aU) Z (Q1d aV) aW.1 aW.2 Q7r) (Q4 (QJ [] [0] Z Z (xP hok 13 Z (xP hok 14 Z (QS hok Z ?_))))))
 have hE:=(Zi hm).symm
 refine Qh ((a0.extract a1.toNat ((a1 + ((aC.size:Nat):Int)).toNat)).toList == bC.toList) hE [17,16,15,4,0,1,146] Z (asK [] Z) Z
 refine QW [0,1,2,3,4,5,6,7,9,10,11,12,13,14] Z Z (fun hok=>(xP hok 0 Z (xP hok 1 Z (wx_reck hok 2 Z Z Z Zq Z (Q4g Z Z Q7r) (xP hok 3 Z (xP hok 4 Z (Q1z (d:=136) (v':=.bool false) (S':=V10 ..) Z Z (Qy aG) (xO hok 5 Z (xO hok 6 Z (xO hok 7 Z (xO hok 9 Z (xO hok 10 Z (xO hok 11 Z (xO hok 12 Z ?_))))))))))))))
 refine xS hok 8 Z (wO Z (Q4 (QJ [] [] Z Z (xO hok 13 Z (xP hok 14 Z (QS hok Z ?_))))))
 have hE:=(Zi hm).symm
 refine Qh false hE [17,16,15,4,0,1,146] Z (asK [] Z) Z
 rintro a7 hE
 try dsimp only
 have hm:=hLj_4
 try rw [hE] at hm
 refine Qt Z (fun aH=>?_) (fun aH=>?_)
 replace hm:=QI hm aH
 refine Q2 [17,16,15,4,1] (S':=V5 ..) Z (Q5 (Q1 (wP Z (wP Z ?_))))
 obtain ⟨cB,aY,hm⟩:=Q6 hm
 refine Q8j 0 s Z Z Z Zq Z Z Z Z Z (Q2Y aY) Q22 Q2e (Q29 Q6A 0 s 0 Z Z Z Zq Z Z Z aY Q2e Q3O (v:=fun _=>.string cB) (fun _=>Z) (fun _=>Z) (fun _ _=>(wP Z (Q1v Z Z Z Zq Z Q7U tP_197 Z (out:=V3 ..) Z (wP Z (wS 1 0 Z Q52 (all':=V3 ..) Z (H':=[_,_]) Z (wP Z (wP Z (Q4 (Q3 (Q2 [6,5,4] (S':=V3 ..) Z (Qo (Qk (Q9 ?_))))))))))))))
 refine Q9 (Qk (Q9 ?_))
 have hE:=(Zi hm).symm
 replace hE:=Qx hLu2 hE
 obtain ⟨hE0,hF1⟩:=Prod.mk.inj hE
 obtain ⟨hE1,hE2⟩:=Prod.mk.inj hF1
 clear hE hF1
 replace hE0:=hE0.symm
 subst hE0
 replace hE1:=hE1.symm
 subst hE1
 replace hE2:=hE2.symm
 subst hE2
 refine Qcl (Hr:=[]) [] Tryz.results160 (Q1e 1 Z Z Q52 QbD Z Z) (Qg Z) (Qg Z) ⟨Z,Z,Z⟩ (asK [] Z) Z Z (.inl Z)
 replace hm:=QH hm aH
 refine Q2 [16,15,4,0,1] (S':=V5 ..) Z (Qr (Qf (Q3 (Q1 (wP Z (wP Z ?_))))))
 obtain ⟨bN,hm⟩:=Qd hm
 refine Qs (d:=124) (v':=.int .i64 ((s + 1:Nat):Int)) (S':=V6 ..) Z Z (Q1r (a:=s) (b:=1) bN) (QT (S':=V6 ..) Z Z Z Z Z (Q4 ?_))
 have hE:=(Zi hm).symm
 replace hE:=QF hLu2 hE
 refine QU (_,s + 1) (Nat.lt_succ_self _) hE [16,15,4,0,1] Z (asK [] Z) Z
theorem QaT (N:Nat) (a0:ByteArray) (o2:List Q1b) (hm:Q6L N a0 = some o2):Q17 Tryz.prog 123 [.string a0] [] [] (fun v Φr Hr=>∃ (o0:OA) (o1:Nat) (o3:Nat),v = .tuple #[.slice o0 o3 o1,.agg #[.int .i64 0,.int .i64 0]] ∧ Φr = [] ∧ Hr = [.own 197 3 Q10 (.slice o0 o3 o1) o2]):=by
 unfold Q6L at hm
 refine QC Tryz.func123 Z Tryz.ntmps123 Z (S:=[_]) Z (fun C=>(Q5 (Q1 (wP Z (QK Z Z Z Zq Z QaP Z (fun g3=>(Q4 (Q3 (Q2 [3,0] (S':=[_,_]) Z (Q5 (Q5 (Q1 (wP Z (Q1w Z Z Z Zq (Q4g Z Z Q7r) (wP Z ?_)))))))))))))))
 refine Qs (d:=11) (v':=.bool (decide (16384 < a0.size))) (S':=V4 ..) Z Z (natgt (a:=a0.size) (b:=16384)) ?_
 obtain ⟨aK,hm⟩:=Qd hm
 refine Qs (d:=11) (v':=.bool false) (S':=V4 ..) Z Z (Qy aK) (Q4 (Q3 (Q2 [11,3,0] (S':=V3 ..) Z (Q1l Z (Q2 [3,0] (S':=[_,_]) Z (Qr (Q3 (Q5 (Q1 (wP Z (Q4 (Q3 (Q5 ?_)))))))))))))
 refine Q1 (wP Z (Q4 (Q3 (Q5 ?_))))
 obtain ⟨aH,hm,hLj_1⟩:=Q6 hm
 refine QM (σ:=(List Q1b) × OA × Nat × Nat) (fun (a1,a8,a9,aA)=>aH = a1) (fun (a1,a8,a9,aA)=>[(3,.pointer (some ⟨g3,0,none⟩)),(0,.string a0),(4,.slice a8 aA a9)]) (fun (a1,a8,a9,aA)=>[]) (fun (a1,a8,a9,aA)=>[.blk g3 [.int .i64 0,.int .i64 0] 113,.own 197 3 Q10 (.slice a8 aA a9) a1]) ?_ ?_
 refine Qw (Q5b 197 3 Q10 (Q1j (σ:=Nat × Int × (List Q1b) × OA × Nat × Nat) (fun (aD,z,s,a5,a6,a7)=>Q1h (Q5A N a0) aD (z,s) = some aH) (fun (aD,z,s,a5,a6,a7)=>aD) (fun (aD,z,s,a5,a6,a7)=>[(5,.int .i64 z),(4,.slice a5 a7 a6),(3,.pointer (some ⟨g3,0,none⟩)),(0,.string a0)]) (fun (aD,z,s,a5,a6,a7)=>[]) (fun (aD,z,s,a5,a6,a7)=>[.own 197 3 Q10 (.slice a5 a7 a6) s,.blk g3 [.int .i64 0,.int .i64 0] 113]) (N,0,[],none,0,0) hm [5,4,3,0] Z (asK [] Z) Z (fun s_ hm=>?_)))
 obtain ⟨aD,z,s,a5,a6,a7⟩:=s_
 try dsimp only at hm ⊢
 obtain ⟨bH,bI,aU,hq,hLu1⟩:=QV hm
 clear hm
 subst aU
 replace hm:=hq
 clear hq
 unfold Q5A at hm
 try dsimp only at hm
 refine Q5 (Q5 (Q1 (wP Z (wP Z (Q1w Z Z Z Zq (Q4g Z Z Q7r) (wP Z (Q4 (Q3 (Q2 [16,5,4,3,0] (S':=V5 ..) Z ?_)))))))))
 refine Qt Z (fun aF=>?_) (fun aF=>?_)
 replace hm:=QI hm aF
 refine Q2 [5,4,3,0] (S':=V4 ..) Z (Qr (Q3 (Qw (Q5 (Q5 (Q1 (wP Z (wP Z ?_))))))))
 obtain ⟨aV,hm⟩:=Qd hm
 obtain ⟨aW,aX,hm⟩:=Q6 hm
 refine Q1w Z Z Z Zq (Q4V z.toNat Z Z Z (Q1d aV) aX Q7r) (wP Z (Qs (d:=20) (v':=.bool (aW.toNat == 9)) (S':=V7 ..) Z Z (Q4J (a:=aW.toNat) (b:=9)) (wP Z ?_)))
 obtain ⟨aL,hm⟩:=Qd hm
 refine Qs (d:=21) (v':=.bool false) (S':=V8 ..) Z Z (Qy aL) (wP Z (wP Z ?_))
 obtain ⟨aY,hm⟩:=Qd hm
 obtain ⟨aZ,b0,hm⟩:=Q6 hm
 refine Q1w Z Z Z Zq (Q4V z.toNat Z Z Z (Q1d aY) b0 Q7r) (wP Z (Qs (d:=25) (v':=.bool (aZ.toNat == 10)) (S':=V12 ..) Z Z (Q4J (a:=aZ.toNat) (b:=10)) (wP Z (wP Z ?_))))
 obtain ⟨aM,hm⟩:=Qd hm
 refine Qs (d:=27) (v':=.bool false) (S':=V14 ..) Z Z (Qy aM) (wP Z (wP Z ?_))
 obtain ⟨b1,hm⟩:=Qd hm
 obtain ⟨b2,b3,hm⟩:=Q6 hm
 refine Q1w Z Z Z Zq (Q4V z.toNat Z Z Z (Q1d b1) b3 Q7r) (wP Z (Qs (d:=31) (v':=.bool (b2.toNat == 13)) (S':=V18 ..) Z Z (Q4J (a:=b2.toNat) (b:=13)) (wP Z (wP Z ?_))))
 obtain ⟨aN,hm⟩:=Qd hm
 refine Qs (d:=33) (v':=.bool false) (S':=V20 ..) Z Z (Qy aN) (wP Z (wP Z ?_))
 obtain ⟨b4,hm⟩:=Qd hm
 obtain ⟨b5,b6,hm⟩:=Q6 hm
 refine Q1w Z Z Z Zq (Q4V z.toNat Z Z Z (Q1d b4) b6 Q7r) (wP Z (Qs (d:=37) (v':=.bool (b5.toNat == 32)) (S':=V24 ..) Z Z (Q4J (a:=b5.toNat) (b:=32)) (wP Z (Q4 (Q3 (Q2 [38,5,4,3,0] (S':=V5 ..) Z ?_))))))
 refine Qt Z (fun aG=>?_) (fun aG=>?_)
 replace hm:=QI hm aG
 refine Q2 [5,4,3,0] (S':=V4 ..) Z (Q5 (Q1 (wP Z (wP Z ?_))))
 obtain ⟨b7,hm⟩:=Qd hm
 refine Qs (d:=40) (v':=.int .i64 (z + 1)) (S':=V5 ..) Z Z (i64_in b7) (QT (S':=V5 ..) Z Z Z Z Z (Q4 (Q3 (Q2 [5,4,3,0] (S':=V4 ..) Z (Q1g (Qj (QD ?_)))))))
 have hE:=(Zi hm).symm
 replace hE:=QF hLu1 hE
 refine QU (_,z + 1,s,a5,a6,a7) (Nat.lt_succ_self _) hE [5,4,3,0] Z (asK [] Z) Z
 replace hm:=QH hm aG
 refine Q2 [5,4,3,0] (S':=V4 ..) Z (Qr (Q3 (Q5 (Q5 (Q1 (wP Z (wP Z ?_)))))))
 obtain ⟨b8,hm⟩:=Qd hm
 obtain ⟨b9,bA,hm⟩:=Q6 hm
 refine Q1w Z Z Z Zq (Q4V z.toNat Z Z Z (Q1d b8) bA Q7r) (wP Z (Qs (d:=44) (v':=.bool (b9.toNat == 35)) (S':=V7 ..) Z Z (Q4J (a:=b9.toNat) (b:=35)) ?_))
 obtain ⟨aO,hm⟩:=Qd hm
 refine Qs (d:=44) (v':=.bool false) (S':=V7 ..) Z Z (Qy aO) (Q4 (Q3 (Q2 [44,5,4,3,0] (S':=V5 ..) Z (Q1l Z (Q2 [5,4,3,0] (S':=V4 ..) Z (Qr (Q3 (Q5 (Q1 (wP Z (wP Z ?_)))))))))))
 obtain ⟨⟨aB,aC,aP⟩,bB,hm⟩:=Q6 hm
 try dsimp only at hm
 refine wC [] [0,1] Z fn_160 Z (Qbg N a0 z _ _ _ bB) (asK [] Z) Z (H':=[_,_]) Z ?_
 rintro _ _ _ ⟨rfl,rfl,rfl⟩
 refine wP Z (wP Z (wP Z (wP Z (QK Z Z Z Zq Z Q7U Z (fun g6=>(wS 0 0 Z Q52 (all':=V3 ..) Z (H':=V3 ..) Z (wP Z (wP Z (Q4 (Q3 (Q2 [8,7,6,5,4,3,0] (S':=V7 ..) Z (Q5 (Q5 (Q1 ?_))))))))))))))
 refine wP Z (wP Z (Qs (d:=65) (v':=.bool false) (S':=V8 ..) Z Z Z (Q4 (Q3 (Q2 [65,8,7,6,5,4,3,0] (S':=V8 ..) Z (Q1l Z (Q2 [7,6,4,3,0] (S':=V5 ..) Z (Qr (Q3 (Q5 (Q1 (wP Z (QO 0 0 Z Z Z Zq Z Z Z (cs:=V3 ..) Z Q52 QbD Z Z ?_)))))))))))))
 refine QB Z Z Z Zq Z tE_189 Q52 Q7U Z (zs:=[.int .u8 0,.string ((⟨#[]⟩ : ByteArray)),.int .i64 0]) (by kernel_rfl) Z (out:=V3 ..) Z (fun bJ=>?_)
 obtain ⟨aI,hm⟩:=Qd hm
 refine Q2p ([(⟨(((aB:Nat):Int)),aC,z⟩ : Q1b)]) 2 0 Z Z Z Zq Z Z Z Z Z (fun F w hφ=>⟨[.int .u8 ((aB:Nat):Int),.string aC,.int .i64 z],[],Z,Z,⟨(),Z,Qu⟩,Z⟩) tE_189 tR_197 Z Z (Nat.le_trans aI (by decide)) (Nat.le_trans (Nat.mul_le_mul_right _ aI) (by decide)) (H2:=fun aQ aR=>[_,_,.own 197 3 Q10 (.slice aQ ((s ++ ([(⟨(((aB:Nat):Int)),aC,z⟩ : Q1b)])).length) aR) (s ++ ([(⟨(((aB:Nat):Int)),aC,z⟩ : Q1b)])),_]) (fun _ _=>Z) (fun aQ aR=>(Q3R 0 Z (H':=V3 ..) Z (QT (S':=V8 ..) Z Z Z Z Z (Q4 (Q3 (Q2 [4,7,3,0] (S':=V4 ..) Z (Q1 (wP Z (wP Z (Q4 (Qf ?_)))))))))))
 have hE:=(Zi hm).symm
 replace hE:=QF hLu1 hE
 refine QE [1,2] Z (H':=[_,_]) Z ?_
 refine QU (_,aP,(s ++ ([(⟨(((aB:Nat):Int)),aC,z⟩ : Q1b)])),aQ,aR,((s ++ ([(⟨(((aB:Nat):Int)),aC,z⟩ : Q1b)])).length)) (Nat.lt_succ_self _) hE [5,4,3,0] Z (asK [] Z) Z
 replace hm:=QH hm aF
 refine Q2 [4,3,0] (S':=V3 ..) Z (Q1g (Qj (Qj (QD ?_))))
 have hE:=(Zi hm).symm
 replace hE:=Qx hLu1 hE
 refine QE [1,0] Z (H':=[_,_]) Z ?_
 refine Qh (s,a5,a6,a7) hE [3,0,4] Z (asK [] Z) Z
 rintro ⟨a1,a8,a9,aA⟩ hE
 try dsimp only
 have hm:=hLj_1
 try rw [hE] at hm
 refine Q5 (Q1 (wP Z (wP Z (Q1w Z Z Z Zq (Q4g Z Z Q7r) (Q1v Z Z Z Zq Z Q7U tP_197 Z (out:=V3 ..) Z (QB Z Z Z Zq Z tE_189 Q52 Q7U Z (zs:=[.int .u8 0,.string ((⟨#[]⟩ : ByteArray)),.int .i64 0]) (by kernel_rfl) Z (out:=V3 ..) Z (fun bK=>?_)))))))
 obtain ⟨aJ,hm⟩:=Qd hm
 refine Q2p ([(⟨7,(⟨#[]⟩ : ByteArray),(((a0.size:Nat):Int))⟩ : Q1b)]) 2 0 Z Z Z Zq Z Z Z Z Z (fun F w hφ=>⟨[.int .u8 7,.string ((⟨#[]⟩ : ByteArray)),.int .i64 ((a0.size:Nat):Int)],[],Z,Z,⟨(),Z,Qu⟩,Z⟩) tE_189 tR_197 Z Z (Nat.le_trans aJ (by decide)) (Nat.le_trans (Nat.mul_le_mul_right _ aJ) (by decide)) (H2:=fun aS aT=>[_,_,.own 197 3 Q10 (.slice aS ((a1 ++ ([(⟨7,(⟨#[]⟩ : ByteArray),(((a0.size:Nat):Int))⟩ : Q1b)])).length) aT) (a1 ++ ([(⟨7,(⟨#[]⟩ : ByteArray),(((a0.size:Nat):Int))⟩ : Q1b)]))]) (fun _ _=>Z) (fun aS aT=>(Q3R 0 Z (H':=[_,_]) Z (Q1v Z Z Z Zq Z QaP tP_113 Z (out:=[_,_]) Z (wP Z (wS 0 0 Z Qag (all':=[_,_]) Z (H':=[_,_]) Z (Q4 (Q3 (Q2 [2,3] (S':=[_,_]) Z (Qo ?_)))))))))
 have hE:=(Zi hm).symm
 replace hE:=hE.symm
 subst hE
 refine Q1D (Hr:=[_]) [1] Tryz.results123 (Qg Z) (Q1e 0 Z Z Qag tA_113 Z Z) ⟨aS,aT,(a1 ++ ([(⟨7,(⟨#[]⟩ : ByteArray),(((a0.size:Nat):Int))⟩ : Q1b)])).length,Z,Z,Z⟩ (asK [] Z) Z Z (.inl Z)
theorem Q1f (N:Nat) (qg0:Nat) (qp1:OA) (qn2:Nat) (qc3:Nat) (l0:List Q1b) (a1:Int) (a2:Bool) (o0:Int) (o1:ByteArray) (o2:Int) (hm:Q1c N l0 a1 a2 = some (o0,o1,o2)):Q17 Tryz.prog 124 [.pointer (some ⟨qg0,0,none⟩)] [] [.blk qg0 [.slice qp1 qn2 qc3,.int .i64 a1,.bool a2] 194,.own 197 3 Q10 (.slice qp1 qn2 qc3) l0] (fun v Φr Hr=>v = .agg #[.int .u8 o0,.string o1,.int .i64 o2] ∧ Φr = [] ∧ Hr = [.blk qg0 [.slice qp1 qn2 qc3,.int .i64 a1,.bool a2] 194,.own 197 3 Q10 (.slice qp1 qn2 qc3) l0]):=by
 unfold Q1c at hm
 refine QC Tryz.func124 Z Tryz.ntmps124 Z (S:=[_]) Z (fun C=>(Q5 (Q1 (QK Z Z Z Zq Z Q7U Z (fun g2=>(Q4 (Q3 (Q5 ?_))))))))
 obtain ⟨hn11,hm⟩:=Qd hm
 obtain ⟨x11,hx11,hm⟩:=Q6 hm
 refine QW [0,1,2,3,4,5,6,7,8,9] Z Z (fun hok=>(xP hok 0 Z (xP hok 1 Z (Q8 hok 2 Z Z Z Zq Z Z Z tF_194_0 (Qn hok 3 1 0 Z Z Z Zq Z Z Z Z (cs:=[_]) Z tS_189 tA_189 Z Z (xP hok 4 Z (xP hok 5 Z (Q8 hok 6 Z Z Z Zq Z Z Z tF_194_1 (Qn hok 7 1 1 Z Z Z Zq Z Z Z Z (cs:=[_]) Z Q1m Q1H Z Z (Q79 hok 8 2 a1.toNat Z Z Z Zq Z Z Z Z Z (Q1d hn11) (Q2Y hx11) tE_189 Q52 (fun g11 eg11=>?_)))))))))))
 subst eg11
 refine Q94 hok 9 R_Api_LexD_opens 2 a1.toNat 0 Z Z Z Zq Z Z Z Z hx11 Q52 QbD (v:=.agg #[.int .u8 (x11.kind),.string x11.text,.int .i64 (x11.at_)]) Z Z (fun _=>(xS hok 10 Z (wS 0 0 Z Q52 (all':=V3 ..) Z (H':=V3 ..) Z (Q4 (QJ [] [] Z Z (QS hok Z (Q3 (Q2 [2] (S':=[_]) Z (Qo ?_)))))))))
 have hE:=(Zi hm).symm
 obtain ⟨hE0,hF1⟩:=Prod.mk.inj hE
 obtain ⟨hE1,hE2⟩:=Prod.mk.inj hF1
 clear hE hF1
 replace hE0:=hE0.symm
 subst hE0
 replace hE1:=hE1.symm
 subst hE1
 replace hE2:=hE2.symm
 subst hE2
 refine Qp (Hr:=[_,_]) [1,2] Tryz.results124 (Q1e 0 Z Z Q52 QbD Z Z) ⟨Z,Z,Z⟩ (asK [] Z) Z Z (.inl Z)
theorem Q18 (N:Nat) (a7:Nat) (s:OA) (z:Nat) (a0:Nat) (l0:List Q1b) (a1:Int) (a2:Bool) (a3:ByteArray) (o0:Bool) (hm:Q15 N l0 a1 a2 a3 = some o0):Q17 Tryz.prog 161 [.pointer (some ⟨a7,0,none⟩),.string a3] [] [.blk a7 [.slice s z a0,.int .i64 a1,.bool a2] 194,.own 197 3 Q10 (.slice s z a0) l0] (fun v Φr Hr=>v = .bool o0 ∧ Φr = [] ∧ Hr = [.blk a7 [.slice s z a0,.int .i64 a1,.bool a2] 194,.own 197 3 Q10 (.slice s z a0) l0]):=by
 unfold Q15 at hm
 refine QC Tryz.func161 Z Tryz.ntmps161 Z (S:=[_,_]) Z (fun C=>(Q5 (Q1 (wP Z (Q4 (Q3 (Q2 [0,1] (S':=[_,_]) Z (Q5 (Q1 (wP Z ?_))))))))))
 obtain ⟨⟨aD,aE,aF⟩,aB,hm⟩:=Q6 hm
 try dsimp only at hm
 refine wC [0,1] [] Z Q8T Z (Q1f N a7 s z a0 l0 a1 a2 _ _ _ aB) (asK [] Z) Z (H':=[]) Z ?_
 rintro _ _ _ ⟨rfl,rfl,rfl⟩
 refine QK Z Z Z Zq Z Q7U Z (fun g5=>(wS 0 0 Z Q52 (all':=V3 ..) Z (H':=V3 ..) Z (Q4 (Q3 (Q2 [5,0,1] (S':=V3 ..) Z (Q5 (Q1 (wP Z (wP Z (wF Z Q8y (wD 1 2 Z tS_4 tA_4 Z (wP Z (wP Z ?_)))))))))))))
 obtain ⟨a8,hm⟩:=Qd hm
 refine Qs (d:=13) (v':=.bool true) (S':=V8 ..) Z Z (Qy a8) (wF Z Qaf (wD 0 0 Z QaO QbC Z (wP Z (wP Z ?_))))
 refine QG (d:=17) (S':=V12 ..) Z Z (fun a5=>?_) (fun a5=>?_)
 replace hm:=QI hm a5
 refine wO Z (wO Z (wO Z (wP Z (wP Z (wP Z (wF Z Qb9 (wD 0 1 Z Q2e Q3O Z (wP Z (wP Z (wP Z (wP Z (Q4 (Q3 ?_)))))))))))))
 refine Q2 [4] (S':=[_]) Z (Qo ?_)
 have hE:=(Zi hm).symm
 replace hE:=hE.symm
 subst hE
 refine Qp (Hr:=[_,_]) [1,2] Tryz.results161 (Qg Z) ⟨Z,Z,Z⟩ (asK [] Z) Z Z (.inl Z)
 replace hm:=QH hm a5
 refine wF Z Qaf (wD 0 0 Z QaO QbC Z (wP Z (wP Z (wP Z (wP Z ?_)))))
 refine QG (d:=23) (S':=V18 ..) Z Z (fun a6=>?_) (fun a6=>?_)
 replace hm:=QI hm a6
 refine wF Z Qb9 (wD 0 1 Z Q2e Q3O Z (wP Z (wP Z (wP Z (wP Z (Q4 (Q3 (Q2 [4] (S':=[_]) Z (Qo ?_)))))))))
 have hE:=(Zi hm).symm
 replace hE:=hE.symm
 subst hE
 refine Qp (Hr:=[_,_]) [1,2] Tryz.results161 (Qg Z) ⟨Z,Z,Z⟩ (asK [] Z) Z Z (.inl Z)
 replace hm:=QH hm a6
 refine wO Z (wO Z (wO Z (wO Z (wP Z (wP Z (Q4 (Q3 (Q2 [4] (S':=[_]) Z (Qo ?_)))))))))
 have hE:=(Zi hm).symm
 replace hE:=hE.symm
 subst hE
 refine Qp (Hr:=[_,_]) [1,2] Tryz.results161 (Qg Z) ⟨Z,Z,Z⟩ (asK [] Z) Z Z (.inl Z)
theorem Q1X (N:Nat) (qg0:Nat) (qp1:OA) (qn2:Nat) (qc3:Nat) (l0:List Q1b) (a1:Int) (a2:Bool)  (hm:Q1L N l0 a1 a2 = some ()):Q17 Tryz.prog 162 [.pointer (some ⟨qg0,0,none⟩)] [] [.blk qg0 [.slice qp1 qn2 qc3,.int .i64 a1,.bool a2] 194,.own 197 3 Q10 (.slice qp1 qn2 qc3) l0] (fun v Φr Hr=>v = .tuple #[] ∧ Φr = [] ∧ Hr = [.blk qg0 [.slice qp1 qn2 qc3,.int .i64 (a1 + 1),.bool a2] 194,.own 197 3 Q10 (.slice qp1 qn2 qc3) l0]):=by
 unfold Q1L at hm
 refine QC Tryz.func162 Z Tryz.ntmps162 Z (S:=[_]) Z (fun C=>(Q5 ?_))
 obtain ⟨hpr7,hm⟩:=Qd hm
 obtain ⟨hg17,hm⟩:=Qd hm
 obtain ⟨hpr19,hm⟩:=Qd hm
 refine QW [0,1,2,3,4,5,6,7,8,9,10,11,12,13,14,15,16,17] Z Z (fun hok=>(xP hok 0 Z (xP hok 1 Z (Q8 hok 2 Z Z Z Zq Z Z Z Q8y (Qn hok 3 0 2 Z Z Z Zq Z Z Z Z (cs:=[_]) Z tS_4 tA_4 Z Z (xP hok 4 Z (xP hok 5 Z (Q1z (d:=7) (v':=.bool true) (S':=V6 ..) Z Z (Qy hpr7) (xP hok 6 Z (xP hok 7 Z (Q8 hok 8 Z Z Z Zq Z Z Z tF_194_1 (Qn hok 9 0 1 Z Z Z Zq Z Z Z Z (cs:=[_]) Z Q1m Q1H Z Z (xP hok 10 Z (xP hok 11 Z ?_))))))))))))))
 refine Q8 hok 12 Z Z Z Zq Z Z Z tF_194_0 (Qn hok 13 0 0 Z Z Z Zq Z Z Z Z (cs:=[_]) Z tS_189 tA_189 Z Z (Qbm 1 Z (fun hl16 _=>(Q66 hok 14 Z Z Z Zq Z Z Z tE_189 (Q1z (d:=16) (v':=.int .i64 ((l0.length:Nat):Int)) (S':=V15 ..) Z Z (Q7a hl16) (xP hok 15 Z (Q1z (d:=17) (v':=.int .i64 (((l0.length:Nat):Int) - 1)) (S':=V16 ..) Z Z (i64_in hg17) (xP hok 16 Z (xP hok 17 Z (Q1z (d:=19) (v':=.bool true) (S':=V18 ..) Z Z (Qy hpr19) (QS hok Z (Q3 (Q2 [19,0] (S':=[_,_]) Z (Q8D Z ?_))))))))))))))
 refine Q2 [0] (S':=[_]) Z (Q1 (wP Z (wP Z (wF Z tF_194_1 (wD 0 1 Z Q1m Q1H Z (wP Z ?_))))))
 obtain ⟨hg24,hm⟩:=Qd hm
 refine Qs (d:=24) (v':=.int .i64 (a1 + 1)) (S':=V5 ..) Z Z (i64_in hg24) (wP Z (wF Z tF_194_1 (wS 0 1 Z Q1m (all':=V3 ..) Z (H':=[_,_]) Z (Q4 ?_))))
 have hE:=(Zi hm).symm
 refine Q6v (Hr:=[_,_]) [0,1] Tryz.results162 ⟨Z,Z,Z⟩ (asK [] Z) Z Z (.inr Z)
theorem Q1M (N:Nat) (qg0:Nat) (qp1:OA) (qn2:Nat) (qc3:Nat) (l0:List Q1b) (a1:Int) (a2:Bool) (a3:Int) (a4:Int) (o0:ByteArray) (o1:Int) (hm:Q1I N l0 a1 a2 a3 a4 = some (o0,o1)):Q17 Tryz.prog 163 [.pointer (some ⟨qg0,0,none⟩),.int .u8 a3,.int .u8 a4] [] [.blk qg0 [.slice qp1 qn2 qc3,.int .i64 a1,.bool a2] 194,.own 197 3 Q10 (.slice qp1 qn2 qc3) l0] (fun v Φr Hr=>v = .agg #[.int .u8 a4,.string o0,.int .i64 0,.int .i64 o1,V1] ∧ Φr = [] ∧ Hr = [.blk qg0 [.slice qp1 qn2 qc3,.int .i64 (a1 + 1),.bool a2] 194,.own 197 3 Q10 (.slice qp1 qn2 qc3) l0]):=by
 unfold Q1I at hm
 refine QC Tryz.func163 Z Tryz.ntmps163 Z (S:=V3 ..) Z (fun C=>(Q5 (Q1 (QK Z Z Z Zq Z Q3P Z (fun g6=>(Q4 (Q3 (Q5 (Q1 (wP Z ?_))))))))))
 obtain ⟨⟨v9_0,v9_1,v9_2⟩,hc9,hm⟩:=Q6 hm
 try dsimp only at hm
 refine wC [1,2] [0] Z Q8T Z (Q1f N qg0 qp1 qn2 qc3 l0 a1 a2 _ _ _ hc9) (asK [] Z) Z (H':=[_]) Z ?_
 rintro _ _ _ ⟨rfl,rfl,rfl⟩
 refine QK Z Z Z Zq Z Q7U Z (fun g7=>(wS 0 0 Z Q52 (all':=V3 ..) Z (H':=V4 ..) Z (Q4 (Q3 (Q2 [7,6,0,1,2] (S':=V5 ..) Z (Q5 (Q5 (Q1 (wF Z Qaf (wD 0 0 Z QaO QbC Z (wP Z (wP Z ?_))))))))))))
 obtain ⟨hpr13,hm⟩:=Qd hm
 refine Qs (d:=13) (v':=.bool false) (S':=V8 ..) Z Z (Qy hpr13) (Q4 (Q3 (Q2 [13,7,6,0,2] (S':=V5 ..) Z (Q1l Z (Q2 [7,6,0,2] (S':=V4 ..) Z (Qr (Q3 (Q5 (Q1 (wP Z ?_))))))))))
 obtain ⟨_,hc18,hm⟩:=Q6 hm
 try dsimp only at hm
 refine wC [1,2] [0,3] Z fn_162 Z (Q1X N qg0 qp1 qn2 qc3 l0 a1 a2 hc18) (asK [] Z) Z (H':=[_,_]) Z ?_
 rintro _ _ _ ⟨rfl,rfl,rfl⟩
 refine Q4 (Q3 (Q2 [7,6,2] (S':=V3 ..) Z (Q5 (Q1 (wP Z (wF Z Qb9 (wD 2 1 Z Q2e Q3O Z (wF Z tF_197_2 (wD 2 2 Z Q1m Q1H Z (Q1v Z Z Z Zq Z Q3P tP_159 Z (out:=V5 ..) Z (wS 3 0 Z Q13 (all':=V5 ..) Z (H':=V4 ..) Z (Q4 (Q3 ?_)))))))))))))
 refine Q2 [6] (S':=[_]) Z (Qo ?_)
 have hE:=(Zi hm).symm
 obtain ⟨hE0,hE1⟩:=Prod.mk.inj hE
 clear hE
 replace hE0:=hE0.symm
 subst hE0
 replace hE1:=hE1.symm
 subst hE1
 refine Qp (Hr:=[_,_]) [0,1] Tryz.results163 (Q1e 3 Z Z Q13 Q1V Z Z) ⟨Z,Z,Z⟩ (asK [] Z) Z Z (.inl Z)
theorem Q1y (N:Nat) (qg0:Nat) (qp1:OA) (qn2:Nat) (qc3:Nat) (l0:List Q1b) (a1:Int) (a2:Bool) (a3:ByteArray)  (hm:Q1p N l0 a1 a2 a3 = some ()):Q17 Tryz.prog 165 [.pointer (some ⟨qg0,0,none⟩),.string a3] [] [.blk qg0 [.slice qp1 qn2 qc3,.int .i64 a1,.bool a2] 194,.own 197 3 Q10 (.slice qp1 qn2 qc3) l0] (fun v Φr Hr=>v = .tuple #[] ∧ Φr = [] ∧ Hr = [.blk qg0 [.slice qp1 qn2 qc3,.int .i64 (a1 + 1),.bool a2] 194,.own 197 3 Q10 (.slice qp1 qn2 qc3) l0]):=by
 unfold Q1p at hm
 refine QC Tryz.func165 Z Tryz.ntmps165 Z (S:=[_,_]) Z (fun C=>(Q5 (Q5 (Q1 (wP Z (wP Z ?_))))))
 obtain ⟨v6,hc6,hm⟩:=Q6 hm
 refine wC [0,1] [] Z Q86 Z (Q18 N qg0 qp1 qn2 qc3 l0 a1 a2 a3 _ hc6) (asK [] Z) Z (H':=[]) Z ?_
 rintro _ _ _ ⟨rfl,rfl,rfl⟩
 refine wP Z ?_
 obtain ⟨hpr7,hm⟩:=Qd hm
 refine Qs (d:=7) (v':=.bool false) (S':=V5 ..) Z Z (Qy hpr7) (Q4 (Q3 (Q2 [7,0] (S':=[_,_]) Z (Q1l Z (Q2 [0] (S':=[_]) Z (Qr (Q3 (Q1 (wP Z ?_)))))))))
 obtain ⟨_,hc12,hm⟩:=Q6 hm
 try dsimp only at hm
 refine wC [0,1] [] Z fn_162 Z (Q1X N qg0 qp1 qn2 qc3 l0 a1 a2 hc12) (asK [] Z) Z (H':=[]) Z ?_
 rintro _ _ _ ⟨rfl,rfl,rfl⟩
 refine Q4 ?_
 have hE:=(Zi hm).symm
 refine Q6v (Hr:=[_,_]) [0,1] Tryz.results165 ⟨Z,Z,Z⟩ (asK [] Z) Z Z (.inr Z)
theorem Q9D (N:Nat) (a5:Nat) (s:OA) (z:Nat) (a0:Nat) (l0:List Q1b) (a1:Int) (a2:Bool) (o0:Int) (o1:ByteArray) (o2:Int) (hm:Q5n N l0 a1 a2 = some (o0,o1,o2)):Q17 Tryz.prog 205 [.pointer (some ⟨a5,0,none⟩)] [] [.blk a5 [.slice s z a0,.int .i64 a1,.bool a2] 194,.own 197 3 Q10 (.slice s z a0) l0] (fun v Φr Hr=>v = .agg #[.int .u8 o0,.string o1,.int .i64 0,.int .i64 o2,V1] ∧ Φr = [] ∧ Hr = [.blk a5 [.slice s z a0,.int .i64 (a1 + 1),.bool a2] 194,.own 197 3 Q10 (.slice s z a0) l0]):=by
 unfold Q5n at hm
 refine QC Tryz.func205 Z Tryz.ntmps205 Z (S:=[_]) Z (fun C=>(Q5 (Q1 (QK Z Z Z Zq Z Q3P Z (fun g2=>(Q4 (Q3 (Q5 (Q1 (wP Z ?_))))))))))
 obtain ⟨⟨aO,aP,aQ⟩,aF,hm⟩:=Q6 hm
 try dsimp only at hm
 refine wC [1,2] [0] Z Q8T Z (Q1f N a5 s z a0 l0 a1 a2 _ _ _ aF) (asK [] Z) Z (H':=[_]) Z ?_
 rintro _ _ _ ⟨rfl,rfl,rfl⟩
 refine QK Z Z Z Zq Z Q7U Z (fun g3=>(wS 0 0 Z Q52 (all':=V3 ..) Z (H':=V4 ..) Z (Q4 (Q3 (Q2 [3,2,0] (S':=V3 ..) Z (Q5 (Qw (Q5 (Q1 (wP Z ?_))))))))))
 obtain ⟨v9,aG,hm⟩:=Q6 hm
 refine wC [1,2] [0,3] Z Q86 Z (Q18 N a5 s z a0 l0 a1 a2 (⟨#[95]⟩ : ByteArray) _ aG) (asK [] Z) Z (H':=[_,_]) Z ?_
 rintro _ _ _ ⟨rfl,rfl,rfl⟩
 refine wP Z ?_
 obtain ⟨aB,hm⟩:=Qd hm
 refine Qs (d:=7) (v':=.bool false) (S':=V5 ..) Z Z (Qy aB) (Q4 (Q3 (Q2 [7,3,2,0] (S':=V4 ..) Z (Q1l Z (Q2 [3,2,0] (S':=V3 ..) Z (Q5 (Q1 (wP Z ?_))))))))
 obtain ⟨aR,aC,hm⟩:=Q6 hm
 refine wC [0,1] [2,3] Z Q86 Z (Q18 N a5 s z a0 l0 a1 a2 (⟨#[45]⟩ : ByteArray) _ aC) (asK [] Z) Z (H':=[_,_]) Z ?_
 rintro _ _ _ ⟨rfl,rfl,rfl⟩
 refine wP Z ?_
 obtain ⟨a9,hm⟩:=Qd hm
 refine Qs (d:=15) (v':=.bool false) (S':=V5 ..) Z Z (Qy a9) (Q4 (Q3 (Q2 [15,3,2,0] (S':=V4 ..) Z (Q1l Z (Q2 [3,2,0] (S':=V3 ..) Z (Q5 (Q1 (wF Z Qaf (wD 2 0 Z QaO QbC Z (wP Z (wP Z (Q4 (Q3 ?_)))))))))))))
 refine Q2 [30,3,2,0] (S':=V4 ..) Z ?_
 refine Qt Z (fun a6=>?_) (fun a6=>?_)
 replace hm:=QI hm a6
 refine Q2 [2,0] (S':=[_,_]) Z (Q5 (Q1 (wP Z ?_)))
 obtain ⟨⟨aH,aI⟩,aD,hm⟩:=Q6 hm
 try dsimp only at hm
 refine wC [0,1] [2,3] Z Qbs Z (Q1M N a5 s z a0 l0 a1 a2 3 13 _ _ aD) (asK [] Z) Z (H':=[_,_]) Z ?_
 rintro _ _ _ ⟨rfl,rfl,rfl⟩
 refine wS 3 0 Z Q13 (all':=V5 ..) Z (H':=V4 ..) Z (Q4 (Q3 (Q2 [2] (S':=[_]) Z (Qo (Qk (Q9 ?_))))))
 have hE:=(Zi hm).symm
 obtain ⟨hE0,hF1⟩:=Prod.mk.inj hE
 obtain ⟨hE1,hE2⟩:=Prod.mk.inj hF1
 clear hE hF1
 replace hE0:=hE0.symm
 subst hE0
 replace hE1:=hE1.symm
 subst hE1
 replace hE2:=hE2.symm
 subst hE2
 refine Qp (Hr:=[_,_]) [0,1] Tryz.results205 (Q1e 3 Z Z Q13 Q1V Z Z) ⟨Z,Z,Z⟩ (asK [] Z) Z Z (.inl Z)
 replace hm:=QH hm a6
 refine Q2 [3,2,0] (S':=V3 ..) Z (Q5 (Q1 (wF Z Qaf (wD 2 0 Z QaO QbC Z (wP Z (wP Z ?_))))))
 obtain ⟨aA,hm⟩:=Qd hm
 refine Qs (d:=36) (v':=.bool false) (S':=V6 ..) Z Z (Qy aA) (Q4 (Q3 (Q2 [36,2,0] (S':=V3 ..) Z (Q1l Z (Q2 [2,0] (S':=[_,_]) Z (Qr (Qf (Q3 (Q5 (Q1 (wP Z ?_)))))))))))
 obtain ⟨⟨aJ,aK⟩,aE,hm⟩:=Q6 hm
 try dsimp only at hm
 refine wC [0,1] [2,3] Z Qbs Z (Q1M N a5 s z a0 l0 a1 a2 4 14 _ _ aE) (asK [] Z) Z (H':=[_,_]) Z ?_
 rintro _ _ _ ⟨rfl,rfl,rfl⟩
 refine wS 3 0 Z Q13 (all':=V5 ..) Z (H':=V4 ..) Z (Q4 (Q3 (Q2 [2] (S':=[_]) Z (Qo ?_))))
 have hE:=(Zi hm).symm
 obtain ⟨hE0,hF1⟩:=Prod.mk.inj hE
 obtain ⟨hE1,hE2⟩:=Prod.mk.inj hF1
 clear hE hF1
 replace hE0:=hE0.symm
 subst hE0
 replace hE1:=hE1.symm
 subst hE1
 replace hE2:=hE2.symm
 subst hE2
 refine Qp (Hr:=[_,_]) [0,1] Tryz.results205 (Q1e 3 Z Z Q13 Q1V Z Z) ⟨Z,Z,Z⟩ (asK [] Z) Z Z (.inl Z)
theorem Q8B (N:Nat) (a5:Nat) (s:OA) (z:Nat) (a0:Nat) (l0:List Q1b) (a1:Int) (a2:Bool) (o0:Int) (o1:ByteArray) (o2:Int) (hm:Q4a N l0 a1 a2 = some (o0,o1,o2)):Q17 Tryz.prog 221 [.pointer (some ⟨a5,0,none⟩)] [] [.blk a5 [.slice s z a0,.int .i64 a1,.bool a2] 194,.own 197 3 Q10 (.slice s z a0) l0] (fun v Φr Hr=>v = .agg #[.int .u8 o0,.string o1,.int .i64 0,.int .i64 o2,V1] ∧ Φr = [] ∧ Hr = [.blk a5 [.slice s z a0,.int .i64 (a1 + 1),.bool a2] 194,.own 197 3 Q10 (.slice s z a0) l0]):=by
 unfold Q4a at hm
 refine QC Tryz.func221 Z Tryz.ntmps221 Z (S:=[_]) Z (fun C=>(Q5 (Q1 (QK Z Z Z Zq Z Q3P Z (fun g2=>(Q4 (Q3 (Q5 (Q5 (Q1 (wP Z ?_)))))))))))
 obtain ⟨⟨aB,aM,aN⟩,aE,hm⟩:=Q6 hm
 try dsimp only at hm
 refine wC [1,2] [0] Z Q8T Z (Q1f N a5 s z a0 l0 a1 a2 _ _ _ aE) (asK [] Z) Z (H':=[_]) Z ?_
 rintro _ _ _ ⟨rfl,rfl,rfl⟩
 refine Q1w Z Z Z Zq (Q6w Z Z tFT_197_0 QbC QaO (v:=.int .u8 aB) Z) (Q4 (Q3 (Q2 [6,2,0] (S':=V3 ..) Z (Qw (Q5 (Q1 (wP Z (wP Z (Q4 (Q3 (Q2 [7,6,2,0] (S':=V4 ..) Z ?_)))))))))))
 refine Qt Z (fun a6=>?_) (fun a6=>?_)
 replace hm:=QI hm a6
 refine Q2 [2,0] (S':=[_,_]) Z (Q5 (Q1 (wP Z ?_)))
 obtain ⟨⟨aF,aG⟩,aC,hm⟩:=Q6 hm
 try dsimp only at hm
 refine wC [0,1] [2] Z Qbs Z (Q1M N a5 s z a0 l0 a1 a2 4 14 _ _ aC) (asK [] Z) Z (H':=[_]) Z ?_
 rintro _ _ _ ⟨rfl,rfl,rfl⟩
 refine wS 2 0 Z Q13 (all':=V5 ..) Z (H':=V3 ..) Z (Q4 (Q3 (Q2 [2] (S':=[_]) Z (Qo (Qk (Q9 ?_))))))
 have hE:=(Zi hm).symm
 obtain ⟨hE0,hF1⟩:=Prod.mk.inj hE
 obtain ⟨hE1,hE2⟩:=Prod.mk.inj hF1
 clear hE hF1
 replace hE0:=hE0.symm
 subst hE0
 replace hE1:=hE1.symm
 subst hE1
 replace hE2:=hE2.symm
 subst hE2
 refine Qp (Hr:=[_,_]) [0,1] Tryz.results221 (Q1e 2 Z Z Q13 Q1V Z Z) ⟨Z,Z,Z⟩ (asK [] Z) Z Z (.inl Z)
 replace hm:=QH hm a6
 refine Q2 [6,2,0] (S':=V3 ..) Z (Q5 (Q1 (wP Z (wP Z ?_))))
 obtain ⟨a7,hm⟩:=Qd hm
 refine Qs (d:=11) (v':=.bool false) (S':=V4 ..) Z Z (Qy a7) (Q4 (Q3 (Q2 [11,6,2,0] (S':=V4 ..) Z (Q1l Z (Q2 [6,2,0] (S':=V3 ..) Z (Q5 (Q1 (wP Z (wP Z ?_)))))))))
 obtain ⟨a8,hm⟩:=Qd hm
 refine Qs (d:=15) (v':=.bool true) (S':=V4 ..) Z Z (Qy a8) (Q4 (Q3 (Q2 [15,2,0] (S':=V3 ..) Z (Q8D Z (Q2 [2,0] (S':=[_,_]) Z (Q5 (Q1 (wP Z ?_))))))))
 obtain ⟨⟨aH,aI⟩,aD,hm⟩:=Q6 hm
 try dsimp only at hm
 refine wC [0,1] [2] Z Qbs Z (Q1M N a5 s z a0 l0 a1 a2 3 13 _ _ aD) (asK [] Z) Z (H':=[_]) Z ?_
 rintro _ _ _ ⟨rfl,rfl,rfl⟩
 refine wS 2 0 Z Q13 (all':=V5 ..) Z (H':=V3 ..) Z (Q4 (Q3 (Q2 [2] (S':=[_]) Z (Qo (Qk (Q9 ?_))))))
 have hE:=(Zi hm).symm
 obtain ⟨hE0,hF1⟩:=Prod.mk.inj hE
 obtain ⟨hE1,hE2⟩:=Prod.mk.inj hF1
 clear hE hF1
 replace hE0:=hE0.symm
 subst hE0
 replace hE1:=hE1.symm
 subst hE1
 replace hE2:=hE2.symm
 subst hE2
 refine Qp (Hr:=[_,_]) [0,1] Tryz.results221 (Q1e 2 Z Z Q13 Q1V Z Z) ⟨Z,Z,Z⟩ (asK [] Z) Z Z (.inl Z)
theorem Qbj (N:Nat) (a0:ByteArray) (a5:OA) (a6:Nat) (l1:List ByteArray) (o0:Bool) (hm:Q7i N a0 l1 = some o0):Q17 Tryz.prog 234 [.string a0,.slice a5 l1.length a6] [.sli 1 Q1u a5 a6 l1] [] (fun v Φr Hr=>v = .bool o0 ∧ Φr = [] ∧ Hr = []):=by
 unfold Q7i at hm
 refine QC Tryz.func234 Z Tryz.ntmps234 Z (S:=[_,_]) Z (fun C=>(Q5 (Q1 (wP Z (Q4 (Q3 (Q2 [0,1] (S':=[_,_]) Z (Q5 ?_))))))))
 obtain ⟨a8,hm,hLj_1⟩:=Q1o hm
 refine QM (σ:=Unit) (fun _=>a8 = .inl ()) (fun _=>[]) (fun _=>[]) (fun _=>[]) ?_ ?_
 refine Q5 (Q1 (wP Z (Q4 (Q3 (Qw (Q1j (σ:=Nat × Nat) (fun (z,s)=>Q1h (Q62 N l1 a0) z s = some a8) (fun (z,s)=>z) (fun (z,s)=>[(5,.int .i64 ((s:Nat):Int)),(0,.string a0),(1,.slice a5 l1.length a6)]) (fun (z,s)=>[.sli 1 Q1u a5 a6 l1]) (fun (z,s)=>[]) (N,0) hm [5,0,1] Z (asK [0] Z) Z (fun s_ hm=>?_)))))))
 obtain ⟨z,s⟩:=s_
 try dsimp only at hm ⊢
 obtain ⟨aI,aJ,aA,hq,hLu1⟩:=QV hm
 clear hm
 subst aA
 replace hm:=hq
 clear hq
 unfold Q62 at hm
 try dsimp only at hm
 refine Q5 (Q5 (Q1 (wP Z (wP Z (wN Z Q22 (wP Z (Qs (d:=9) (v':=.bool (decide (s < l1.length))) (S':=V6 ..) Z Z (Q2l (a:=s) (b:=l1.length)) (Q4 (Q3 (Q2 [9,5,0,1] (S':=V4 ..) Z ?_))))))))))
 refine Qt Z (fun a9=>?_) (fun a9=>?_)
 replace hm:=QI hm a9
 refine Q2 [5,0,1] (S':=V3 ..) Z (Qr (Q3 (Q5 (Qw (Q5 (Q1 (wP Z (wP Z ?_))))))))
 obtain ⟨aK,aB,hm⟩:=Q6 hm
 refine Q1a 0 s Z Z Z Zq Z Z Z Z Z aB Q22 Q2e (fun aL aM aH aF=>(Q1G Q6A 1 Z (fun aN aC _=>?_)))
 subst aC
 refine Q1F 0 0 Z Z Z Zq Z Z Z (cs:=[_]) Z Q2e Q3O Z Z (wP Z (wP Z (Q4 (Q3 (Q2 [17,5,0,1] (S':=V4 ..) Z ?_)))))
 refine Qt Z (fun a1=>?_) (fun a1=>?_)
 replace hm:=QI hm a1
 refine Q2 [] (S':=[]) Z (Q5 (Q1 (wP Z (Q4 (Q3 (Qo (Qk (Q9 (Q9 (Qk (Q9 ?_)))))))))))
 have hE:=(Zi hm).symm
 replace hE:=Qx hLu1 hE
 replace hE:=Qx hLj_1 hE
 replace hE:=hE.symm
 subst hE
 refine Qp (Hr:=[]) [] Tryz.results234 (Qg Z) ⟨Z,Z,Z⟩ (asK [] Z) Z Z (.inl Z)
 replace hm:=QH hm a1
 refine Q2 [5,0,1] (S':=V3 ..) Z (Qr (Qf (Q3 (Q1 (wP Z (wP Z ?_))))))
 obtain ⟨aD,hm⟩:=Qd hm
 refine Qs (d:=11) (v':=.int .i64 ((s + 1:Nat):Int)) (S':=V4 ..) Z Z (Q1r (a:=s) (b:=1) aD) (QT (S':=V4 ..) Z Z Z Z Z (Q4 ?_))
 have hE:=(Zi hm).symm
 replace hE:=QF hLu1 hE
 refine QU (_,s + 1) (Nat.lt_succ_self _) hE [5,0,1] Z (asK [2] Z) Z
 replace hm:=QH hm a9
 refine Q2 [] (S':=[]) Z (Q1g (Qj (Qj (QD ?_))))
 have hE:=(Zi hm).symm
 replace hE:=Qx hLu1 hE
 refine Qh () hE [] Z (asK [] Z) Z
 rintro _ hE
 try dsimp only
 have hm:=QF hLj_1 hE
 try dsimp only at hm
 refine Q5 (Q1 (wP Z (Q4 (Q3 (Qo ?_)))))
 have hE:=(Zi hm).symm
 replace hE:=hE.symm
 subst hE
 refine Qp (Hr:=[]) [] Tryz.results234 (Qg Z) ⟨Z,Z,Z⟩ (asK [] Z) Z Z (.inl Z)
theorem Q8k (N:Nat) (aC:Nat) (a9:OA) (aA:Nat) (aB:Nat) (l0:List Q1b) (a1:Int) (a2:Bool) (a3:Int) (o0:Bool) (hm:Q3W N l0 a1 a2 a3 = some o0):Q17 Tryz.prog 222 [.pointer (some ⟨aC,0,none⟩),.int .i64 a3] [] [.blk aC [.slice a9 aA aB,.int .i64 a1,.bool a2] 194,.own 197 3 Q10 (.slice a9 aA aB) l0] (fun v Φr Hr=>v = .bool o0 ∧ Φr = [] ∧ Hr = [.blk aC [.slice a9 aA aB,.int .i64 a1,.bool a2] 194,.own 197 3 Q10 (.slice a9 aA aB) l0]):=by
 unfold Q3W at hm
 refine QC Tryz.func222 Z Tryz.ntmps222 Z (S:=[_,_]) Z (fun C=>(Q5 (Q1 (wP Z (Q4 (Q3 (Q2 [0,1] (S':=[_,_]) Z (Q5 (Q1 (wP Z ?_))))))))))
 obtain ⟨⟨aR,aH,aS⟩,aO,hm⟩:=Q6 hm
 try dsimp only at hm
 refine wC [0,1] [] Z Q8T Z (Q1f N aC a9 aA aB l0 a1 a2 _ _ _ aO) (asK [] Z) Z (H':=[]) Z ?_
 rintro _ _ _ ⟨rfl,rfl,rfl⟩
 refine QK Z Z Z Zq Z Q7U Z (fun g5=>(wS 0 0 Z Q52 (all':=V3 ..) Z (H':=V3 ..) Z (Q4 (Q3 (Q2 [5,0,1] (S':=V3 ..) Z (Q5 (Q5 (Q1 (wP Z (wP Z (wF Z Q8y (wD 1 2 Z tS_4 tA_4 Z (wP Z ?_)))))))))))))
 obtain ⟨aE,hm⟩:=Qd hm
 refine Qs (d:=13) (v':=.bool false) (S':=V7 ..) Z Z (Qy aE) (wF Z Qaf (wD 0 0 Z QaO QbC Z (wP Z (wP Z ?_))))
 obtain ⟨aF,hm⟩:=Qd hm
 refine Qs (d:=17) (v':=.bool false) (S':=V11 ..) Z Z (Qy aF) (wO Z (wO Z (wO Z (wP Z (wP Z (Q4 (Q3 (Q2 [22,5,1] (S':=V3 ..) Z (Q1l Z (Q2 [5,1] (S':=[_,_]) Z (Qr (Q3 (Q5 ?_)))))))))))))
 refine Q1 (QB Z Z Z Zq Z Q22 Q2e tZ_9 Z (zs:=[.string ((⟨#[]⟩ : ByteArray))]) (by kernel_rfl) Z (out:=[_]) Z (fun s=>(QB Z Z Z Zq Z Q22 Q2e tZ_9 Z (zs:=[.string ((⟨#[]⟩ : ByteArray))]) (by kernel_rfl) Z (out:=[_]) Z (fun z=>(QB Z Z Z Zq Z Q22 Q2e tZ_9 Z (zs:=[.string ((⟨#[]⟩ : ByteArray)),.string ((⟨#[]⟩ : ByteArray)),.string ((⟨#[]⟩ : ByteArray)),.string ((⟨#[]⟩ : ByteArray)),.string ((⟨#[]⟩ : ByteArray)),.string ((⟨#[]⟩ : ByteArray))]) (by kernel_rfl) Z (out:=V6 ..) Z (fun a0=>(QB Z Z Z Zq Z Q22 Q2e tZ_9 Z (zs:=[.string ((⟨#[]⟩ : ByteArray)),.string ((⟨#[]⟩ : ByteArray))]) (by kernel_rfl) Z (out:=[_,_]) Z (fun a5=>(QB Z Z Z Zq Z Q22 Q2e tZ_9 Z (zs:=[.string ((⟨#[]⟩ : ByteArray))]) (by kernel_rfl) Z (out:=[_]) Z (fun a7=>(QB Z Z Z Zq Z tE_269 Q7F tZ_204 Z (zs:=[V1,V1,V1,V1,V1]) (by kernel_rfl) Z (out:=V5 ..) Z (fun aP=>(wP Z (Q4 (Q3 (Q2 [6,5,1] (S':=V3 ..) Z (Q5 ?_)))))))))))))))))
 obtain ⟨aI,hm⟩:=Qd hm
 obtain ⟨aD,aJ,hm⟩:=Q6 hm
 obtain ⟨aT,aK,hm⟩:=Q6 hm
 refine QW [0,1,2,3] Z Z (fun hok=>(Q8 hok 0 Z Z Z Zq Z Z Z Qb9 (Qn hok 1 6 1 Z Z Z Zq Z Z Z Z (cs:=[_]) Z Q2e Q3O Z Z (xP hok 2 Z (xP hok 3 Z (xS hok 4 Z (Q1Z (sz:=1) (m:=1) Q1u ([(⟨#[111,114]⟩ : ByteArray)]) 5 Z (fun F w hφ=>⟨[.string ((⟨#[111,114]⟩ : ByteArray))],[],Z,Z,⟨(),Z,Qu⟩,Z⟩) Z (by decide) (H':=V9 ..) Z (Q1Z (sz:=1) (m:=1) Q1u ([(⟨#[97,110,100]⟩ : ByteArray)]) 4 Z (fun F w hφ=>⟨[.string ((⟨#[97,110,100]⟩ : ByteArray))],[],Z,Z,⟨(),Z,Qu⟩,Z⟩) Z (by decide) (H':=V9 ..) Z (Q1Z (sz:=1) (m:=6) Q1u ([(⟨#[61]⟩ : ByteArray),(⟨#[33,61]⟩ : ByteArray),(⟨#[60]⟩ : ByteArray),(⟨#[60,61]⟩ : ByteArray),(⟨#[62]⟩ : ByteArray),(⟨#[62,61]⟩ : ByteArray)]) 3 Z (fun F w hφ=>⟨[.string ((⟨#[61]⟩ : ByteArray))],[.string ((⟨#[33,61]⟩ : ByteArray)),.string ((⟨#[60]⟩ : ByteArray)),.string ((⟨#[60,61]⟩ : ByteArray)),.string ((⟨#[62]⟩ : ByteArray)),.string ((⟨#[62,61]⟩ : ByteArray))],Z,Z,⟨(),Z,Qu⟩,⟨[.string ((⟨#[33,61]⟩ : ByteArray))],[.string ((⟨#[60]⟩ : ByteArray)),.string ((⟨#[60,61]⟩ : ByteArray)),.string ((⟨#[62]⟩ : ByteArray)),.string ((⟨#[62,61]⟩ : ByteArray))],Z,Z,⟨(),Z,Qu⟩,⟨[.string ((⟨#[60]⟩ : ByteArray))],[.string ((⟨#[60,61]⟩ : ByteArray)),.string ((⟨#[62]⟩ : ByteArray)),.string ((⟨#[62,61]⟩ : ByteArray))],Z,Z,⟨(),Z,Qu⟩,⟨[.string ((⟨#[60,61]⟩ : ByteArray))],[.string ((⟨#[62]⟩ : ByteArray)),.string ((⟨#[62,61]⟩ : ByteArray))],Z,Z,⟨(),Z,Qu⟩,⟨[.string ((⟨#[62]⟩ : ByteArray))],[.string ((⟨#[62,61]⟩ : ByteArray))],Z,Z,⟨(),Z,Qu⟩,⟨[.string ((⟨#[62,61]⟩ : ByteArray))],[],Z,Z,⟨(),Z,Qu⟩,Z⟩⟩⟩⟩⟩⟩) Z (by decide) (H':=V9 ..) Z (Q1Z (sz:=1) (m:=2) Q1u ([(⟨#[43]⟩ : ByteArray),(⟨#[45]⟩ : ByteArray)]) 2 Z (fun F w hφ=>⟨[.string ((⟨#[43]⟩ : ByteArray))],[.string ((⟨#[45]⟩ : ByteArray))],Z,Z,⟨(),Z,Qu⟩,⟨[.string ((⟨#[45]⟩ : ByteArray))],[],Z,Z,⟨(),Z,Qu⟩,Z⟩⟩) Z (by decide) (H':=V9 ..) Z (Q1Z (sz:=1) (m:=1) Q1u ([(⟨#[42]⟩ : ByteArray)]) 1 Z (fun F w hφ=>⟨[.string ((⟨#[42]⟩ : ByteArray))],[],Z,Z,⟨(),Z,Qu⟩,Z⟩) Z (by decide) (H':=V9 ..) Z (Q1Z (sz:=1) (m:=5) Q67.pair ([([(⟨#[111,114]⟩ : ByteArray)],(some (⟨s,0,none⟩ : Addr),1)),([(⟨#[97,110,100]⟩ : ByteArray)],(some (⟨z,0,none⟩ : Addr),1)),([(⟨#[61]⟩ : ByteArray),(⟨#[33,61]⟩ : ByteArray),(⟨#[60]⟩ : ByteArray),(⟨#[60,61]⟩ : ByteArray),(⟨#[62]⟩ : ByteArray),(⟨#[62,61]⟩ : ByteArray)],(some (⟨a0,0,none⟩ : Addr),6)),([(⟨#[43]⟩ : ByteArray),(⟨#[45]⟩ : ByteArray)],(some (⟨a5,0,none⟩ : Addr),2)),([(⟨#[42]⟩ : ByteArray)],(some (⟨a7,0,none⟩ : Addr),1))]) 0 Z (fun F w hφ=>⟨[.slice (some ⟨s,0,none⟩) 1 1],[.slice (some ⟨z,0,none⟩) 1 1,.slice (some ⟨a0,0,none⟩) 6 6,.slice (some ⟨a5,0,none⟩) 2 2,.slice (some ⟨a7,0,none⟩) 1 1],Z,Z,Z,⟨[.slice (some ⟨z,0,none⟩) 1 1],[.slice (some ⟨a0,0,none⟩) 6 6,.slice (some ⟨a5,0,none⟩) 2 2,.slice (some ⟨a7,0,none⟩) 1 1],Z,Z,Z,⟨[.slice (some ⟨a0,0,none⟩) 6 6],[.slice (some ⟨a5,0,none⟩) 2 2,.slice (some ⟨a7,0,none⟩) 1 1],Z,Z,Z,⟨[.slice (some ⟨a5,0,none⟩) 2 2],[.slice (some ⟨a7,0,none⟩) 1 1],Z,Z,Z,⟨[.slice (some ⟨a7,0,none⟩) 1 1],[],Z,Z,Z,Z⟩⟩⟩⟩⟩) Z (by decide) (H':=V9 ..) Z (Q27 [Q4i Q67 [] none,_,_,_,_,_,_,_,_,_] (fun _ h=>h.bagNil Q67) (Q5y [6,0,1,2,3,4,5,7,8,9] Z (H':=V10 ..) Z ?_))))))))))))))
 refine Q27 [Q4i Q67 ([([(⟨#[111,114]⟩ : ByteArray)],(some (⟨s,0,none⟩ : Addr),1))]) none,_,_,_,_,_,_,_,_] (fun _ h=>Q16.bagPush (T:=Q67) (x:=[(⟨#[111,114]⟩ : ByteArray)]) (r:=(some (⟨s,0,none⟩ : Addr),1)) (zs:=[]) (H:=V9 ..) h 0 Z) (Q5y [5,0,1,2,3,4,6,7,8] Z (H':=V9 ..) Z (Q27 [Q4i Q67 (([([(⟨#[111,114]⟩ : ByteArray)],(some (⟨s,0,none⟩ : Addr),1))]) ++ [([(⟨#[97,110,100]⟩ : ByteArray)],(some (⟨z,0,none⟩ : Addr),1))]) none,_,_,_,_,_,_,_] (fun _ h=>Q16.bagPush (T:=Q67) (x:=[(⟨#[97,110,100]⟩ : ByteArray)]) (r:=(some (⟨z,0,none⟩ : Addr),1)) (zs:=[([(⟨#[111,114]⟩ : ByteArray)],(some (⟨s,0,none⟩ : Addr),1))]) (H:=V8 ..) h 0 Z) (Q5y [4,0,1,2,3,5,6,7] Z (H':=V8 ..) Z (Q27 [Q4i Q67 ((([([(⟨#[111,114]⟩ : ByteArray)],(some (⟨s,0,none⟩ : Addr),1))]) ++ [([(⟨#[97,110,100]⟩ : ByteArray)],(some (⟨z,0,none⟩ : Addr),1))]) ++ [([(⟨#[61]⟩ : ByteArray),(⟨#[33,61]⟩ : ByteArray),(⟨#[60]⟩ : ByteArray),(⟨#[60,61]⟩ : ByteArray),(⟨#[62]⟩ : ByteArray),(⟨#[62,61]⟩ : ByteArray)],(some (⟨a0,0,none⟩ : Addr),6))]) none,_,_,_,_,_,_] (fun _ h=>Q16.bagPush (T:=Q67) (x:=[(⟨#[61]⟩ : ByteArray),(⟨#[33,61]⟩ : ByteArray),(⟨#[60]⟩ : ByteArray),(⟨#[60,61]⟩ : ByteArray),(⟨#[62]⟩ : ByteArray),(⟨#[62,61]⟩ : ByteArray)]) (r:=(some (⟨a0,0,none⟩ : Addr),6)) (zs:=([([(⟨#[111,114]⟩ : ByteArray)],(some (⟨s,0,none⟩ : Addr),1))]) ++ [([(⟨#[97,110,100]⟩ : ByteArray)],(some (⟨z,0,none⟩ : Addr),1))]) (H:=V7 ..) h 0 Z) (Q5y [3,0,1,2,4,5,6] Z (H':=V7 ..) Z (Q27 [Q4i Q67 (((([([(⟨#[111,114]⟩ : ByteArray)],(some (⟨s,0,none⟩ : Addr),1))]) ++ [([(⟨#[97,110,100]⟩ : ByteArray)],(some (⟨z,0,none⟩ : Addr),1))]) ++ [([(⟨#[61]⟩ : ByteArray),(⟨#[33,61]⟩ : ByteArray),(⟨#[60]⟩ : ByteArray),(⟨#[60,61]⟩ : ByteArray),(⟨#[62]⟩ : ByteArray),(⟨#[62,61]⟩ : ByteArray)],(some (⟨a0,0,none⟩ : Addr),6))]) ++ [([(⟨#[43]⟩ : ByteArray),(⟨#[45]⟩ : ByteArray)],(some (⟨a5,0,none⟩ : Addr),2))]) none,_,_,_,_,_] (fun _ h=>Q16.bagPush (T:=Q67) (x:=[(⟨#[43]⟩ : ByteArray),(⟨#[45]⟩ : ByteArray)]) (r:=(some (⟨a5,0,none⟩ : Addr),2)) (zs:=(([([(⟨#[111,114]⟩ : ByteArray)],(some (⟨s,0,none⟩ : Addr),1))]) ++ [([(⟨#[97,110,100]⟩ : ByteArray)],(some (⟨z,0,none⟩ : Addr),1))]) ++ [([(⟨#[61]⟩ : ByteArray),(⟨#[33,61]⟩ : ByteArray),(⟨#[60]⟩ : ByteArray),(⟨#[60,61]⟩ : ByteArray),(⟨#[62]⟩ : ByteArray),(⟨#[62,61]⟩ : ByteArray)],(some (⟨a0,0,none⟩ : Addr),6))]) (H:=V6 ..) h 0 Z) (Q5y [2,0,1,3,4,5] Z (H':=V6 ..) Z (Q27 [Q4i Q67 ((((([([(⟨#[111,114]⟩ : ByteArray)],(some (⟨s,0,none⟩ : Addr),1))]) ++ [([(⟨#[97,110,100]⟩ : ByteArray)],(some (⟨z,0,none⟩ : Addr),1))]) ++ [([(⟨#[61]⟩ : ByteArray),(⟨#[33,61]⟩ : ByteArray),(⟨#[60]⟩ : ByteArray),(⟨#[60,61]⟩ : ByteArray),(⟨#[62]⟩ : ByteArray),(⟨#[62,61]⟩ : ByteArray)],(some (⟨a0,0,none⟩ : Addr),6))]) ++ [([(⟨#[43]⟩ : ByteArray),(⟨#[45]⟩ : ByteArray)],(some (⟨a5,0,none⟩ : Addr),2))]) ++ [([(⟨#[42]⟩ : ByteArray)],(some (⟨a7,0,none⟩ : Addr),1))]) none,_,_,_,_] (fun _ h=>Q16.bagPush (T:=Q67) (x:=[(⟨#[42]⟩ : ByteArray)]) (r:=(some (⟨a7,0,none⟩ : Addr),1)) (zs:=((([([(⟨#[111,114]⟩ : ByteArray)],(some (⟨s,0,none⟩ : Addr),1))]) ++ [([(⟨#[97,110,100]⟩ : ByteArray)],(some (⟨z,0,none⟩ : Addr),1))]) ++ [([(⟨#[61]⟩ : ByteArray),(⟨#[33,61]⟩ : ByteArray),(⟨#[60]⟩ : ByteArray),(⟨#[60,61]⟩ : ByteArray),(⟨#[62]⟩ : ByteArray),(⟨#[62,61]⟩ : ByteArray)],(some (⟨a0,0,none⟩ : Addr),6))]) ++ [([(⟨#[43]⟩ : ByteArray),(⟨#[45]⟩ : ByteArray)],(some (⟨a5,0,none⟩ : Addr),2))]) (H:=V5 ..) h 0 Z) (Qb0 0 (φ':=Q4i Q67 ([([(⟨#[111,114]⟩ : ByteArray)],(some (⟨s,0,none⟩ : Addr),1)),([(⟨#[97,110,100]⟩ : ByteArray)],(some (⟨z,0,none⟩ : Addr),1)),([(⟨#[61]⟩ : ByteArray),(⟨#[33,61]⟩ : ByteArray),(⟨#[60]⟩ : ByteArray),(⟨#[60,61]⟩ : ByteArray),(⟨#[62]⟩ : ByteArray),(⟨#[62,61]⟩ : ByteArray)],(some (⟨a0,0,none⟩ : Addr),6)),([(⟨#[43]⟩ : ByteArray),(⟨#[45]⟩ : ByteArray)],(some (⟨a5,0,none⟩ : Addr),2)),([(⟨#[42]⟩ : ByteArray)],(some (⟨a7,0,none⟩ : Addr),1))]) none) Z Z (H':=V5 ..) Z (Q27 [Q21 Q67 204 1 (.slice (some ⟨aP,0,none⟩) 5 5) ([[(⟨#[111,114]⟩ : ByteArray)],[(⟨#[97,110,100]⟩ : ByteArray)],[(⟨#[61]⟩ : ByteArray),(⟨#[33,61]⟩ : ByteArray),(⟨#[60]⟩ : ByteArray),(⟨#[60,61]⟩ : ByteArray),(⟨#[62]⟩ : ByteArray),(⟨#[62,61]⟩ : ByteArray)],[(⟨#[43]⟩ : ByteArray),(⟨#[45]⟩ : ByteArray)],[(⟨#[42]⟩ : ByteArray)]]),_,_,_] (fun _ h=>h.treeIn 1 0 Z Z Z Z) (wl_treeOut 0 Z (fun aL aG=>?_))))))))))))
 obtain ⟨a6,a8⟩:=zip_at aG aJ
 refine Q8j 1 a3.toNat Z Z Z Zq Z Z Z Z (Q1d aI) (Q2Y a8) tE_269 Q7F (Q4 (QJ [] [2] Z Z (xS hok 5 Z (Q27 [.own 9 1 Q1u (.slice a6.1 aD.length a6.2) aD,Q4i Q67 aL (some a3.toNat),_,_,_,_] (fun _ h=>h.bagOpen 0 a3.toNat Z a8) (Q29 pair_opens 2 a3.toNat 0 Z Z Z Zq Z Z Z a8 Q7F Qac (v:=fun _=>.slice a6.1 aD.length a6.2) (fun _=>Z) (fun _=>Z) (fun _ _=>(Q4 (QJ [] [3] Z Z (xS hok 6 Z (Q53 [] [0,1,2,3,4,5] [0] Z Z Z Zq Z Z fn_234 Z (Qbj N aH a6.1 a6.2 aD _ aK) (fun F w hφ hh=>(Q14 (Q1A (hh _ (Q12 (k:=0) Z))) Qu)) (fun _ _ _ hR=>by obtain ⟨rfl,rfl,rfl⟩:=hR; exact ⟨Z,(fun _ h=>Q3G h)⟩) Z Z (H':=V6 ..) Z ?_))))))))))
 rintro _ _ _ ⟨rfl,rfl,rfl⟩
 refine Q4 (QJ [] [] Z Z (xS hok 7 Z (wP Z (Q4 (QJ [] [] Z Z (QS hok Z (Q3 (Q2 [4] (S':=[_]) Z (Qo ?_)))))))))
 have hE:=(Zi hm).symm
 replace hE:=hE.symm
 subst hE
 refine Qp (Hr:=[_,_]) [4,5] Tryz.results222 (Qg Z) ⟨Z,Z,Z⟩ (asK [] Z) Z Z (.inl Z)
theorem Q8G (N:Nat) (rc:(List Q1b) → Int → Bool → Int → Option (Int × ByteArray × Int × (List Qe) × Int)) (ih : ∀ (aJ:Nat) (aG:OA) (aH:Nat) (aI:Nat) (l0:List Q1b) (a1:Int) (a2:Bool) (a3:Int) (o0:Int) (o1:ByteArray) (o2:Int) (o5:List Qe) (o6:Int),rc l0 a1 a2 a3 = some (o0,o1,o2,o5,o6) → Q17 Tryz.prog 206 [.pointer (some ⟨aJ,0,none⟩),.int .i64 a3] [] [.blk aJ [.slice aG aH aI,.int .i64 a1,.bool a2] 194,.own 197 3 Q10 (.slice aG aH aI) l0] (fun v Φr Hr=>∃ (o3:OA) (o4:Nat),v = .agg #[.int .u8 o0,.string o1,.int .i64 0,.int .i64 o2,.slice o3 o5.length o4] ∧ Φr = [.sli 5 Qq o3 o4 o5] ∧ Hr = [.blk aJ [.slice aG aH aI,.int .i64 o6,.bool a2] 194,.own 197 3 Q10 (.slice aG aH aI) l0])) (aJ:Nat) (aG:OA) (aH:Nat) (aI:Nat) (l0:List Q1b) (a1:Int) (a2:Bool) (a3:Int) (o0:Int) (o1:ByteArray) (o2:Int) (o5:List Qe) (o6:Int) (hm:Q4r N rc l0 a1 a2 a3 = some (o0,o1,o2,o5,o6)):Q17 Tryz.prog 206 [.pointer (some ⟨aJ,0,none⟩),.int .i64 a3] [] [.blk aJ [.slice aG aH aI,.int .i64 a1,.bool a2] 194,.own 197 3 Q10 (.slice aG aH aI) l0] (fun v Φr Hr=>∃ (o3:OA) (o4:Nat),v = .agg #[.int .u8 o0,.string o1,.int .i64 0,.int .i64 o2,.slice o3 o5.length o4] ∧ Φr = [.sli 5 Qq o3 o4 o5] ∧ Hr = [.blk aJ [.slice aG aH aI,.int .i64 o6,.bool a2] 194,.own 197 3 Q10 (.slice aG aH aI) l0]):=by
 unfold Q4r at hm
 refine QC Tryz.func206 Z Tryz.ntmps206 Z (S:=[_,_]) Z (fun C=>(Q5 (Q1 (QK Z Z Z Zq Z Q3P Z (fun g4=>(Q4 (Q3 (Q5 (Q5 (Q1 (wP Z (wP Z (wF Z Q8y (wD 1 2 Z tS_4 tA_4 Z ?_))))))))))))))
 obtain ⟨aZ,hm⟩:=Qd hm
 refine Qs (d:=12) (v':=.bool false) (S':=V6 ..) Z Z (Qy aZ) (Q4 (Q3 (Q2 [12,4,0,1] (S':=V4 ..) Z (Q1l Z (Q2 [4,0,1] (S':=V3 ..) Z (Qr (Q3 (Q5 (Q1 (wP Z ?_))))))))))
 obtain ⟨⟨bW,bX,aP⟩,bH,hm⟩:=Q6 hm
 try dsimp only at hm
 refine wC [1,2] [0] Z Q8T Z (Q1f N aJ aG aH aI l0 a1 a2 _ _ _ bH) (asK [] Z) Z (H':=[_]) Z ?_
 rintro _ _ _ ⟨rfl,rfl,rfl⟩
 refine Q1w Z Z Z Zq (Q6w Z Z Qcm Q1H Q1m (v:=.int .i64 aP) Z) (wP Z (Q4 (Q3 (Q2 [5,4,0,1] (S':=V4 ..) Z (Q5 (Q5 (Q1 (wP Z (wP Z (Q4 (Q3 (Q2 [18,5,4,0,1] (S':=V5 ..) Z ?_))))))))))))
 refine Qt Z (fun aT=>?_) (fun aT=>?_)
 replace hm:=QI hm aT
 refine Q2 [5,4,0,1] (S':=V4 ..) Z (Q5 (Q5 (Q1 (wP Z ?_))))
 obtain ⟨c3,bI,hm⟩:=Q6 hm
 refine wC [0,1] [2] Z Q86 Z (Q18 N aJ aG aH aI l0 a1 a2 (⟨#[45]⟩ : ByteArray) _ bI) (asK [] Z) Z (H':=[_]) Z ?_
 rintro _ _ _ ⟨rfl,rfl,rfl⟩
 refine wP Z ?_
 obtain ⟨b0,hm⟩:=Qd hm
 refine Qs (d:=21) (v':=.bool false) (S':=V6 ..) Z Z (Qy b0) (wP Z ?_)
 obtain ⟨c4,bJ,hm⟩:=Q6 hm
 refine wC [0,1] [2] Z Q86 Z (Q18 N aJ aG aH aI l0 a1 a2 (⟨#[110,111,116]⟩ : ByteArray) _ bJ) (asK [] Z) Z (H':=[_]) Z ?_
 rintro _ _ _ ⟨rfl,rfl,rfl⟩
 refine wP Z ?_
 obtain ⟨b1,hm⟩:=Qd hm
 refine Qs (d:=24) (v':=.bool false) (S':=V9 ..) Z Z (Qy b1) (Q4 (Q3 (Q2 [24,5,4,0,1] (S':=V5 ..) Z (Q1l Z (Q2 [4,0] (S':=[_,_]) Z (Qr (Q3 (Q5 (Q1 (wP Z ?_))))))))))
 obtain ⟨⟨bY,bZ,c0⟩,bK,hm⟩:=Q6 hm
 try dsimp only at hm
 refine wC [0,1] [2] Z fn_221 Z (Q8B N aJ aG aH aI l0 a1 a2 _ _ _ bK) (asK [] Z) Z (H':=[_]) Z ?_
 rintro _ _ _ ⟨rfl,rfl,rfl⟩
 refine wS 2 0 Z Q13 (all':=V5 ..) Z (H':=V3 ..) Z (Q4 (Q3 (Q2 [4] (S':=[_]) Z (Qo (Q9 ?_)))))
 have hE:=(Zi hm).symm
 obtain ⟨hE0,hF1⟩:=Prod.mk.inj hE
 obtain ⟨hE1,hF2⟩:=Prod.mk.inj hF1
 obtain ⟨hE2,hF3⟩:=Prod.mk.inj hF2
 obtain ⟨hE3,hE4⟩:=Prod.mk.inj hF3
 clear hE hF1 hF2 hF3
 replace hE0:=hE0.symm
 subst hE0
 replace hE1:=hE1.symm
 subst hE1
 replace hE2:=hE2.symm
 subst hE2
 replace hE3:=hE3.symm
 subst hE3
 replace hE4:=hE4.symm
 subst hE4
 refine we_fact (.sli 5 Qq none 0 ([] : List Qe)) (fun _ _ _=>Qaa) ?_
 refine Qp (Hr:=[_,_]) [0,1] Tryz.results206 (Q1e 2 Z Z Q13 Q1V Z Z) ⟨none,0,Z,Z,Z⟩ (asK [0] Z) Z Z (.inl Z)
 replace hm:=QH hm aT
 refine Q2 [5,4,0,1] (S':=V4 ..) Z (Qr (Q3 (Q5 (Q1 (wP Z (wP Z (wP Z ?_)))))))
 obtain ⟨bL,hm⟩:=Qd hm
 refine Qs (d:=42) (v':=.int .i64 (a3 + 1)) (S':=V6 ..) Z Z (i64_in bL) ?_
 obtain ⟨⟨b2,b3,b4,b5,b6⟩,bM,hm⟩:=Q6 hm
 try dsimp only at hm
 refine wC [0,1] [2] Z fn_206 Z (ih aJ aG aH aI l0 a1 a2 (a3 + 1) _ _ _ _ _ bM) (asK [] Z) Z (H':=[_]) Z ?_
 rintro _ _ _ ⟨b7,b8,rfl,rfl,rfl⟩
 refine QK Z Z Z Zq Z Q3P Z (fun g7=>(wS 0 0 Z Q13 (all':=V5 ..) Z (H':=V4 ..) Z (Q4 (Q3 (Q2 [7,5,4,0,1] (S':=V5 ..) Z (Q5 ?_))))))
 obtain ⟨aX,hm,hLj_1⟩:=Q6 hm
 refine QM (σ:=Int × ByteArray × Int × (List Qe) × Int × OA × Nat) (fun (aD,aE,aF,a9,aC,aA,aB)=>aX = (aD,aE,aF,a9,aC)) (fun (aD,aE,aF,a9,aC,aA,aB)=>[(7,.pointer (some ⟨g7,0,none⟩)),(4,.pointer (some ⟨g4,0,none⟩))]) (fun (aD,aE,aF,a9,aC,aA,aB)=>[.sli 5 Qq aA aB a9]) (fun (aD,aE,aF,a9,aC,aA,aB)=>[.blk g7 [.int .u8 aD,.string aE,.int .i64 0,.int .i64 aF,.slice aA a9.length aB] 159,.blk g4 [.int .u8 0,.string ((⟨#[]⟩ : ByteArray)),.int .i64 0,.int .i64 0,V1] 159,.blk aJ [.slice aG aH aI,.int .i64 aC,.bool a2] 194,.own 197 3 Q10 (.slice aG aH aI) l0]) ?_ ?_
 refine Qw (Q7M [0,3,1,2] Z (H':=V4 ..) Z (Q1j (σ:=Nat × Int × ByteArray × Int × (List Qe) × Int × OA × Nat) (fun (aQ,a5,a6,a7,s,a8,z,a0)=>Q1h (Q49 N l0 a2 a3 rc aP) aQ (a5,a6,a7,s,a8) = some aX) (fun (aQ,a5,a6,a7,s,a8,z,a0)=>aQ) (fun (aQ,a5,a6,a7,s,a8,z,a0)=>[(7,.pointer (some ⟨g7,0,none⟩)),(5,.int .i64 aP),(4,.pointer (some ⟨g4,0,none⟩)),(0,.pointer (some ⟨aJ,0,none⟩)),(1,.int .i64 a3)]) (fun (aQ,a5,a6,a7,s,a8,z,a0)=>[.sli 5 Qq z a0 s]) (fun (aQ,a5,a6,a7,s,a8,z,a0)=>[.blk g7 [.int .u8 a5,.string a6,.int .i64 0,.int .i64 a7,.slice z s.length a0] 159,.blk g4 [.int .u8 0,.string ((⟨#[]⟩ : ByteArray)),.int .i64 0,.int .i64 0,V1] 159,.blk aJ [.slice aG aH aI,.int .i64 a8,.bool a2] 194,.own 197 3 Q10 (.slice aG aH aI) l0]) (N,b2,b3,b4,b5,b6,b7,b8) hm [7,5,4,0,1] Z (asK [0] Z) Z (fun s_ hm=>?_)))
 obtain ⟨aQ,a5,a6,a7,s,a8,z,a0⟩:=s_
 try dsimp only at hm ⊢
 obtain ⟨c5,c6,bN,hq,hLu1⟩:=QV hm
 clear hm
 subst bN
 replace hm:=hq
 clear hq
 unfold Q49 at hm
 try dsimp only at hm
 refine Q5 (Q5 (Q1 (wP Z (wP Z ?_))))
 obtain ⟨c7,bO,hm⟩:=Q6 hm
 refine wC [2,3] [0,1] Z fn_222 Z (Q8k N aJ aG aH aI l0 a8 a2 a3 _ bO) (asK [] Z) Z (H':=[_,_]) Z ?_
 rintro _ _ _ ⟨rfl,rfl,rfl⟩
 refine Q4 (Q3 (Q2 [46,7,5,4,0,1] (S':=V6 ..) Z ?_))
 refine Qt Z (fun aU=>?_) (fun aU=>?_)
 replace hm:=QI hm aU
 refine Q2 [7,5,4,0,1] (S':=V5 ..) Z (Qr (Q3 (Qw (Q5 (Q1 (wP Z ?_))))))
 obtain ⟨⟨c1,aV,c2⟩,bP,hm⟩:=Q6 hm
 try dsimp only at hm
 refine wC [0,1] [2,3] Z Q8T Z (Q1f N aJ aG aH aI l0 a8 a2 _ _ _ bP) (asK [] Z) Z (H':=[_,_]) Z ?_
 rintro _ _ _ ⟨rfl,rfl,rfl⟩
 refine Q1w Z Z Z Zq (Q6w Z Z tFT_197_1 Q3O Q2e (v:=.string aV) Z) (wP Z (Q1v Z Z Z Zq Z Q3P tP_159 Z (out:=V5 ..) Z (QK Z Z Z Zq Z Q3P Z (fun g8=>(wS 0 0 Z Q13 (all':=V5 ..) Z (H':=V5 ..) Z (Q4 (Q3 (Q2 [8,7,5,4,0,1] (S':=V6 ..) Z (Q5 (Q1 (wP Z ?_)))))))))))
 obtain ⟨_,bQ,hm⟩:=Q6 hm
 try dsimp only at hm
 refine wC [1,2] [0,3,4] Z fn_162 Z (Q1X N aJ aG aH aI l0 a8 a2 bQ) (asK [] Z) Z (H':=V3 ..) Z ?_
 rintro _ _ _ ⟨rfl,rfl,rfl⟩
 refine Q4 (Q3 (Q2 [8,7,5,4,0,1] (S':=V6 ..) Z (Q5 ?_)))
 obtain ⟨bR,hm⟩:=Qd hm
 obtain ⟨⟨aK,aL,aM,aN,b9⟩,bS,hm⟩:=Q6 hm
 try dsimp only at hm
 refine QW [0,1,2,3,6] Z Z (fun hok=>(Qn hok 0 3 0 Z Z Z Zq Z Z Z Z (cs:=V5 ..) Z Q13 Q1V Z Z (xP hok 1 Z (xP hok 2 Z (xP hok 3 Z (Q1z (d:=57) (v':=.int .i64 (a3 + 1)) (S':=V9 ..) Z Z (i64_in bR) (xS hok 4 Z (wC [0,1] [2,3,4] Z fn_206 Z (ih aJ aG aH aI l0 (a8 + 1) a2 (a3 + 1) _ _ _ _ _ bS) (asK [] Z) Z (H':=V3 ..) Z ?_))))))))
 rintro _ _ _ ⟨aR,aS,rfl,rfl,rfl⟩
 refine Q4 (QJ [1] [3] Z Z (xS hok 5 Z (QB Z Z Z Zq Z Q1S Q13 Q3P Z (zs:=[.int .u8 0,.string ((⟨#[]⟩ : ByteArray)),.int .i64 0,.int .i64 0,V1,.int .u8 0,.string ((⟨#[]⟩ : ByteArray)),.int .i64 0,.int .i64 0,V1]) (by kernel_rfl) Z (out:=V10 ..) Z (fun bT=>(Q4 (QJ [0,1] [] Z Z (Q8 hok 6 Z Z Z Zq Z Z Z Q1B (xS hok 7 Z (wS 3 4 Z Q28 (all':=V5 ..) Z (H':=V6 ..) Z (Q4 (QJ [0,1] [] Z Z (QS hok Z (Q3 (Q2 [8,7,5,4,0,1] (S':=V6 ..) Z ?_))))))))))))))
 refine Q5 (Q1 (QO 3 0 Z Z Z Zq Z Z Z (cs:=V5 ..) Z Q13 Q1V Z Z (wS 4 0 Z Q13 (all':=V5 ..) Z (H':=V6 ..) Z (Q4 (Q3 (Q2 [7,5,4,0,1] (S':=V5 ..) Z (Q5 (Q1 (wP Z (wP Z ?_))))))))))
 obtain ⟨bA,hm⟩:=Qd hm
 refine Qs (d:=63) (v':=.bool false) (S':=V6 ..) Z Z (Qy bA) (Q4 (Q3 (Q2 [63,7,5,4,0,1] (S':=V6 ..) Z (Q1l Z (Q2 [7,5,4,0,1] (S':=V5 ..) Z (Qr (Qf (we_row (sz:=5) (m:=2) Qq ([(⟨a5,a6,0,a7,s⟩ : Qe),(⟨aK,aL,0,aM,aN⟩ : Qe)]) 0 Z (fun F w hφ=>⟨[.int .u8 a5,.string a6,.int .i64 0,.int .i64 a7,.slice z s.length a0],[.int .u8 aK,.string aL,.int .i64 0,.int .i64 aM,.slice aR aN.length aS],Z,Z,(Q7B (z,a0) Z (Q14 (hφ _ (Q12 (k:=1) Z)) Qu)),⟨[.int .u8 aK,.string aL,.int .i64 0,.int .i64 aM,.slice aR aN.length aS],[],Z,Z,(Q7B (aR,aS) Z (Q14 (hφ _ (Q12 (k:=0) Z)) Qu)),Z⟩⟩) Z (by decide) (H':=V6 ..) Z (we_freeze 0 Z (H':=V5 ..) Z (we_fact (.sli 5 Qq (some ⟨bT,0,none⟩) 2 ([(⟨a5,a6,0,a7,s⟩ : Qe),(⟨aK,aL,0,aM,aN⟩ : Qe)])) (fun F w hφ=>Q1A (hφ _ (Q12 (k:=0) Z))) ?_))))))))))
 have hE:=(Zi hm).symm
 replace hE:=QF hLu1 hE
 refine QE [3,4,0,1] Z (H':=V4 ..) Z ?_
 refine QU (_,16,aV,aP,[(⟨a5,a6,0,a7,s⟩ : Qe),(⟨aK,aL,0,aM,aN⟩ : Qe)],b9,some ⟨bT,0,none⟩,2) (Nat.lt_succ_self _) hE [7,5,4,0,1] Z (asK [0] Z) Z
 replace hm:=QH hm aU
 refine Q2 [7,4] (S':=[_,_]) Z (Q1g (Qj (Qj (QD ?_))))
 have hE:=(Zi hm).symm
 replace hE:=Qx hLu1 hE
 refine QE [2,3,0,1] Z (H':=V4 ..) Z ?_
 refine Qh (a5,a6,a7,s,a8,z,a0) hE [7,4] Z (asK [0] Z) Z
 rintro ⟨aD,aE,aF,a9,aC,aA,aB⟩ hE
 try dsimp only
 have hm:=hLj_1
 try rw [hE] at hm
 try dsimp only at hm
 refine Q5 (Q1 (QO 0 0 Z Z Z Zq Z Z Z (cs:=V5 ..) Z Q13 Q1V Z Z (wS 1 0 Z Q13 (all':=V5 ..) Z (H':=V4 ..) Z (Q4 (Q3 (Q2 [4] (S':=[_]) Z (Qo ?_)))))))
 have hE:=(Zi hm).symm
 obtain ⟨hE0,hF1⟩:=Prod.mk.inj hE
 obtain ⟨hE1,hF2⟩:=Prod.mk.inj hF1
 obtain ⟨hE2,hF3⟩:=Prod.mk.inj hF2
 obtain ⟨hE3,hE4⟩:=Prod.mk.inj hF3
 clear hE hF1 hF2 hF3
 replace hE0:=hE0.symm
 subst hE0
 replace hE1:=hE1.symm
 subst hE1
 replace hE2:=hE2.symm
 subst hE2
 replace hE3:=hE3.symm
 subst hE3
 replace hE4:=hE4.symm
 subst hE4
 refine Qp (Hr:=[_,_]) [2,3] Tryz.results206 (Q1e 1 Z Z Q13 Q1V Z Z) ⟨aA,aB,Z,Z,Z⟩ (asK [0] Z) Z Z (.inl Z)
theorem Q9u : ∀ (N:Nat),∀ (qg0:Nat) (qp1:OA) (qn2:Nat) (qc3:Nat) (l0:List Q1b) (a1:Int) (a2:Bool) (a3:Int) (o0:Int) (o1:ByteArray) (o2:Int) (o5:List Qe) (o6:Int),Q3t N l0 a1 a2 a3 = some (o0,o1,o2,o5,o6) → Q17 Tryz.prog 206 [.pointer (some ⟨qg0,0,none⟩),.int .i64 a3] [] [.blk qg0 [.slice qp1 qn2 qc3,.int .i64 a1,.bool a2] 194,.own 197 3 Q10 (.slice qp1 qn2 qc3) l0] (fun v Φr Hr=>∃ (o3:OA) (o4:Nat),v = .agg #[.int .u8 o0,.string o1,.int .i64 0,.int .i64 o2,.slice o3 o5.length o4] ∧ Φr = [.sli 5 Qq o3 o4 o5] ∧ Hr = [.blk qg0 [.slice qp1 qn2 qc3,.int .i64 o6,.bool a2] 194,.own 197 3 Q10 (.slice qp1 qn2 qc3) l0]):=by
 intro N
 induction N with
 | zero=>intro qg0 qp1 qn2 qc3 l0 a1 a2 a3 o0 o1 o2 o5 o6 hm; cases hm
 | succ N ih=>intro qg0 qp1 qn2 qc3 l0 a1 a2 a3 o0 o1 o2 o5 o6 hm; exact Q8G N (Q3t N) ih qg0 qp1 qn2 qc3 l0 a1 a2 a3 o0 o1 o2 o5 o6 hm
theorem Q4S (N:Nat) (aK:Nat) (aH:OA) (aI:Nat) (aJ:Nat) (l0:List Q1b) (a1:Int) (a2:Bool) (a3:Int) (o2:List Qe) (o4:Int) (hm:Q2S N l0 a1 a2 a3 = some (o2,o4)):Q17 Tryz.prog 164 [.pointer (some ⟨aK,0,none⟩),.int .i64 a3] [] [.blk aK [.slice aH aI aJ,.int .i64 a1,.bool a2] 194,.own 197 3 Q10 (.slice aH aI aJ) l0] (fun v Φr Hr=>∃ (o0:OA) (o1:Nat) (o3:Nat),v = .slice o0 o3 o1 ∧ Φr = [] ∧ Hr = [.own 159 5 Qq (.slice o0 o3 o1) o2,.blk aK [.slice aH aI aJ,.int .i64 o4,.bool a2] 194,.own 197 3 Q10 (.slice aH aI aJ) l0]):=by
 unfold Q2S at hm
 refine QC Tryz.func164 Z Tryz.ntmps164 Z (S:=[_,_]) Z (fun C=>(Q5 (Q1 (wP Z (Q4 (Q3 (Q2 [0,1] (S':=[_,_]) Z (Q5 (Q1 (wP Z (Q4 (Q3 (Q5 (Q1 ?_))))))))))))))
 refine wP Z ?_
 obtain ⟨_,bU,hm⟩:=Q6 hm
 try dsimp only at hm
 refine wC [0,1] [] Z QaM Z (Q1y N aK aH aI aJ l0 a1 a2 (⟨#[40]⟩ : ByteArray) bU) (asK [] Z) Z (H':=[]) Z ?_
 rintro _ _ _ ⟨rfl,rfl,rfl⟩
 refine Q4 (Q3 (Q2 [5,0,1] (S':=V3 ..) Z (Q5 ?_)))
 obtain ⟨b6,hm,hLj_1⟩:=Q6 hm
 refine QM (σ:=(List Qe) × Int × OA × Nat × Nat) (fun (aL,a9,aA,aB,aC)=>b6 = (aL,a9)) (fun (aL,a9,aA,aB,aC)=>[(5,.slice aA aC aB),(0,.pointer (some ⟨aK,0,none⟩))]) (fun (aL,a9,aA,aB,aC)=>[]) (fun (aL,a9,aA,aB,aC)=>[.own 159 5 Qq (.slice aA aC aB) aL,.blk aK [.slice aH aI aJ,.int .i64 a9,.bool a2] 194,.own 197 3 Q10 (.slice aH aI aJ) l0]) ?_ ?_
 refine Q5 (Q1 (wP Z ?_))
 obtain ⟨bV,bI,hm⟩:=Q6 hm
 refine wC [0,1] [] Z Q86 Z (Q18 N aK aH aI aJ l0 (a1 + 1) a2 (⟨#[41]⟩ : ByteArray) _ bI) (asK [] Z) Z (H':=[]) Z ?_
 rintro _ _ _ ⟨rfl,rfl,rfl⟩
 refine wP Z (wP Z (Q4 (Q3 (Q2 [6,5,0,1] (S':=V4 ..) Z (Qw (Q5b 159 5 Qq (Q1j (σ:=Nat × Bool × (List Qe) × Int × OA × Nat × Nat) (fun (aY,aW,s,a0,a5,a6,a7)=>Q1h (Q4s N a2 l0 a3) aY (aW,s,a0) = some b6) (fun (aY,aW,s,a0,a5,a6,a7)=>aY) (fun (aY,aW,s,a0,a5,a6,a7)=>[(6,.bool aW),(5,.slice a5 a7 a6),(0,.pointer (some ⟨aK,0,none⟩)),(1,.int .i64 a3)]) (fun (aY,aW,s,a0,a5,a6,a7)=>[]) (fun (aY,aW,s,a0,a5,a6,a7)=>[.own 159 5 Qq (.slice a5 a7 a6) s,.blk aK [.slice aH aI aJ,.int .i64 a0,.bool a2] 194,.own 197 3 Q10 (.slice aH aI aJ) l0]) (N,!bV,[],a1 + 1,none,0,0) hm [6,5,0,1] Z (asK [] Z) Z (fun s_ hm=>?_))))))))
 obtain ⟨aY,aW,s,a0,a5,a6,a7⟩:=s_
 try dsimp only at hm ⊢
 obtain ⟨c2,c3,bJ,hq,hLu1⟩:=QV hm
 clear hm
 subst bJ
 replace hm:=hq
 clear hq
 unfold Q4s at hm
 try dsimp only at hm
 refine Q5 (Q5 ?_)
 obtain ⟨bK,hm,hLj_2⟩:=Q6 hm
 refine QM (σ:=Bool) (fun aM=>bK = aM) (fun aM=>[(5,.slice a5 a7 a6),(0,.pointer (some ⟨aK,0,none⟩)),(1,.int .i64 a3),(19,.bool aM)]) (fun aM=>[]) (fun aM=>[.own 159 5 Qq (.slice a5 a7 a6) s,.blk aK [.slice aH aI aJ,.int .i64 a0,.bool a2] 194,.own 197 3 Q10 (.slice aH aI aJ) l0]) ?_ ?_
 refine Q1 (wP Z (wP Z ?_))
 refine QG (d:=13) (S':=V5 ..) Z Z (fun aZ=>?_) (fun aZ=>?_)
 replace hm:=QI hm aZ
 refine wP Z (wP Z (wF Z Q8y (wD 1 2 Z tS_4 tA_4 Z (wP Z (wP Z (Q4 ?_))))))
 have hE:=(Zi hm).symm
 refine Qh (!a2) hE [5,0,1,19] Z (asK [] Z) Z
 replace hm:=QH hm aZ
 refine wO Z (wO Z (wO Z (wO Z (wO Z (wP Z (Q4 ?_))))))
 have hE:=(Zi hm).symm
 refine Qh false hE [5,0,1,19] Z (asK [] Z) Z
 rintro aM hE
 try dsimp only
 have hm:=hLj_2
 try rw [hE] at hm
 refine Qt Z (fun b0=>?_) (fun b0=>?_)
 replace hm:=QI hm b0
 refine Q2 [5,0,1] (S':=V3 ..) Z (Qr (Q3 (Q5 ?_)))
 obtain ⟨bL,hm,hLj_3⟩:=Q6 hm
 unfold Q6C at hm
 refine QM (σ:=(List Qe) × Int × OA × Nat × Nat) (fun (aD,a8,aE,aF,aG)=>bL = (aD,a8)) (fun (aD,a8,aE,aF,aG)=>[(5,.slice aE aG aF),(0,.pointer (some ⟨aK,0,none⟩)),(1,.int .i64 a3)]) (fun (aD,a8,aE,aF,aG)=>[]) (fun (aD,a8,aE,aF,aG)=>[.own 159 5 Qq (.slice aE aG aF) aD,.blk aK [.slice aH aI aJ,.int .i64 a8,.bool a2] 194,.own 197 3 Q10 (.slice aH aI aJ) l0]) ?_ ?_
 refine Qw (Q5 ?_)
 obtain ⟨bM,hm,hLj_4⟩:=Q6 hm
 refine QM (σ:=Int) (fun z=>bM = z) (fun z=>[(5,.slice a5 a7 a6),(0,.pointer (some ⟨aK,0,none⟩)),(1,.int .i64 a3)]) (fun z=>[]) (fun z=>[.own 159 5 Qq (.slice a5 a7 a6) s,.blk aK [.slice aH aI aJ,.int .i64 z,.bool a2] 194,.own 197 3 Q10 (.slice aH aI aJ) l0]) ?_ ?_
 refine Q5 (Q1 (wP Z (QQ 0 Z (fun bN _=>(wN Z Q1S (Qs (d:=23) (v':=.int .i64 ((s.length:Nat):Int)) (S':=V4 ..) Z Z (Q7a bN) (wP Z (Qs (d:=24) (v':=.bool (decide (0 < s.length))) (S':=V5 ..) Z Z (natgt (a:=s.length) (b:=0)) (Q4 (Q3 (Q2 [24,5,0,1] (S':=V4 ..) Z ?_)))))))))))
 refine Qt Z (fun b1=>?_) (fun b1=>?_)
 replace hm:=QI hm b1
 refine Q2 [5,0,1] (S':=V3 ..) Z (Q1 (wP Z ?_))
 obtain ⟨_,bO,hm⟩:=Q6 hm
 try dsimp only at hm
 refine wC [1,2] [0] Z QaM Z (Q1y N aK aH aI aJ l0 a0 a2 (⟨#[44]⟩ : ByteArray) bO) (asK [] Z) Z (H':=[_]) Z ?_
 rintro _ _ _ ⟨rfl,rfl,rfl⟩
 refine Q4 ?_
 have hE:=(Zi hm).symm
 refine QE [2,0,1] Z (H':=V3 ..) Z ?_
 refine Qh (a0 + 1) hE [5,0,1] Z (asK [] Z) Z
 replace hm:=QH hm b1
 refine Q2 [5,0,1] (S':=V3 ..) Z (Qr ?_)
 have hE:=(Zi hm).symm
 refine Qh a0 hE [5,0,1] Z (asK [] Z) Z
 rintro z hE
 try dsimp only
 have hm:=hLj_4
 try rw [hE] at hm
 refine Q5 (Q1 (wP Z (Q4 (Q3 (Qw (Q5 (Q1 (wP Z (wP Z (Q4 (Q3 (Q2 [33,27,5,0,1] (S':=V5 ..) Z ?_))))))))))))
 refine Qt Z (fun b2=>?_) (fun b2=>?_)
 replace hm:=QI hm b2
 refine Q2 [5,0,1] (S':=V3 ..) Z (Q1 (wP Z (wP Z ?_)))
 obtain ⟨⟨aN,aO⟩,bP,hm⟩:=Q6 hm
 try dsimp only at hm
 refine wC [1,2] [0] Z Qbs Z (Q1M N aK aH aI aJ l0 z a2 2 3 _ _ bP) (asK [] Z) Z (H':=[_]) Z ?_
 rintro _ _ _ ⟨rfl,rfl,rfl⟩
 refine QB Z Z Z Zq Z Q1S Q13 Q3P Z (zs:=[.int .u8 0,.string ((⟨#[]⟩ : ByteArray)),.int .i64 0,.int .i64 0,V1]) (by kernel_rfl) Z (out:=V5 ..) Z (fun c4=>?_)
 obtain ⟨b7,hm⟩:=Qd hm
 refine Q2p ([(⟨3,aN,0,aO,[]⟩ : Qe)]) 3 0 Z Z Z Zq Z Z Z Z Z (fun F w hφ=>⟨[.int .u8 3,.string aN,.int .i64 0,.int .i64 aO,V1],[],Z,Z,(Q7B (none,0) Z (Q14 Qaa Qu)),Z⟩) Q1S tR_159 Z Z (Nat.le_trans b7 (by decide)) (Nat.le_trans (Nat.mul_le_mul_right _ b7) (by decide)) (H2:=fun bA bB=>[_,_,_,.own 159 5 Qq (.slice bA ((s ++ ([(⟨3,aN,0,aO,[]⟩ : Qe)])).length) bB) (s ++ ([(⟨3,aN,0,aO,[]⟩ : Qe)]))]) (fun _ _=>Z) (fun bA bB=>(Q3R 0 Z (H':=V3 ..) Z (QT (S':=V7 ..) Z Z Z Z Z (Q4 (Qf (Qf ?_))))))
 have hE:=(Zi hm).symm
 refine QE [2,0,1] Z (H':=V3 ..) Z ?_
 refine Qh ((s ++ ([(⟨3,aN,0,aO,[]⟩ : Qe)])),z + 1,bA,bB,((s ++ ([(⟨3,aN,0,aO,[]⟩ : Qe)])).length)) hE [5,0,1] Z (asK [] Z) Z
 replace hm:=QH hm b2
 refine Q2 [27,5,0,1] (S':=V4 ..) Z (Q5 (Q1 (wP Z (wP Z (Q4 (Q3 (Q2 [40,5,0,1] (S':=V4 ..) Z ?_)))))))
 refine Qt Z (fun b3=>?_) (fun b3=>?_)
 replace hm:=QI hm b3
 refine Q2 [5,0,1] (S':=V3 ..) Z (Q1 (wP Z (wP Z ?_)))
 obtain ⟨⟨aP,aQ,aR⟩,bQ,hm⟩:=Q6 hm
 try dsimp only at hm
 refine wC [1,2] [0] Z fn_205 Z (Q9D N aK aH aI aJ l0 z a2 _ _ _ bQ) (asK [] Z) Z (H':=[_]) Z ?_
 rintro _ _ _ ⟨rfl,rfl,rfl⟩
 refine QB Z Z Z Zq Z Q1S Q13 Q3P Z (zs:=[.int .u8 0,.string ((⟨#[]⟩ : ByteArray)),.int .i64 0,.int .i64 0,V1]) (by kernel_rfl) Z (out:=V5 ..) Z (fun c5=>?_)
 obtain ⟨b8,hm⟩:=Qd hm
 refine Q2p ([(⟨aP,aQ,0,aR,[]⟩ : Qe)]) 3 0 Z Z Z Zq Z Z Z Z Z (fun F w hφ=>⟨[.int .u8 aP,.string aQ,.int .i64 0,.int .i64 aR,V1],[],Z,Z,(Q7B (none,0) Z (Q14 Qaa Qu)),Z⟩) Q1S tR_159 Z Z (Nat.le_trans b8 (by decide)) (Nat.le_trans (Nat.mul_le_mul_right _ b8) (by decide)) (H2:=fun bC bD=>[_,_,_,.own 159 5 Qq (.slice bC ((s ++ ([(⟨aP,aQ,0,aR,[]⟩ : Qe)])).length) bD) (s ++ ([(⟨aP,aQ,0,aR,[]⟩ : Qe)]))]) (fun _ _=>Z) (fun bC bD=>(Q3R 0 Z (H':=V3 ..) Z (QT (S':=V7 ..) Z Z Z Z Z (Q4 (Qf (Qf ?_))))))
 have hE:=(Zi hm).symm
 refine QE [2,0,1] Z (H':=V3 ..) Z ?_
 refine Qh ((s ++ ([(⟨aP,aQ,0,aR,[]⟩ : Qe)])),z + 1,bC,bD,((s ++ ([(⟨aP,aQ,0,aR,[]⟩ : Qe)])).length)) hE [5,0,1] Z (asK [] Z) Z
 replace hm:=QH hm b3
 refine Q2 [5,0,1] (S':=V3 ..) Z (Q1 (wP Z (wP Z ?_)))
 obtain ⟨⟨aS,aT,aU,aV,bE⟩,bR,hm⟩:=Q6 hm
 try dsimp only at hm
 refine wC [1,2] [0] Z fn_206 Z (Q9u N aK aH aI aJ l0 z a2 0 _ _ _ _ _ bR) (asK [] Z) Z (H':=[_]) Z ?_
 rintro _ _ _ ⟨b4,b5,rfl,rfl,rfl⟩
 refine QB Z Z Z Zq Z Q1S Q13 Q3P Z (zs:=[.int .u8 0,.string ((⟨#[]⟩ : ByteArray)),.int .i64 0,.int .i64 0,V1]) (by kernel_rfl) Z (out:=V5 ..) Z (fun c6=>?_)
 obtain ⟨b9,hm⟩:=Qd hm
 refine Q2p ([(⟨aS,aT,0,aU,aV⟩ : Qe)]) 3 0 Z Z Z Zq Z Z Z Z Z (fun F w hφ=>⟨[.int .u8 aS,.string aT,.int .i64 0,.int .i64 aU,.slice b4 aV.length b5],[],Z,Z,(Q7B (b4,b5) Z (Q14 (hφ _ (Q12 (k:=0) Z)) Qu)),Z⟩) Q1S tR_159 Z Z (Nat.le_trans b9 (by decide)) (Nat.le_trans (Nat.mul_le_mul_right _ b9) (by decide)) (H2:=fun bF bG=>[_,_,_,.own 159 5 Qq (.slice bF ((s ++ ([(⟨aS,aT,0,aU,aV⟩ : Qe)])).length) bG) (s ++ ([(⟨aS,aT,0,aU,aV⟩ : Qe)]))]) (fun _ _=>Z) (fun bF bG=>(Q3R 0 Z (H':=V3 ..) Z (QT (S':=V7 ..) Z Z Z Z Z (Q4 (Qf (Qf ?_))))))
 have hE:=(Zi hm).symm
 refine QE [2,0,1] Z (H':=V3 ..) Z ?_
 refine Qh ((s ++ ([(⟨aS,aT,0,aU,aV⟩ : Qe)])),bE,bF,bG,((s ++ ([(⟨aS,aT,0,aU,aV⟩ : Qe)])).length)) hE [5,0,1] Z (asK [] Z) Z
 rintro ⟨aD,a8,aE,aF,aG⟩ hE
 try dsimp only
 have hm:=hLj_3
 try rw [hE] at hm
 try dsimp only at hm
 refine Q1 (wP Z ?_)
 obtain ⟨bW,bS,hm⟩:=Q6 hm
 refine wC [1,2] [0] Z Q86 Z (Q18 N aK aH aI aJ l0 a8 a2 (⟨#[44]⟩ : ByteArray) _ bS) (asK [] Z) Z (H':=[_]) Z ?_
 rintro _ _ _ ⟨rfl,rfl,rfl⟩
 refine wP Z (Q4 ?_)
 have hE:=(Zi hm).symm
 replace hE:=QF hLu1 hE
 refine QE [2,0,1] Z (H':=V3 ..) Z ?_
 refine QU (_,bW,aD,a8,aE,aF,aG) (Nat.lt_succ_self _) hE [6,5,0,1] Z (asK [] Z) Z
 replace hm:=QH hm b0
 refine Q2 [5,0] (S':=[_,_]) Z (Q1g (Qj (Qj (QD ?_))))
 have hE:=(Zi hm).symm
 replace hE:=Qx hLu1 hE
 refine Qh (s,a0,a5,a6,a7) hE [5,0] Z (asK [] Z) Z
 rintro ⟨aL,a9,aA,aB,aC⟩ hE
 try dsimp only
 have hm:=hLj_1
 try rw [hE] at hm
 try dsimp only at hm
 refine Q5 (Q1 (wP Z ?_))
 obtain ⟨_,bT,hm⟩:=Q6 hm
 try dsimp only at hm
 refine wC [1,2] [0] Z QaM Z (Q1y N aK aH aI aJ l0 a9 a2 (⟨#[41]⟩ : ByteArray) bT) (asK [] Z) Z (H':=[_]) Z ?_
 rintro _ _ _ ⟨rfl,rfl,rfl⟩
 refine Q4 (Q3 (Q2 [5] (S':=[_]) Z (Q5 (Q1 (wP Z (wP Z (Q4 (Q3 (Q2 [4] (S':=[_]) Z (Qo ?_))))))))))
 have hE:=(Zi hm).symm
 obtain ⟨hE0,hE1⟩:=Prod.mk.inj hE
 clear hE
 replace hE0:=hE0.symm
 subst hE0
 replace hE1:=hE1.symm
 subst hE1
 refine Qp (Hr:=V3 ..) [2,0,1] Tryz.results164 (Qg Z) ⟨aA,aB,aC,Z,Z,Z⟩ (asK [] Z) Z Z (.inl Z)
end Go.Proofs.YtbgodclhmgmcgaaGreatDoor
