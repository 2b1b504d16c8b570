import Derived.Test.YtbgodclhmgmcgaaGreatDoorProg
import Derived.Shelf.SlSortCmp.InsertionK
import Derived.Maps.Own
import Derived.Maps.OwnSet
import Derived.Maps.Views
import Derived.DeepKeys4
import Derived.Laws.BytesArg
import Derived.Laws.BytesString
import Derived.Laws.IdiomStrings
import Derived.Lib.LaidTab
import Derived.Lib.ItoaNum
import Derived.LaidSub
import Derived.Test.YtbgodclhmgmcgaaGreatDoorXM
import Derived.Test.YtbgodclhmgmcgaaGreatDoorTypesP
import Derived.Test.YtbgodclhmgmcgaaGreatDoorAb
import Derived.Test.YtbgodclhmgmcgaaGreatDoorPan
namespace Go.Proofs.YtbgodclhmgmcgaaGreatDoor
open Go.RowKit
set_option maxRecDepth 100000
set_option maxHeartbeats 4000000
theorem tFT_197_0:fldTy Tryz.prog 197 0 = some (195,0):=by kernel_rfl
theorem Qam:fldTy Tryz.prog 197 2 = some (3,2):=by kernel_rfl
theorem tFT_159_1:fldTy Tryz.prog 159 1 = some (9,1):=by kernel_rfl
theorem tFT_197_1:fldTy Tryz.prog 197 1 = some (9,1):=by kernel_rfl
theorem tM_146:Tryz.prog.underlying 146 = some (.map 61 140):=by kernel_rfl
theorem QF:Tryz.prog.underlying 221 = some (.map 62 183):=by kernel_rfl
theorem tFT_57_1:fldTy Tryz.prog 57 1 = some (2,1):=by kernel_rfl
theorem idle_65 (g:Nat):Idle Tryz.prog 65 #[.pointer (some ⟨g,0,none⟩)]:=by
 intro w
 refine callsD_of_wpS Tryz.func65 Z fun c₀ cs hu=>?_
 apply wpS_seq
 apply wpS_region
 simp [wpOpsS,go_sem,recoverD,hu,Tryz.ntmps65,Exit.thenS]
 apply wpS_seq
 apply wpS_region
 simp [wpOpsS,go_sem,Exit.thenS]
 refine wpS_cond (t:=false) (by simp [Act.eval,Array.replicate]) ?_
 refine wpS_of_wp (wp_skip ?_)
 cases c₀
 simp_all [bodyPostS,results,Tryz.results65]
theorem recovers_65 (g:Nat):Recovers Tryz.prog 65 #[.pointer (some ⟨g,0,none⟩)] (.iface 131 (.agg #[])) (fun w w1=>(∃ a t,w.heap[g]? = some (.cells #[a] t)) ∧ w1 = Q4T w g 0 [.int .i64 204]):=by
 rintro w w1 ⟨⟨a0,t0,hcell⟩,rfl⟩
 refine callsD_of_wpS Tryz.func65 Z fun c₀ cs hu=>?_
 have hneq : ∀ w:World,(binOp BinOp.neq 20 (.iface 131 (.agg #[])) .nilIface).run Tryz.prog w = .ok (.bool true) w:=fun _=>by kernel_rfl
 apply wpS_seq
 apply wpS_region
 simp [wpOpsS,go_sem,recoverD,hu,oneP,Tryz.ntmps65,Exit.thenS]
 apply wpS_seq
 apply wpS_region
 simp [wpOpsS,go_sem,Exit.thenS,hneq]
 refine wpS_cond (t:=true) (by simp [Act.eval,Array.replicate]) ?_
 simp only [if_true]
 apply wpS_seq
 refine wpS_store (t:=32) (x:=.tmp 0) (y:=.const (.int .i64 204)) (v:=.int .i64 204) Z Z Z (by simp [Act.eval]) Z Z (by kernel_rfl) Z hcell ?_
 simp only [Exit.thenS]
 apply wpS_region
 have hass : ∀ w:World,(Instr.typeAssert (.iface 131 (.agg #[])) 20 131 false).run Tryz.prog w = .ok ((.agg #[])) w:=fun _=>by kernel_rfl
 simp [wpOpsS,go_sem,hass]
 cases c₀
 simp_all [bodyPostS,results,Tryz.results65]
theorem Q7X (N:Nat) (a0:Int) (o0:Bool) (hm:Q5c N a0 = some o0):Q1o Tryz.prog 198 [.int .u8 a0] [] [] (fun v Φr Hr=>v = .bool o0 ∧ Φr = [] ∧ Hr = []):=by
 unfold Q5c at hm
 refine QD Tryz.func198 Z Tryz.ntmps198 Z (S:=[_]) Z (fun C=>(Q5 (Q1 (wP Z (Q3 (Q4 (Q2 [0] (S':=[_]) Z (Q5 (Q1 (wP Z (wP Z (wP Z ?_))))))))))))
 refine Qt (d:=5) (S':=V3 ..) Z Z (fun hs5=>?_) (fun hs5=>?_)
 replace hm:=QA hm hs5
 refine wP Z (wP Z (wP Z (wP Z (Q3 (Q4 (Q2 [2] (S':=[_]) Z (Qb ?_)))))))
 have hE:=(Zi hm).symm
 replace hE:=hE.symm
 subst hE
 refine Ql (Hr:=[]) [] Tryz.results198 (Qc Z) ⟨Z,Z,Z⟩ (asK [] Z) Z Z (.inl Z)
 replace hm:=Qz hm hs5
 refine wO Z (wO Z (wP Z (wP Z (Q3 (Q4 (Q2 [2] (S':=[_]) Z (Qb ?_)))))))
 have hE:=(Zi hm).symm
 replace hE:=hE.symm
 subst hE
 refine Ql (Hr:=[]) [] Tryz.results198 (Qc Z) ⟨Z,Z,Z⟩ (asK [] Z) Z Z (.inl Z)
theorem Q3Y (N:Nat) (a0:Int) (o0:Bool) (hm:Q2K N a0 = some o0):Q1o Tryz.prog 201 [.int .u8 a0] [] [] (fun v Φr Hr=>v = .bool o0 ∧ Φr = [] ∧ Hr = []):=by
 unfold Q2K at hm
 refine QD Tryz.func201 Z Tryz.ntmps201 Z (S:=[_]) Z (fun C=>(Q5 (Q1 (wP Z (Q3 (Q4 (Q2 [0] (S':=[_]) Z (Q5 (Q1 (wP Z (wP Z (wP Z ?_))))))))))))
 refine Qt (d:=5) (S':=V3 ..) Z Z (fun hs5=>?_) (fun hs5=>?_)
 replace hm:=QA hm hs5
 refine wP Z (wP Z (wP Z (wP Z (Q3 (Q4 (Q2 [2] (S':=[_]) Z (Qb ?_)))))))
 have hE:=(Zi hm).symm
 replace hE:=hE.symm
 subst hE
 refine Ql (Hr:=[]) [] Tryz.results201 (Qc Z) ⟨Z,Z,Z⟩ (asK [] Z) Z Z (.inl Z)
 replace hm:=Qz hm hs5
 refine wO Z (wO Z (wP Z (wP Z (Q3 (Q4 (Q2 [2] (S':=[_]) Z (Qb ?_)))))))
 have hE:=(Zi hm).symm
 replace hE:=hE.symm
 subst hE
 refine Ql (Hr:=[]) [] Tryz.results201 (Qc Z) ⟨Z,Z,Z⟩ (asK [] Z) Z Z (.inl Z)
theorem Q8D (N:Nat) (a0:Int) (o0:Bool) (hm:Q5Q N a0 = some o0):Q1o Tryz.prog 203 [.int .u8 a0] [] [] (fun v Φr Hr=>v = .bool o0 ∧ Φr = [] ∧ Hr = []):=by
 unfold Q5Q at hm
 refine QD Tryz.func203 Z Tryz.ntmps203 Z (S:=[_]) Z (fun C=>(Q5 (Q1 (wP Z (Q3 (Q4 (Q2 [0] (S':=[_]) Z (Q5 (Q1 (wP Z ?_))))))))))
 obtain ⟨v4,hc4,hm⟩:=Q6 hm
 refine wC [] [] Z fn_198 Z (Q7X N a0 _ hc4) (asK [] Z) Z (H':=[]) Z ?_
 rintro _ _ _ ⟨rfl,rfl,rfl⟩
 refine wP Z ?_
 refine Qt (d:=5) (S':=V3 ..) Z Z (fun hs5=>?_) (fun hs5=>?_)
 replace hm:=QA hm hs5
 refine wO Z (wO Z (wP Z (wP Z (wO Z (wO Z (wP Z (wP Z (Q3 (Q4 (Q2 [2] (S':=[_]) Z (Qb ?_)))))))))))
 have hE:=(Zi hm).symm
 replace hE:=hE.symm
 subst hE
 refine Ql (Hr:=[]) [] Tryz.results203 (Qc Z) ⟨Z,Z,Z⟩ (asK [] Z) Z Z (.inl Z)
 replace hm:=Qz hm hs5
 refine wP Z ?_
 obtain ⟨v7,hc7,hm⟩:=Q6 hm
 refine wC [] [] Z fn_201 Z (Q3Y N a0 _ hc7) (asK [] Z) Z (H':=[]) Z ?_
 rintro _ _ _ ⟨rfl,rfl,rfl⟩
 refine wP Z (wP Z ?_)
 refine Qt (d:=9) (S':=V7 ..) Z Z (fun hs9=>?_) (fun hs9=>?_)
 replace hm:=QA hm hs9
 refine wO Z (wO Z (wP Z (wP Z (Q3 (Q4 (Q2 [2] (S':=[_]) Z (Qb ?_)))))))
 have hE:=(Zi hm).symm
 replace hE:=hE.symm
 subst hE
 refine Ql (Hr:=[]) [] Tryz.results203 (Qc Z) ⟨Z,Z,Z⟩ (asK [] Z) Z Z (.inl Z)
 replace hm:=Qz hm hs9
 refine wP Z (wP Z (wP Z (wP Z (Q3 (Q4 (Q2 [2] (S':=[_]) Z (Qb ?_)))))))
 have hE:=(Zi hm).symm
 replace hE:=hE.symm
 subst hE
 refine Ql (Hr:=[]) [] Tryz.results203 (Qc Z) ⟨Z,Z,Z⟩ (asK [] Z) Z Z (.inl Z)
theorem Q7Y (N:Nat) (a0:ByteArray) (a1:Int) (o0:Int) (hm:Q5d N a0 a1 = some o0):Q1o Tryz.prog 199 [.string a0,.int .i64 a1] [] [] (fun v Φr Hr=>v = .int .i64 o0 ∧ Φr = [] ∧ Hr = []):=by
 unfold Q5d at hm
 refine QD Tryz.func199 Z Tryz.ntmps199 Z (S:=[_,_]) Z (fun C=>(Q5 (Q1 (wP Z (Q3 (Q4 (Q2 [0,1] (S':=[_,_]) Z (Q5 ?_))))))))
 obtain ⟨a6,hm,hLj_1⟩:=Q6 hm
 refine QI (σ:=Int) (fun s=>a6 = s) (fun s=>[(1,.int .i64 s)]) (fun s=>[]) (fun s=>[]) ?_ ?_
 refine Qw (Q1E (σ:=Nat × Int) (fun (z,j)=>Q1M (Q5R N a0) z j = some a6) (fun (z,j)=>z) (fun (z,j)=>[(0,.string a0),(1,.int .i64 j)]) (fun (z,j)=>[]) (fun (z,j)=>[]) (N,a1) hm [0,1] Z (asK [] Z) Z (fun s_ hm=>?_))
 obtain ⟨z,j⟩:=s_
 try dsimp only at hm ⊢
 obtain ⟨aJ,aK,a9,hq,hLu1⟩:=Q1e hm
 clear hm
 subst a9
 replace hm:=hq
 clear hq
 unfold Q5R at hm
 try dsimp only at hm
 refine Q5 (Q5 ?_)
 obtain ⟨aA,hm,hLj_2⟩:=Q6 hm
 refine QI (σ:=Bool) (fun q=>aA = q) (fun q=>[(0,.string a0),(1,.int .i64 j),(14,.bool q)]) (fun q=>[]) (fun q=>[]) ?_ ?_
 refine Q1 (wP Z (wP Z (Q1B Z Z Z Zq (Q3y Z Z Q64) (wP Z (wP Z ?_)))))
 refine Qt (d:=9) (S':=V6 ..) Z Z (fun a7=>?_) (fun a7=>?_)
 replace hm:=QA hm a7
 refine wP Z (wP Z ?_)
 obtain ⟨aB,hm⟩:=Qu hm
 obtain ⟨aG,aC,hm⟩:=Q6 hm
 refine Q1B Z Z Z Zq (Q3P j.toNat Z Z Z (Q1G aB) aC Q64) ?_
 obtain ⟨aH,aD,hm⟩:=Q6 hm
 refine wC [] [] Z fn_203 Z (Q8D N ((aG.toNat:Nat):Int) _ aD) (asK [] Z) Z (H':=[]) Z ?_
 rintro _ _ _ ⟨rfl,rfl,rfl⟩
 refine wP Z (Q3 ?_)
 have hE:=(Zi hm).symm
 refine Q9 aH hE [0,1,14] Z (asK [] Z) Z
 replace hm:=Qz hm a7
 refine wO Z (wO Z (wO Z (wO Z (wP Z (Q3 ?_)))))
 have hE:=(Zi hm).symm
 refine Q9 false hE [0,1,14] Z (asK [] Z) Z
 rintro q hE
 try dsimp only
 have hm:=hLj_2
 rw [hE] at hm
 refine Qj Z (fun a5=>?_) (fun a5=>?_)
 replace hm:=QA hm a5
 refine Q2 [0,1] (S':=[_,_]) Z (Qq (Q4 (Qw (Q1 (wP Z (wP Z ?_))))))
 obtain ⟨aE,hm⟩:=Qu hm
 refine QH (d:=16) (v':=.int .i64 (j + 1)) (S':=V3 ..) Z Z (i64_in aE) (Q1b (S':=V3 ..) Z Z Z Z Z (Q3 (Qh ?_)))
 have hE:=(Zi hm).symm
 replace hE:=QO hLu1 hE
 refine Q1a (_,j + 1) (Nat.lt_succ_self _) hE [0,1] Z (asK [] Z) Z
 replace hm:=Qz hm a5
 refine Q2 [1] (S':=[_]) Z (Q1x (Qk (Qk (QJ ?_))))
 have hE:=(Zi hm).symm
 replace hE:=Qv hLu1 hE
 refine Q9 j hE [1] Z (asK [] Z) Z
 rintro s hE
 try dsimp only
 have hm:=hLj_1
 rw [hE] at hm
 refine Q5 (Q1 (wP Z (wP Z (Q3 (Q4 (Q2 [4] (S':=[_]) Z (Qb ?_)))))))
 have hE:=(Zi hm).symm
 replace hE:=hE.symm
 subst hE
 refine Ql (Hr:=[]) [] Tryz.results199 (Qc Z) ⟨Z,Z,Z⟩ (asK [] Z) Z Z (.inl Z)
theorem Q7B (N:Nat)   (hm:Q4w N = some ()):Q1o Tryz.prog 220 [] [] [] (fun v Φr Hr=>∃ (o0:Nat),v = .slice (some ⟨o0,0,none⟩) 11 11 ∧ Φr = [] ∧ Hr = [.blk o0 [.string ((⟨#[102,97,99,116]⟩ : ByteArray)),.string ((⟨#[114,117,108,101]⟩ : ByteArray)),.string ((⟨#[115,97,108,105,101,110,99,101]⟩ : ByteArray)),.string ((⟨#[110,111,116]⟩ : ByteArray)),.string ((⟨#[116,101,115,116]⟩ : ByteArray)),.string ((⟨#[97,115,115,101,114,116]⟩ : ByteArray)),.string ((⟨#[114,101,116,114,97,99,116]⟩ : ByteArray)),.string ((⟨#[115,97,121]⟩ : ByteArray)),.string ((⟨#[104,97,108,116]⟩ : ByteArray)),.string ((⟨#[97,110,100]⟩ : ByteArray)),.string ((⟨#[111,114]⟩ : ByteArray))] 9]):=by
 unfold Q4w at hm
 refine QD Tryz.func220 Z Tryz.ntmps220 Z (S:=[]) Z (fun C=>(Q5 (Q1 (wP Z (Q3 (Q4 (Q2 [] (S':=[]) Z (Q5 (Q1 (Qy Z Z Z Zq Z Q2c Q27 tZ_9 Z (zs:=[.string ((⟨#[]⟩ : ByteArray)),.string ((⟨#[]⟩ : ByteArray)),.string ((⟨#[]⟩ : ByteArray)),.string ((⟨#[]⟩ : ByteArray)),.string ((⟨#[]⟩ : ByteArray)),.string ((⟨#[]⟩ : ByteArray)),.string ((⟨#[]⟩ : ByteArray)),.string ((⟨#[]⟩ : ByteArray)),.string ((⟨#[]⟩ : ByteArray)),.string ((⟨#[]⟩ : ByteArray)),.string ((⟨#[]⟩ : ByteArray))]) (by kernel_rfl) Z (out:=[.string ((⟨#[102,97,99,116]⟩ : ByteArray)),.string ((⟨#[114,117,108,101]⟩ : ByteArray)),.string ((⟨#[115,97,108,105,101,110,99,101]⟩ : ByteArray)),.string ((⟨#[110,111,116]⟩ : ByteArray)),.string ((⟨#[116,101,115,116]⟩ : ByteArray)),.string ((⟨#[97,115,115,101,114,116]⟩ : ByteArray)),.string ((⟨#[114,101,116,114,97,99,116]⟩ : ByteArray)),.string ((⟨#[115,97,121]⟩ : ByteArray)),.string ((⟨#[104,97,108,116]⟩ : ByteArray)),.string ((⟨#[97,110,100]⟩ : ByteArray)),.string ((⟨#[111,114]⟩ : ByteArray))]) (by kernel_rfl) (fun g1=>(wP Z (Q3 (Q4 (Q2 [0] (S':=[_]) Z ?_)))))))))))))))
 refine Qb ?_
 have hE:=(Zi hm).symm
 refine Ql (Hr:=[_]) [0] Tryz.results220 (Qc Z) ⟨g1,Z,Z,Z⟩ (asK [] Z) Z Z (.inl Z)
theorem QaX (N:Nat) (a0:ByteArray) (o0:Bool) (hm:Q6F N a0 = some o0):Q1o Tryz.prog 200 [.string a0] [] [] (fun v Φr Hr=>v = .bool o0 ∧ Φr = [] ∧ Hr = []):=by
 unfold Q6F at hm
 refine QD Tryz.func200 Z Tryz.ntmps200 Z (S:=[_]) Z (fun C=>(Q5 (Q1 (wP Z (Q3 (Q4 (Q2 [0] (S':=[_]) Z (Q5 (Q1 ?_)))))))))
 obtain ⟨_,aA,hm⟩:=Q6 hm
 try dsimp only at hm
 refine wC [] [] Z fn_220 Z (Q7B N  aA) (asK [] Z) Z (H':=[]) Z ?_
 rintro _ _ _ ⟨z,rfl,rfl,rfl⟩
 refine wP Z (Q3 (Q4 (Q2 [3,0] (S':=[_,_]) Z (Q5 ?_))))
 obtain ⟨a1,hm,hLj_1⟩:=Q1w hm
 refine QI (σ:=Unit) (fun _=>a1 = .inl ()) (fun _=>[]) (fun _=>[]) (fun _=>[]) ?_ ?_
 refine Q5 (Q1 (wP Z (Q3 (Q4 (Qw (wc_row (sz:=1) (m:=11) Q1y ([(⟨#[102,97,99,116]⟩ : ByteArray),(⟨#[114,117,108,101]⟩ : ByteArray),(⟨#[115,97,108,105,101,110,99,101]⟩ : ByteArray),(⟨#[110,111,116]⟩ : ByteArray),(⟨#[116,101,115,116]⟩ : ByteArray),(⟨#[97,115,115,101,114,116]⟩ : ByteArray),(⟨#[114,101,116,114,97,99,116]⟩ : ByteArray),(⟨#[115,97,121]⟩ : ByteArray),(⟨#[104,97,108,116]⟩ : ByteArray),(⟨#[97,110,100]⟩ : ByteArray),(⟨#[111,114]⟩ : ByteArray)]) 0 Z (fun F w hφ=>⟨[.string ((⟨#[102,97,99,116]⟩ : ByteArray))],[.string ((⟨#[114,117,108,101]⟩ : ByteArray)),.string ((⟨#[115,97,108,105,101,110,99,101]⟩ : ByteArray)),.string ((⟨#[110,111,116]⟩ : ByteArray)),.string ((⟨#[116,101,115,116]⟩ : ByteArray)),.string ((⟨#[97,115,115,101,114,116]⟩ : ByteArray)),.string ((⟨#[114,101,116,114,97,99,116]⟩ : ByteArray)),.string ((⟨#[115,97,121]⟩ : ByteArray)),.string ((⟨#[104,97,108,116]⟩ : ByteArray)),.string ((⟨#[97,110,100]⟩ : ByteArray)),.string ((⟨#[111,114]⟩ : ByteArray))],Z,Z,⟨(),Z,Qr⟩,⟨[.string ((⟨#[114,117,108,101]⟩ : ByteArray))],[.string ((⟨#[115,97,108,105,101,110,99,101]⟩ : ByteArray)),.string ((⟨#[110,111,116]⟩ : ByteArray)),.string ((⟨#[116,101,115,116]⟩ : ByteArray)),.string ((⟨#[97,115,115,101,114,116]⟩ : ByteArray)),.string ((⟨#[114,101,116,114,97,99,116]⟩ : ByteArray)),.string ((⟨#[115,97,121]⟩ : ByteArray)),.string ((⟨#[104,97,108,116]⟩ : ByteArray)),.string ((⟨#[97,110,100]⟩ : ByteArray)),.string ((⟨#[111,114]⟩ : ByteArray))],Z,Z,⟨(),Z,Qr⟩,⟨[.string ((⟨#[115,97,108,105,101,110,99,101]⟩ : ByteArray))],[.string ((⟨#[110,111,116]⟩ : ByteArray)),.string ((⟨#[116,101,115,116]⟩ : ByteArray)),.string ((⟨#[97,115,115,101,114,116]⟩ : ByteArray)),.string ((⟨#[114,101,116,114,97,99,116]⟩ : ByteArray)),.string ((⟨#[115,97,121]⟩ : ByteArray)),.string ((⟨#[104,97,108,116]⟩ : ByteArray)),.string ((⟨#[97,110,100]⟩ : ByteArray)),.string ((⟨#[111,114]⟩ : ByteArray))],Z,Z,⟨(),Z,Qr⟩,⟨[.string ((⟨#[110,111,116]⟩ : ByteArray))],[.string ((⟨#[116,101,115,116]⟩ : ByteArray)),.string ((⟨#[97,115,115,101,114,116]⟩ : ByteArray)),.string ((⟨#[114,101,116,114,97,99,116]⟩ : ByteArray)),.string ((⟨#[115,97,121]⟩ : ByteArray)),.string ((⟨#[104,97,108,116]⟩ : ByteArray)),.string ((⟨#[97,110,100]⟩ : ByteArray)),.string ((⟨#[111,114]⟩ : ByteArray))],Z,Z,⟨(),Z,Qr⟩,⟨[.string ((⟨#[116,101,115,116]⟩ : ByteArray))],[.string ((⟨#[97,115,115,101,114,116]⟩ : ByteArray)),.string ((⟨#[114,101,116,114,97,99,116]⟩ : ByteArray)),.string ((⟨#[115,97,121]⟩ : ByteArray)),.string ((⟨#[104,97,108,116]⟩ : ByteArray)),.string ((⟨#[97,110,100]⟩ : ByteArray)),.string ((⟨#[111,114]⟩ : ByteArray))],Z,Z,⟨(),Z,Qr⟩,⟨[.string ((⟨#[97,115,115,101,114,116]⟩ : ByteArray))],[.string ((⟨#[114,101,116,114,97,99,116]⟩ : ByteArray)),.string ((⟨#[115,97,121]⟩ : ByteArray)),.string ((⟨#[104,97,108,116]⟩ : ByteArray)),.string ((⟨#[97,110,100]⟩ : ByteArray)),.string ((⟨#[111,114]⟩ : ByteArray))],Z,Z,⟨(),Z,Qr⟩,⟨[.string ((⟨#[114,101,116,114,97,99,116]⟩ : ByteArray))],[.string ((⟨#[115,97,121]⟩ : ByteArray)),.string ((⟨#[104,97,108,116]⟩ : ByteArray)),.string ((⟨#[97,110,100]⟩ : ByteArray)),.string ((⟨#[111,114]⟩ : ByteArray))],Z,Z,⟨(),Z,Qr⟩,⟨[.string ((⟨#[115,97,121]⟩ : ByteArray))],[.string ((⟨#[104,97,108,116]⟩ : ByteArray)),.string ((⟨#[97,110,100]⟩ : ByteArray)),.string ((⟨#[111,114]⟩ : ByteArray))],Z,Z,⟨(),Z,Qr⟩,⟨[.string ((⟨#[104,97,108,116]⟩ : ByteArray))],[.string ((⟨#[97,110,100]⟩ : ByteArray)),.string ((⟨#[111,114]⟩ : ByteArray))],Z,Z,⟨(),Z,Qr⟩,⟨[.string ((⟨#[97,110,100]⟩ : ByteArray))],[.string ((⟨#[111,114]⟩ : ByteArray))],Z,Z,⟨(),Z,Qr⟩,⟨[.string ((⟨#[111,114]⟩ : ByteArray))],[],Z,Z,⟨(),Z,Qr⟩,Z⟩⟩⟩⟩⟩⟩⟩⟩⟩⟩⟩) Z (by decide) (H':=[_]) Z (Q1E (σ:=Nat × Nat) (fun (q,j)=>Q1M (Q5k N a0) q j = some a1) (fun (q,j)=>q) (fun (q,j)=>[(4,.int .i64 ((j:Nat):Int)),(3,.slice (some ⟨z,0,none⟩) ([(⟨#[102,97,99,116]⟩ : ByteArray),(⟨#[114,117,108,101]⟩ : ByteArray),(⟨#[115,97,108,105,101,110,99,101]⟩ : ByteArray),(⟨#[110,111,116]⟩ : ByteArray),(⟨#[116,101,115,116]⟩ : ByteArray),(⟨#[97,115,115,101,114,116]⟩ : ByteArray),(⟨#[114,101,116,114,97,99,116]⟩ : ByteArray),(⟨#[115,97,121]⟩ : ByteArray),(⟨#[104,97,108,116]⟩ : ByteArray),(⟨#[97,110,100]⟩ : ByteArray),(⟨#[111,114]⟩ : ByteArray)].length) 11),(0,.string a0)]) (fun (q,j)=>[]) (fun (q,j)=>[.own 9 1 Q1y (.slice (some ⟨z,0,none⟩) ([(⟨#[102,97,99,116]⟩ : ByteArray),(⟨#[114,117,108,101]⟩ : ByteArray),(⟨#[115,97,108,105,101,110,99,101]⟩ : ByteArray),(⟨#[110,111,116]⟩ : ByteArray),(⟨#[116,101,115,116]⟩ : ByteArray),(⟨#[97,115,115,101,114,116]⟩ : ByteArray),(⟨#[114,101,116,114,97,99,116]⟩ : ByteArray),(⟨#[115,97,121]⟩ : ByteArray),(⟨#[104,97,108,116]⟩ : ByteArray),(⟨#[97,110,100]⟩ : ByteArray),(⟨#[111,114]⟩ : ByteArray)].length) 11) ([(⟨#[102,97,99,116]⟩ : ByteArray),(⟨#[114,117,108,101]⟩ : ByteArray),(⟨#[115,97,108,105,101,110,99,101]⟩ : ByteArray),(⟨#[110,111,116]⟩ : ByteArray),(⟨#[116,101,115,116]⟩ : ByteArray),(⟨#[97,115,115,101,114,116]⟩ : ByteArray),(⟨#[114,101,116,114,97,99,116]⟩ : ByteArray),(⟨#[115,97,121]⟩ : ByteArray),(⟨#[104,97,108,116]⟩ : ByteArray),(⟨#[97,110,100]⟩ : ByteArray),(⟨#[111,114]⟩ : ByteArray)])]) (N,0) hm [4,3,0] Z (asK [] Z) Z (fun s_ hm=>?_))))))))
 obtain ⟨q,j⟩:=s_
 try dsimp only at hm ⊢
 obtain ⟨aD,aE,a7,hq,hLu1⟩:=Q1e hm
 clear hm
 subst a7
 replace hm:=hq
 clear hq
 unfold Q5k at hm
 try dsimp only at hm
 refine Q5 (Q5 (Q1 (wP Z (wP Z (wN Z Q2c (wP Z (QH (d:=9) (v':=.bool (decide (j < ([(⟨#[102,97,99,116]⟩ : ByteArray),(⟨#[114,117,108,101]⟩ : ByteArray),(⟨#[115,97,108,105,101,110,99,101]⟩ : ByteArray),(⟨#[110,111,116]⟩ : ByteArray),(⟨#[116,101,115,116]⟩ : ByteArray),(⟨#[97,115,115,101,114,116]⟩ : ByteArray),(⟨#[114,101,116,114,97,99,116]⟩ : ByteArray),(⟨#[115,97,121]⟩ : ByteArray),(⟨#[104,97,108,116]⟩ : ByteArray),(⟨#[97,110,100]⟩ : ByteArray),(⟨#[111,114]⟩ : ByteArray)].length)))) (S':=V6 ..) Z Z (Q2z (a:=j) (b:=[(⟨#[102,97,99,116]⟩ : ByteArray),(⟨#[114,117,108,101]⟩ : ByteArray),(⟨#[115,97,108,105,101,110,99,101]⟩ : ByteArray),(⟨#[110,111,116]⟩ : ByteArray),(⟨#[116,101,115,116]⟩ : ByteArray),(⟨#[97,115,115,101,114,116]⟩ : ByteArray),(⟨#[114,101,116,114,97,99,116]⟩ : ByteArray),(⟨#[115,97,121]⟩ : ByteArray),(⟨#[104,97,108,116]⟩ : ByteArray),(⟨#[97,110,100]⟩ : ByteArray),(⟨#[111,114]⟩ : ByteArray)].length)) (Q3 (Q4 (Q2 [9,4,3,0] (S':=V4 ..) Z ?_))))))))))
 refine Qj Z (fun a6=>?_) (fun a6=>?_)
 replace hm:=QA hm a6
 refine Q2 [4,3,0] (S':=V3 ..) Z (Qq (Q4 (Q5 (Qw (Q5 (Q1 (wP Z (wP Z ?_))))))))
 obtain ⟨aB,a5,hm⟩:=Q6 hm
 refine Q6X 0 j Z Z Z Zq Z Z Z Z Z (Q2t a5) Q2c Q27 (Q1T Q5E 0 j 0 Z Z Z Zq Z Z Z a5 Q27 Q2E (v:=fun _=>.string aB) (fun _=>Z) (fun _=>Z) (fun _ _=>(wP Z (wP Z (Q3 (Q4 (Q2 [17,4,3,0] (S':=V4 ..) Z ?_)))))))
 refine Qj Z (fun s=>?_) (fun s=>?_)
 replace hm:=QA hm s
 refine Q2 [] (S':=[]) Z (Q5 (Q1 (wP Z (Q3 (Q4 (Qb (Qg (Q7 (Q7 (Qg (Q7 ?_)))))))))))
 have hE:=(Zi hm).symm
 replace hE:=Qv hLu1 hE
 replace hE:=Qv hLj_1 hE
 replace hE:=hE.symm
 subst hE
 refine Ql (Hr:=[]) [] Tryz.results200 (Qc Z) ⟨Z,Z,Z⟩ (asK [] Z) Z Z (.inl Z)
 replace hm:=Qz hm s
 refine Q2 [4,3,0] (S':=V3 ..) Z (Qq (Qh (Q4 (Q1 (wP Z (wP Z ?_))))))
 obtain ⟨a8,hm⟩:=Qu hm
 refine QH (d:=11) (v':=.int .i64 ((j + 1:Nat):Int)) (S':=V4 ..) Z Z (Q1J (a:=j) (b:=1) a8) (Q1b (S':=V4 ..) Z Z Z Z Z (Q3 ?_))
 have hE:=(Zi hm).symm
 replace hE:=QO hLu1 hE
 refine Q1a (_,j + 1) (Nat.lt_succ_self _) hE [4,3,0] Z (asK [] Z) Z
 replace hm:=Qz hm a6
 refine Q2 [] (S':=[]) Z (Q1x (Qk (Qk (QJ ?_))))
 have hE:=(Zi hm).symm
 replace hE:=Qv hLu1 hE
 refine Qs [] Z (H':=[]) Z ?_
 refine Q9 () hE [] Z (asK [] Z) Z
 rintro _ hE
 try dsimp only
 have hm:=QO hLj_1 hE
 try dsimp only at hm
 refine Q5 (Q1 (wP Z (Q3 (Q4 (Qb ?_)))))
 have hE:=(Zi hm).symm
 replace hE:=hE.symm
 subst hE
 refine Ql (Hr:=[]) [] Tryz.results200 (Qc Z) ⟨Z,Z,Z⟩ (asK [] Z) Z Z (.inl Z)
theorem Q5B (N:Nat) (a0:ByteArray) (o0:Bool) (hm:Q3m N a0 = some o0):Q1o Tryz.prog 70 [.string a0] [] [] (fun v Φr Hr=>v = .bool o0 ∧ Φr = [] ∧ Hr = []):=by
 unfold Q3m at hm
 refine QD Tryz.func70 Z Tryz.ntmps70 Z (S:=[_]) Z (fun C=>(Q5 (Q1 (wP Z (Q3 (Q4 (Q2 [0] (S':=[_]) Z (Q5 ?_))))))))
 obtain ⟨aD,hm,hLj_1⟩:=Q1w hm
 refine QI (σ:=Unit) (fun _=>aD = .inl ()) (fun _=>[(0,.string a0)]) (fun _=>[]) (fun _=>[]) ?_ ?_
 refine Q5 (Q1 (wP Z (Q3 (Q4 (Qw (Q1E (σ:=Nat × Nat) (fun (a1,j)=>Q1M (Q4Z N a0) a1 j = some aD) (fun (a1,j)=>a1) (fun (a1,j)=>[(3,.int .i64 ((j:Nat):Int)),(0,.string a0)]) (fun (a1,j)=>[]) (fun (a1,j)=>[]) (N,0) hm [3,0] Z (asK [] Z) Z (fun s_ hm=>?_)))))))
 obtain ⟨a1,j⟩:=s_
 try dsimp only at hm ⊢
 obtain ⟨aL,aM,aF,hq,hLu1⟩:=Q1e hm
 clear hm
 subst aF
 replace hm:=hq
 clear hq
 unfold Q4Z at hm
 try dsimp only at hm
 refine Q5 (Q5 (Q1 (wP Z (wP Z (Q1B Z Z Z Zq (Q3y Z Z Q64) (wP Z (QH (d:=9) (v':=.bool (decide (j < a0.size))) (S':=V5 ..) Z Z (Q2z (a:=j) (b:=a0.size)) (Q3 (Q4 (Q2 [9,3,0] (S':=V3 ..) Z ?_))))))))))
 refine Qj Z (fun aE=>?_) (fun aE=>?_)
 replace hm:=QA hm aE
 refine Q2 [3,0] (S':=[_,_]) Z (Qq (Q4 (Q5 (Qw (Q5 (Q1 (wP Z (wP Z ?_))))))))
 obtain ⟨s,aG,hm⟩:=Q6 hm
 refine Q1B Z Z Z Zq (Q3P j Z Z Z Z aG Q64) (wP Z (Q3 (Q4 (Q2 [4,3,0] (S':=V3 ..) Z (Q5 ?_)))))
 obtain ⟨aH,hm,hLj_2⟩:=Q6 hm
 refine QI (σ:=Bool) (fun z=>aH = z) (fun z=>[(4,.int .u8 ((s.toNat:Nat):Int)),(3,.int .i64 ((j:Nat):Int)),(0,.string a0),(5,.bool z)]) (fun z=>[]) (fun z=>[]) ?_ ?_
 refine Q1 (wP Z (wP Z (QH (d:=16) (v':=.bool (decide (97 ≤ s.toNat))) (S':=V4 ..) Z Z (natge (a:=s.toNat) (b:=97)) (wP Z ?_))))
 refine Qt (d:=17) (S':=V5 ..) Z Z (fun a6=>?_) (fun a6=>?_)
 replace hm:=QA hm a6
 refine wP Z (wP Z (QH (d:=19) (v':=.bool (decide (s.toNat ≤ 122))) (S':=V7 ..) Z Z (natle (a:=s.toNat) (b:=122)) (wP Z (wP Z (Q3 ?_)))))
 have hE:=(Zi hm).symm
 refine Q9 (decide (s.toNat ≤ 122)) hE [4,3,0,5] Z (asK [] Z) Z
 replace hm:=Qz hm a6
 refine wO Z (wO Z (wP Z (wP Z (Q3 ?_))))
 have hE:=(Zi hm).symm
 refine Q9 false hE [4,3,0,5] Z (asK [] Z) Z
 rintro z hE
 try dsimp only
 have hm:=hLj_2
 rw [hE] at hm
 refine Q5 ?_
 obtain ⟨aI,hm,hLj_3⟩:=Q6 hm
 unfold Q7b at hm
 refine QI (σ:=Bool) (fun q=>aI = q) (fun q=>[(3,.int .i64 ((j:Nat):Int)),(0,.string a0),(39,.bool q)]) (fun q=>[]) (fun q=>[]) ?_ ?_
 refine Q1 (wP Z (wP Z (wP Z ?_)))
 refine Qt (d:=23) (S':=V6 ..) Z Z (fun a7=>?_) (fun a7=>?_)
 replace hm:=QA hm a7
 refine wP Z (wP Z (QH (d:=25) (v':=.bool (j == 0)) (S':=V8 ..) Z Z (Q3c (a:=j) (b:=0)) (wP Z ?_)))
 refine Qt (d:=26) (S':=V9 ..) Z Z (fun a8=>?_) (fun a8=>?_)
 replace hm:=QA hm a8
 refine wO Z (wO Z (wO Z (wO Z (wO Z (wO Z (wO Z (wO Z (wO Z (wO Z (wO Z (wP Z (wP Z (Q3 ?_)))))))))))))
 have hE:=(Zi hm).symm
 refine Q9 true hE [3,0,39] Z (asK [] Z) Z
 replace hm:=Qz hm a8
 refine wP Z (wP Z (QH (d:=28) (v':=.bool (decide (48 ≤ s.toNat))) (S':=V11 ..) Z Z (natge (a:=s.toNat) (b:=48)) (wP Z ?_)))
 refine Qt (d:=29) (S':=V12 ..) Z Z (fun a9=>?_) (fun a9=>?_)
 replace hm:=QA hm a9
 refine wP Z (wP Z (QH (d:=31) (v':=.bool (decide (s.toNat ≤ 57))) (S':=V14 ..) Z Z (natle (a:=s.toNat) (b:=57)) (wP Z (wP Z ?_))))
 refine Qt (d:=33) (S':=V16 ..) Z Z (fun aA=>?_) (fun aA=>?_)
 replace hm:=QA hm aA
 refine wO Z (wO Z (wP Z (wP Z (wP Z (wP Z (Q3 ?_))))))
 have hE:=(Zi hm).symm
 refine Q9 false hE [3,0,39] Z (asK [] Z) Z
 replace hm:=Qz hm aA
 refine wP Z (wP Z (QH (d:=35) (v':=.bool (s.toNat == 95)) (S':=V18 ..) Z Z (Q3c (a:=s.toNat) (b:=95)) (wP Z (wP Z (wP Z (wP Z (Q3 ?_)))))))
 have hE:=(Zi hm).symm
 refine Q9 (!(s.toNat == 95)) hE [3,0,39] Z (asK [] Z) Z
 replace hm:=Qz hm a9
 refine wO Z (wO Z (wP Z (wP Z (wP Z (wP Z (QH (d:=35) (v':=.bool (s.toNat == 95)) (S':=V18 ..) Z Z (Q3c (a:=s.toNat) (b:=95)) (wP Z (wP Z (wP Z (wP Z (Q3 ?_)))))))))))
 have hE:=(Zi hm).symm
 refine Q9 (!(s.toNat == 95)) hE [3,0,39] Z (asK [] Z) Z
 replace hm:=Qz hm a7
 refine wO Z (wO Z (wO Z (wO Z (wO Z (wO Z (wO Z (wO Z (wO Z (wO Z (wO Z (wO Z (wO Z (wO Z ?_)))))))))))))
 refine wO Z (wP Z (Q3 ?_))
 have hE:=(Zi hm).symm
 refine Q9 false hE [3,0,39] Z (asK [] Z) Z
 rintro q hE
 try dsimp only
 have hm:=hLj_3
 rw [hE] at hm
 refine Qj Z (fun aB=>?_) (fun aB=>?_)
 replace hm:=QA hm aB
 refine Q2 [] (S':=[]) Z (Q5 (Q1 (wP Z (Q3 (Q4 (Qb (Qg (Q7 (Q7 (Qg (Q7 ?_)))))))))))
 have hE:=(Zi hm).symm
 replace hE:=Qv hLu1 hE
 replace hE:=Qv hLj_1 hE
 replace hE:=hE.symm
 subst hE
 refine Ql (Hr:=[]) [] Tryz.results70 (Qc Z) ⟨Z,Z,Z⟩ (asK [] Z) Z Z (.inl Z)
 replace hm:=Qz hm aB
 refine Q2 [3,0] (S':=[_,_]) Z (Qq (Qh (Q4 (Q1 (wP Z (wP Z ?_))))))
 obtain ⟨aJ,hm⟩:=Qu hm
 refine QH (d:=11) (v':=.int .i64 ((j + 1:Nat):Int)) (S':=V3 ..) Z Z (Q1J (a:=j) (b:=1) aJ) (Q1b (S':=V3 ..) Z Z Z Z Z (Q3 ?_))
 have hE:=(Zi hm).symm
 replace hE:=QO hLu1 hE
 refine Q1a (_,j + 1) (Nat.lt_succ_self _) hE [3,0] Z (asK [] Z) Z
 replace hm:=Qz hm aE
 refine Q2 [0] (S':=[_]) Z (Q1x (Qk (Qk (QJ ?_))))
 have hE:=(Zi hm).symm
 replace hE:=Qv hLu1 hE
 refine Q9 () hE [0] Z (asK [] Z) Z
 rintro _ hE
 try dsimp only
 have hm:=QO hLj_1 hE
 try dsimp only at hm
 refine Q5 (Q1 (wP Z (Q1B Z Z Z Zq (Q3y Z Z Q64) (wP Z (QH (d:=42) (v':=.bool (decide (1 ≤ a0.size))) (S':=V3 ..) Z Z (natge (a:=a0.size) (b:=1)) (wP Z ?_))))))
 refine Qt (d:=43) (S':=V4 ..) Z Z (fun aC=>?_) (fun aC=>?_)
 replace hm:=QA hm aC
 refine wP Z (Q1B Z Z Z Zq (Q3y Z Z Q64) (wP Z (QH (d:=46) (v':=.bool (decide (a0.size ≤ 24))) (S':=V7 ..) Z Z (natle (a:=a0.size) (b:=24)) (wP Z (wP Z (Q3 (Q4 (Q2 [2] (S':=[_]) Z (Qb ?_)))))))))
 have hE:=(Zi hm).symm
 replace hE:=hE.symm
 subst hE
 refine Ql (Hr:=[]) [] Tryz.results70 (Qc Z) ⟨Z,Z,Z⟩ (asK [] Z) Z Z (.inl Z)
 replace hm:=Qz hm aC
 refine wO Z (wO Z (wO Z (wP Z (wP Z (Q3 (Q4 (Q2 [2] (S':=[_]) Z (Qb ?_))))))))
 have hE:=(Zi hm).symm
 replace hE:=hE.symm
 subst hE
 refine Ql (Hr:=[]) [] Tryz.results70 (Qc Z) ⟨Z,Z,Z⟩ (asK [] Z) Z Z (.inl Z)
theorem Q2O (N:Nat) (a0:ByteArray) (o0:Int) (o1:Bool) (hm:Q2r N a0 = some (o0,o1)):Q1o Tryz.prog 202 [.string a0] [] [] (fun v Φr Hr=>v = .tuple #[.int .i64 o0,.bool o1] ∧ Φr = [] ∧ Hr = []):=by
 unfold Q2r at hm
 refine QD Tryz.func202 Z Tryz.ntmps202 Z (S:=[_]) Z (fun C=>(Q5 (Q1 (wP Z (wP Z (Q3 (Q4 (Q2 [0] (S':=[_]) Z (Q5 (Q1 (wP Z (Q3 (Q4 (Q5 ?_))))))))))))))
 obtain ⟨a7,hm,hLj_1⟩:=Q1w hm
 refine QI (σ:=Int) (fun s=>a7 = .inl s) (fun s=>[(0,.string a0),(4,.int .i64 s)]) (fun s=>[]) (fun s=>[]) ?_ ?_
 refine Q5 (Q1 (wP Z (Q3 (Q4 (Qw (Q1E (σ:=Nat × Nat × Int) (fun (z,j,q)=>Q1M (Q4B N a0) z (j,q) = some a7) (fun (z,j,q)=>z) (fun (z,j,q)=>[(5,.int .i64 ((j:Nat):Int)),(4,.int .i64 q),(0,.string a0)]) (fun (z,j,q)=>[]) (fun (z,j,q)=>[]) (N,0,0) hm [5,4,0] Z (asK [] Z) Z (fun s_ hm=>?_)))))))
 obtain ⟨z,j,q⟩:=s_
 try dsimp only at hm ⊢
 obtain ⟨aL,aM,aA,hq,hLu1⟩:=Q1e hm
 clear hm
 subst aA
 replace hm:=hq
 clear hq
 unfold Q4B at hm
 try dsimp only at hm
 refine Q5 (Q5 (Q1 (wP Z (wP Z (Q1B Z Z Z Zq (Q3y Z Z Q64) (wP Z (QH (d:=10) (v':=.bool (decide (j < a0.size))) (S':=V6 ..) Z Z (Q2z (a:=j) (b:=a0.size)) (Q3 (Q4 (Q2 [10,5,4,0] (S':=V4 ..) Z ?_))))))))))
 refine Qj Z (fun a1=>?_) (fun a1=>?_)
 replace hm:=QA hm a1
 refine Q2 [5,4,0] (S':=V3 ..) Z (Qq (Q4 (Q5 (Qw (Q5 (Q5 (Q1 (wP Z (wP Z ?_)))))))))
 obtain ⟨aI,aB,hm⟩:=Q6 hm
 refine Q1B Z Z Z Zq (Q3P j Z Z Z Z aB Q64) ?_
 obtain ⟨aN,aC,hm⟩:=Q6 hm
 refine wC [] [] Z fn_201 Z (Q3Y N ((aI.toNat:Nat):Int) _ aC) (asK [] Z) Z (H':=[]) Z ?_
 rintro _ _ _ ⟨rfl,rfl,rfl⟩
 refine wP Z (Q3 (Q4 (Q2 [17,5,4,0] (S':=V4 ..) Z ?_)))
 refine Qj Z (fun a5=>?_) (fun a5=>?_)
 replace hm:=QA hm a5
 refine Q2 [] (S':=[]) Z (Q5 (Q1 (wP Z (wP Z (Q3 (Q4 (Qb (Q7 (Qg (Q7 (Q7 (Qg (Q7 ?_)))))))))))))
 have hE:=(Zi hm).symm
 replace hE:=Qv hLu1 hE
 replace hE:=Qv hLj_1 hE
 obtain ⟨hE0,hE1⟩:=Prod.mk.inj hE
 clear hE
 replace hE0:=hE0.symm
 subst hE0
 replace hE1:=hE1.symm
 subst hE1
 refine Q1r (Hr:=[]) [] Tryz.results202 (Qc Z) (Qc Z) ⟨Z,Z,Z⟩ (asK [] Z) Z Z (.inl Z)
 replace hm:=Qz hm a5
 refine Q2 [5,4,0] (S':=V3 ..) Z (Qq (Q4 (Q5 (Q1 (wP Z (wP Z ?_))))))
 obtain ⟨a9,aD,hm⟩:=Q6 hm
 refine Q1B Z Z Z Zq (Q3P j Z Z Z Z aD Q64) (wP Z (Q1B Z Z Z Zq (QaI Z Z tI_5 tI_2) (wP Z (Q3 (Q4 (Q2 [6,5,4,0] (S':=V4 ..) Z (Q5 (Q5 (Q1 (wP Z (wP Z (wP Z ?_))))))))))))
 obtain ⟨aE,hm⟩:=Qu hm
 refine QH (d:=25) (v':=.int .i64 (9223372036854775807 - (IntKind.wrap .i64 (IntKind.wrap .u8 (((a9.toNat:Nat):Int) - 48))))) (S':=V6 ..) Z Z (i64_in aE) (Q7Q Z Z Z Zq Z Z Z (run_quo (by decide)) (wP Z (Q3 (Q4 (Q2 [27,6,5,4,0] (S':=V5 ..) Z ?_)))))
 refine Qj Z (fun a6=>?_) (fun a6=>?_)
 replace hm:=QA hm a6
 refine Q2 [] (S':=[]) Z (Q5 (Q1 (wP Z (wP Z (Q3 (Q4 (Qb (Q7 (Qg (Q7 (Q7 (Qg (Q7 ?_)))))))))))))
 have hE:=(Zi hm).symm
 replace hE:=Qv hLu1 hE
 replace hE:=Qv hLj_1 hE
 obtain ⟨hE0,hE1⟩:=Prod.mk.inj hE
 clear hE
 replace hE0:=hE0.symm
 subst hE0
 replace hE1:=hE1.symm
 subst hE1
 refine Q1r (Hr:=[]) [] Tryz.results202 (Qc Z) (Qc Z) ⟨Z,Z,Z⟩ (asK [] Z) Z Z (.inl Z)
 replace hm:=Qz hm a6
 refine Q2 [6,5,4,0] (S':=V4 ..) Z (Qq (Q4 (Q1 (wP Z (wP Z ?_)))))
 obtain ⟨aF,hm⟩:=Qu hm
 refine QH (d:=29) (v':=.int .i64 (10 * q)) (S':=V5 ..) Z Z (i64_in aF) (wP Z (wP Z ?_))
 obtain ⟨aG,hm⟩:=Qu hm
 refine QH (d:=31) (v':=.int .i64 ((10 * q) + (IntKind.wrap .i64 (IntKind.wrap .u8 (((a9.toNat:Nat):Int) - 48))))) (S':=V7 ..) Z Z (i64_in aG) (Q1b (S':=V7 ..) Z Z Z Z Z (Q3 (Qh (Q4 (Q2 [4,5,0] (S':=V3 ..) Z (Q1 (wP Z (wP Z ?_))))))))
 obtain ⟨aH,hm⟩:=Qu hm
 refine QH (d:=12) (v':=.int .i64 ((j + 1:Nat):Int)) (S':=V4 ..) Z Z (Q1J (a:=j) (b:=1) aH) (Q1b (S':=V4 ..) Z Z Z Z Z (Q3 ?_))
 have hE:=(Zi hm).symm
 replace hE:=QO hLu1 hE
 refine Q1a (_,j + 1,((10 * q) + (IntKind.wrap .i64 (IntKind.wrap .u8 (((a9.toNat:Nat):Int) - 48))))) (Nat.lt_succ_self _) hE [5,4,0] Z (asK [] Z) Z
 replace hm:=Qz hm a1
 refine Q2 [4,0] (S':=[_,_]) Z (Q1x (Qk (Qk (QJ ?_))))
 have hE:=(Zi hm).symm
 replace hE:=Qv hLu1 hE
 refine Q9 q hE [0,4] Z (asK [] Z) Z
 rintro s hE
 try dsimp only
 have hm:=QO hLj_1 hE
 refine Q5 (Q1 (wP Z (wP Z (wP Z (wP Z (wP Z (Q3 (Q4 (Q2 [3,2] (S':=[_,_]) Z (Qb ?_))))))))))
 have hE:=(Zi hm).symm
 obtain ⟨hE0,hE1⟩:=Prod.mk.inj hE
 clear hE
 replace hE0:=hE0.symm
 subst hE0
 replace hE1:=hE1.symm
 subst hE1
 refine Q1r (Hr:=[]) [] Tryz.results202 (Qc Z) (Qc Z) ⟨Z,Z,Z⟩ (asK [] Z) Z Z (.inl Z)
theorem Qat (N:Nat)   (hm:Q6m N = some ()):Q1o Tryz.prog 204 [] [] [] (fun v Φr Hr=>∃ (o0:Nat),v = .slice (some ⟨o0,0,none⟩) 17 17 ∧ Φr = [] ∧ Hr = [.blk o0 [.string ((⟨#[61,62]⟩ : ByteArray)),.string ((⟨#[33,61]⟩ : ByteArray)),.string ((⟨#[60,61]⟩ : ByteArray)),.string ((⟨#[62,61]⟩ : ByteArray)),.string ((⟨#[40]⟩ : ByteArray)),.string ((⟨#[41]⟩ : ByteArray)),.string ((⟨#[123]⟩ : ByteArray)),.string ((⟨#[125]⟩ : ByteArray)),.string ((⟨#[44]⟩ : ByteArray)),.string ((⟨#[59]⟩ : ByteArray)),.string ((⟨#[61]⟩ : ByteArray)),.string ((⟨#[60]⟩ : ByteArray)),.string ((⟨#[62]⟩ : ByteArray)),.string ((⟨#[43]⟩ : ByteArray)),.string ((⟨#[45]⟩ : ByteArray)),.string ((⟨#[42]⟩ : ByteArray)),.string ((⟨#[95]⟩ : ByteArray))] 9]):=by
 unfold Q6m at hm
 refine QD Tryz.func204 Z Tryz.ntmps204 Z (S:=[]) Z (fun C=>(Q5 (Q1 (wP Z (Q3 (Q4 (Q2 [] (S':=[]) Z (Q5 (Q1 (Qy Z Z Z Zq Z Q2c Q27 tZ_9 Z (zs:=[.string ((⟨#[]⟩ : ByteArray)),.string ((⟨#[]⟩ : ByteArray)),.string ((⟨#[]⟩ : ByteArray)),.string ((⟨#[]⟩ : ByteArray)),.string ((⟨#[]⟩ : ByteArray)),.string ((⟨#[]⟩ : ByteArray)),.string ((⟨#[]⟩ : ByteArray)),.string ((⟨#[]⟩ : ByteArray)),.string ((⟨#[]⟩ : ByteArray)),.string ((⟨#[]⟩ : ByteArray)),.string ((⟨#[]⟩ : ByteArray)),.string ((⟨#[]⟩ : ByteArray)),.string ((⟨#[]⟩ : ByteArray)),.string ((⟨#[]⟩ : ByteArray)),.string ((⟨#[]⟩ : ByteArray)),.string ((⟨#[]⟩ : ByteArray)),.string ((⟨#[]⟩ : ByteArray))]) (by kernel_rfl) Z (out:=[.string ((⟨#[61,62]⟩ : ByteArray)),.string ((⟨#[33,61]⟩ : ByteArray)),.string ((⟨#[60,61]⟩ : ByteArray)),.string ((⟨#[62,61]⟩ : ByteArray)),.string ((⟨#[40]⟩ : ByteArray)),.string ((⟨#[41]⟩ : ByteArray)),.string ((⟨#[123]⟩ : ByteArray)),.string ((⟨#[125]⟩ : ByteArray)),.string ((⟨#[44]⟩ : ByteArray)),.string ((⟨#[59]⟩ : ByteArray)),.string ((⟨#[61]⟩ : ByteArray)),.string ((⟨#[60]⟩ : ByteArray)),.string ((⟨#[62]⟩ : ByteArray)),.string ((⟨#[43]⟩ : ByteArray)),.string ((⟨#[45]⟩ : ByteArray)),.string ((⟨#[42]⟩ : ByteArray)),.string ((⟨#[95]⟩ : ByteArray))]) (by kernel_rfl) (fun g1=>(wP Z (Q3 (Q4 (Q2 [0] (S':=[_]) Z ?_)))))))))))))))
 refine Qb ?_
 have hE:=(Zi hm).symm
 refine Ql (Hr:=[_]) [0] Tryz.results204 (Qc Z) ⟨g1,Z,Z,Z⟩ (asK [] Z) Z Z (.inl Z)
theorem Qau (N:Nat) (a0:ByteArray) (a1:Int) (o0:Nat) (o1:ByteArray) (o2:Int) (o3:Int) (o4:Nat) (hm:Q6n N a0 a1 = some (o0,o1,o2,o3,o4)):Q1o Tryz.prog 160 [.string a0,.int .i64 a1] [] [] (fun v Φr Hr=>v = .tuple #[.agg #[.int .u8 ((o0:Nat):Int),.string o1,.int .i64 o2],.int .i64 o3,.int .i64 ((o4:Nat):Int)] ∧ Φr = [] ∧ Hr = []):=by
 unfold Q6n at hm
 refine QD Tryz.func160 Z Tryz.ntmps160 Z (S:=[_,_]) Z (fun C=>(Q5 (Q1 (QE Z Z Z Zq Z Q5A Z (fun g4=>(wP Z (wP Z (Q3 (Q4 (Q2 [4,0,1] (S':=V3 ..) Z (Q5 (Q1 (wP Z (wP Z ?_))))))))))))))
 obtain ⟨bR,hm⟩:=Qu hm
 obtain ⟨aC,bS,hm⟩:=Q6 hm
 refine Q1B Z Z Z Zq (Q3P a1.toNat Z Z Z (Q1G bR) bS Q64) (wP Z (Q3 (Q4 (Q2 [7,4,0,1] (S':=V4 ..) Z (Q5 (Qw (Q5 (Q1 (wP Z ?_)))))))))
 obtain ⟨cT,bT,hm⟩:=Q6 hm
 refine wC [] [0] Z fn_198 Z (Q7X N ((aC.toNat:Nat):Int) _ bT) (asK [] Z) Z (H':=[_]) Z ?_
 rintro _ _ _ ⟨rfl,rfl,rfl⟩
 refine wP Z (Q3 (Q4 (Q2 [21,7,4,0,1] (S':=V5 ..) Z ?_)))
 refine Qj Z (fun aN=>?_) (fun aN=>?_)
 replace hm:=QA hm aN
 refine Q2 [4,0,1] (S':=V3 ..) Z (Q5 (Q1 (wP Z (wP Z ?_))))
 obtain ⟨aO,bU,hm⟩:=Q6 hm
 refine wC [] [0] Z fn_199 Z (Q7Y N a0 a1 _ bU) (asK [] Z) Z (H':=[_]) Z ?_
 rintro _ _ _ ⟨rfl,rfl,rfl⟩
 refine wP Z (Q3 (Q4 (Q2 [8,4,0,1] (S':=V4 ..) Z (Q5 (Q1 (wP Z (wP Z (wP Z ?_))))))))
 obtain ⟨b8,hm⟩:=Qu hm
 obtain ⟨b9,hm⟩:=Qu hm
 obtain ⟨bF,hm⟩:=Qu hm
 refine Q1B Z Z Z Zq (Q8t a1.toNat aO.toNat Z Z Z (Q1G b8) Z (Q1G b9) bF.1 bF.2 Q64) (wP Z (Q13 Z Z Z Zq Z Q5A QaQ Z (out:=V3 ..) Z (QE Z Z Z Zq Z Q5A Z (fun g9=>(wS 0 0 Z Q2N (all':=V3 ..) Z (H':=[_,_]) Z (Q3 (Q4 (Q2 [9,8,4,1] (S':=V4 ..) Z (Q5 (Q5 (Q1 (wP Z (wP Z (wP Z ?_))))))))))))))
 obtain ⟨bV,hm⟩:=Qu hm
 refine QH (d:=35) (v':=.int .i64 (aO - a1)) (S':=V6 ..) Z Z (i64_in bV) (wP Z (Q3 (Q4 (Q2 [36,9,8,4] (S':=V4 ..) Z ?_))))
 refine Qj Z (fun aP=>?_) (fun aP=>?_)
 replace hm:=QA hm aP
 refine Q2 [4] (S':=[_]) Z (Q5 (Q1 (Q13 Z Z Z Zq Z Q5A QaQ Z (out:=V3 ..) Z (wS 1 0 Z Q2N (all':=V3 ..) Z (H':=[_,_]) Z (wP Z (wP Z (Q3 (Q4 (Q2 [6,5,4] (S':=V3 ..) Z (Qb (Q7 (Qg (Q7 ?_)))))))))))))
 have hE:=(Zi hm).symm
 obtain ⟨hE0,hF1⟩:=Prod.mk.inj hE
 obtain ⟨hE1,hF2⟩:=Prod.mk.inj hF1
 obtain ⟨hE2,hF3⟩:=Prod.mk.inj hF2
 obtain ⟨hE3,hE4⟩:=Prod.mk.inj hF3
 clear hE hF1 hF2 hF3
 replace hE0:=hE0.symm
 subst hE0
 replace hE1:=hE1.symm
 subst hE1
 replace hE2:=hE2.symm
 subst hE2
 replace hE3:=hE3.symm
 subst hE3
 replace hE4:=hE4.symm
 subst hE4
 refine Q7y (Hr:=[]) [] Tryz.results160 (QW 1 Z Z Q2N Q8b Z Z) (Qc Z) (Qc Z) ⟨Z,Z,Z⟩ (asK [] Z) Z Z (.inl Z)
 replace hm:=Qz hm aP
 refine Q2 [9,8,4] (S':=V3 ..) Z (Qq (Q4 (Q5 ?_)))
 obtain ⟨bW,hm,hLj_1⟩:=Q6 hm
 refine QI (σ:=Nat) (fun a5=>bW = a5) (fun a5=>[(9,.pointer (some ⟨g9,0,none⟩)),(8,.int .i64 aO),(4,.pointer (some ⟨g4,0,none⟩))]) (fun a5=>[]) (fun a5=>[.blk g9 [.int .u8 ((a5:Nat):Int),.string (a0.extract a1.toNat aO.toNat),.int .i64 a1] 197,.blk g4 [.int .u8 0,.string ((⟨#[]⟩ : ByteArray)),.int .i64 0] 197]) ?_ ?_
 refine Q5 (Q1 (wF Z Qao (wD 0 1 Z Q27 Q2E Z ?_)))
 obtain ⟨cU,bX,hm⟩:=Q6 hm
 refine wC [] [0,1] Z fn_200 Z (QaX N (a0.extract a1.toNat aO.toNat) _ bX) (asK [] Z) Z (H':=[_,_]) Z ?_
 rintro _ _ _ ⟨rfl,rfl,rfl⟩
 refine Q3 (Q4 (Q2 [40,9,8,4] (S':=V4 ..) Z ?_))
 refine Qj Z (fun aQ=>?_) (fun aQ=>?_)
 replace hm:=QA hm aQ
 refine Q2 [9,8,4] (S':=V3 ..) Z (Q1 (wF Z Q7L (wS 0 0 Z Q8M (all':=V3 ..) Z (H':=[_,_]) Z (Q3 ?_))))
 have hE:=(Zi hm).symm
 refine Q9 1 hE [9,8,4] Z (asK [] Z) Z
 replace hm:=Qz hm aQ
 refine Q2 [9,8,4] (S':=V3 ..) Z (Qq ?_)
 have hE:=(Zi hm).symm
 refine Q9 2 hE [9,8,4] Z (asK [] Z) Z
 rintro a5 hE
 try dsimp only
 have hm:=hLj_1
 rw [hE] at hm
 refine Q5 (Q1 (QR 0 0 Z Z Z Zq Z Z Z (cs:=V3 ..) Z Q2N Q8b Z Z (wP Z (wS 1 0 Z Q2N (all':=V3 ..) Z (H':=[_,_]) Z (wP Z (wP Z (Q3 (Q4 (Q2 [6,5,4] (S':=V3 ..) Z (Qb (Qg (Q7 ?_))))))))))))
 have hE:=(Zi hm).symm
 obtain ⟨hE0,hF1⟩:=Prod.mk.inj hE
 obtain ⟨hE1,hF2⟩:=Prod.mk.inj hF1
 obtain ⟨hE2,hF3⟩:=Prod.mk.inj hF2
 obtain ⟨hE3,hE4⟩:=Prod.mk.inj hF3
 clear hE hF1 hF2 hF3
 replace hE0:=hE0.symm
 subst hE0
 replace hE1:=hE1.symm
 subst hE1
 replace hE2:=hE2.symm
 subst hE2
 replace hE3:=hE3.symm
 subst hE3
 replace hE4:=hE4.symm
 subst hE4
 refine Q7y (Hr:=[]) [] Tryz.results160 (QW 1 Z Z Q2N Q8b Z Z) (Qc Z) (Qc Z) ⟨Z,Z,Z⟩ (asK [] Z) Z Z (.inl Z)
 replace hm:=Qz hm aN
 refine Q2 [7,4,0,1] (S':=V4 ..) Z (Q5 ?_)
 obtain ⟨bY,hm,hLj_2⟩:=Q6 hm
 refine QI (σ:=Bool) (fun a9=>bY = a9) (fun a9=>[(7,.int .u8 ((aC.toNat:Nat):Int)),(4,.pointer (some ⟨g4,0,none⟩)),(0,.string a0),(1,.int .i64 a1),(44,.bool a9)]) (fun a9=>[]) (fun a9=>[.blk g4 [.int .u8 0,.string ((⟨#[]⟩ : ByteArray)),.int .i64 0] 197]) ?_ ?_
 refine Q1 (wP Z (wP Z (QH (d:=46) (v':=.bool (aC.toNat == 63)) (S':=V5 ..) Z Z (Q3c (a:=aC.toNat) (b:=63)) (wP Z ?_))))
 refine Qt (d:=47) (S':=V6 ..) Z Z (fun aR=>?_) (fun aR=>?_)
 replace hm:=QA hm aR
 refine wO Z (wO Z (wP Z (wP Z (Q3 ?_))))
 have hE:=(Zi hm).symm
 refine Q9 true hE [7,4,0,1,44] Z (asK [] Z) Z
 replace hm:=Qz hm aR
 refine wP Z (wP Z (QH (d:=49) (v':=.bool (aC.toNat == 39)) (S':=V8 ..) Z Z (Q3c (a:=aC.toNat) (b:=39)) (wP Z (wP Z (Q3 ?_)))))
 have hE:=(Zi hm).symm
 refine Q9 (aC.toNat == 39) hE [7,4,0,1,44] Z (asK [] Z) Z
 rintro a9 hE
 try dsimp only
 have hm:=hLj_2
 rw [hE] at hm
 refine Qj Z (fun aS=>?_) (fun aS=>?_)
 replace hm:=QA hm aS
 refine Q2 [7,4,0,1] (S':=V4 ..) Z (Q5 (Q1 (wP Z (wP Z (wP Z ?_)))))
 obtain ⟨bZ,hm⟩:=Qu hm
 refine QH (d:=53) (v':=.int .i64 (a1 + 1)) (S':=V6 ..) Z Z (i64_in bZ) ?_
 obtain ⟨bA,c0,hm⟩:=Q6 hm
 refine wC [] [0] Z fn_199 Z (Q7Y N a0 (a1 + 1) _ c0) (asK [] Z) Z (H':=[_]) Z ?_
 rintro _ _ _ ⟨rfl,rfl,rfl⟩
 refine wP Z (Q3 (Q4 (Q2 [10,7,4,0,1] (S':=V5 ..) Z (Q5 (Q1 (wP Z (wP Z (wP Z ?_))))))))
 obtain ⟨c1,hm⟩:=Qu hm
 refine QH (d:=57) (v':=.int .i64 (a1 + 1)) (S':=V7 ..) Z Z (i64_in c1) (wP Z ?_)
 obtain ⟨bB,hm⟩:=Qu hm
 obtain ⟨bC,hm⟩:=Qu hm
 obtain ⟨bG,hm⟩:=Qu hm
 refine Q1B Z Z Z Zq (Q8t ((a1 + 1).toNat) bA.toNat Z Z Z (Q1G bB) Z (Q1G bC) bG.1 bG.2 Q64) (wP Z (Q13 Z Z Z Zq Z Q5A QaQ Z (out:=V3 ..) Z (QE Z Z Z Zq Z Q5A Z (fun c2=>(wS 0 0 Z Q2N (all':=V3 ..) Z (H':=[_,_]) Z (Q3 (Q4 (Q2 [11,10,7,4] (S':=V4 ..) Z (Q5 ?_)))))))))
 obtain ⟨c3,hm,hLj_3⟩:=Q6 hm
 refine QI (σ:=Nat) (fun s=>c3 = s) (fun s=>[(11,.pointer (some ⟨c2,0,none⟩)),(10,.int .i64 bA),(4,.pointer (some ⟨g4,0,none⟩))]) (fun s=>[]) (fun s=>[.blk c2 [.int .u8 ((s:Nat):Int),.string (a0.extract ((a1 + 1).toNat) bA.toNat),.int .i64 a1] 197,.blk g4 [.int .u8 0,.string ((⟨#[]⟩ : ByteArray)),.int .i64 0] 197]) ?_ ?_
 refine Q5 (Q1 (wP Z (wP Z (QH (d:=63) (v':=.bool (aC.toNat == 39)) (S':=V5 ..) Z Z (Q3c (a:=aC.toNat) (b:=39)) (Q3 (Q4 (Q2 [63,11,10,4] (S':=V4 ..) Z ?_)))))))
 refine Qj Z (fun aT=>?_) (fun aT=>?_)
 replace hm:=QA hm aT
 refine Q2 [11,10,4] (S':=V3 ..) Z (Q1 (wF Z Q7L (wS 0 0 Z Q8M (all':=V3 ..) Z (H':=[_,_]) Z (Q3 ?_))))
 have hE:=(Zi hm).symm
 refine Q9 5 hE [11,10,4] Z (asK [] Z) Z
 replace hm:=Qz hm aT
 refine Q2 [11,10,4] (S':=V3 ..) Z (Qq ?_)
 have hE:=(Zi hm).symm
 refine Q9 3 hE [11,10,4] Z (asK [] Z) Z
 rintro s hE
 try dsimp only
 have hm:=hLj_3
 rw [hE] at hm
 refine Q5 (Q5 (Q1 (wF Z Qao (wD 0 1 Z Q27 Q2E Z ?_))))
 obtain ⟨cV,c4,hm⟩:=Q6 hm
 refine wC [] [0,1] Z fn_70 Z (Q5B N (a0.extract ((a1 + 1).toNat) bA.toNat) _ c4) (asK [] Z) Z (H':=[_,_]) Z ?_
 rintro _ _ _ ⟨rfl,rfl,rfl⟩
 refine wP Z (Q3 (Q4 (Q2 [68,11,10,4] (S':=V4 ..) Z ?_)))
 refine Qj Z (fun aU=>?_) (fun aU=>?_)
 replace hm:=QA hm aU
 refine Q2 [4] (S':=[_]) Z (Q5 (Q1 (Q13 Z Z Z Zq Z Q5A QaQ Z (out:=V3 ..) Z (wS 1 0 Z Q2N (all':=V3 ..) Z (H':=[_,_]) Z (wP Z (wP Z (Q3 (Q4 (Q2 [6,5,4] (S':=V3 ..) Z (Qb (Q7 (Qg (Q7 ?_)))))))))))))
 have hE:=(Zi hm).symm
 obtain ⟨hE0,hF1⟩:=Prod.mk.inj hE
 obtain ⟨hE1,hF2⟩:=Prod.mk.inj hF1
 obtain ⟨hE2,hF3⟩:=Prod.mk.inj hF2
 obtain ⟨hE3,hE4⟩:=Prod.mk.inj hF3
 clear hE hF1 hF2 hF3
 replace hE0:=hE0.symm
 subst hE0
 replace hE1:=hE1.symm
 subst hE1
 replace hE2:=hE2.symm
 subst hE2
 replace hE3:=hE3.symm
 subst hE3
 replace hE4:=hE4.symm
 subst hE4
 refine Q7y (Hr:=[]) [] Tryz.results160 (QW 1 Z Z Q2N Q8b Z Z) (Qc Z) (Qc Z) ⟨Z,Z,Z⟩ (asK [] Z) Z Z (.inl Z)
 replace hm:=Qz hm aU
 refine Q2 [11,10,4] (S':=V3 ..) Z (Qq (Q4 (Q5 (Q1 (QR 0 0 Z Z Z Zq Z Z Z (cs:=V3 ..) Z Q2N Q8b Z Z (wP Z (wS 1 0 Z Q2N (all':=V3 ..) Z (H':=[_,_]) Z (wP Z (wP Z (Q3 (Q4 (Q2 [6,5,4] (S':=V3 ..) Z (Qb ?_)))))))))))))
 refine Qg (Q7 ?_)
 have hE:=(Zi hm).symm
 obtain ⟨hE0,hF1⟩:=Prod.mk.inj hE
 obtain ⟨hE1,hF2⟩:=Prod.mk.inj hF1
 obtain ⟨hE2,hF3⟩:=Prod.mk.inj hF2
 obtain ⟨hE3,hE4⟩:=Prod.mk.inj hF3
 clear hE hF1 hF2 hF3
 replace hE0:=hE0.symm
 subst hE0
 replace hE1:=hE1.symm
 subst hE1
 replace hE2:=hE2.symm
 subst hE2
 replace hE3:=hE3.symm
 subst hE3
 replace hE4:=hE4.symm
 subst hE4
 refine Q7y (Hr:=[]) [] Tryz.results160 (QW 1 Z Z Q2N Q8b Z Z) (Qc Z) (Qc Z) ⟨Z,Z,Z⟩ (asK [] Z) Z Z (.inl Z)
 replace hm:=Qz hm aS
 refine Q2 [7,4,0,1] (S':=V4 ..) Z (Q5 (Q1 (wP Z ?_)))
 obtain ⟨cW,c5,hm⟩:=Q6 hm
 refine wC [] [0] Z fn_201 Z (Q3Y N ((aC.toNat:Nat):Int) _ c5) (asK [] Z) Z (H':=[_]) Z ?_
 rintro _ _ _ ⟨rfl,rfl,rfl⟩
 refine wP Z (Q3 (Q4 (Q2 [72,4,0,1] (S':=V4 ..) Z ?_)))
 refine Qj Z (fun aV=>?_) (fun aV=>?_)
 replace hm:=QA hm aV
 refine Q2 [4,0,1] (S':=V3 ..) Z (Q5 (Q1 (wP Z (wP Z (Q3 (Q4 (Q2 [12,4,0,1] (S':=V4 ..) Z (Q5 ?_))))))))
 obtain ⟨bH,hm,hLj_4⟩:=Q6 hm
 refine QI (σ:=Int) (fun q=>bH = q) (fun q=>[(12,.int .i64 q),(4,.pointer (some ⟨g4,0,none⟩)),(0,.string a0),(1,.int .i64 a1)]) (fun q=>[]) (fun q=>[.blk g4 [.int .u8 0,.string ((⟨#[]⟩ : ByteArray)),.int .i64 0] 197]) ?_ ?_
 refine Qw (Q1E (σ:=Nat × Int) (fun (aG,z)=>Q1M (Q50 N a0) aG z = some bH) (fun (aG,z)=>aG) (fun (aG,z)=>[(12,.int .i64 z),(4,.pointer (some ⟨g4,0,none⟩)),(0,.string a0),(1,.int .i64 a1)]) (fun (aG,z)=>[]) (fun (aG,z)=>[.blk g4 [.int .u8 0,.string ((⟨#[]⟩ : ByteArray)),.int .i64 0] 197]) (N,a1) hm [12,4,0,1] Z (asK [] Z) Z (fun s_ hm=>?_))
 obtain ⟨aG,z⟩:=s_
 try dsimp only at hm ⊢
 obtain ⟨cX,cY,c6,hq,hLu1⟩:=Q1e hm
 clear hm
 subst c6
 replace hm:=hq
 clear hq
 unfold Q50 at hm
 try dsimp only at hm
 refine Q5 (Q5 ?_)
 obtain ⟨c7,hm,hLj_5⟩:=Q6 hm
 refine QI (σ:=Bool) (fun aA=>c7 = aA) (fun aA=>[(12,.int .i64 z),(4,.pointer (some ⟨g4,0,none⟩)),(0,.string a0),(1,.int .i64 a1),(85,.bool aA)]) (fun aA=>[]) (fun aA=>[.blk g4 [.int .u8 0,.string ((⟨#[]⟩ : ByteArray)),.int .i64 0] 197]) ?_ ?_
 refine Q1 (wP Z (wP Z (Q1B Z Z Z Zq (Q3y Z Z Q64) (wP Z (wP Z ?_)))))
 refine Qt (d:=80) (S':=V8 ..) Z Z (fun aW=>?_) (fun aW=>?_)
 replace hm:=QA hm aW
 refine wP Z (wP Z ?_)
 obtain ⟨c8,hm⟩:=Qu hm
 obtain ⟨cJ,c9,hm⟩:=Q6 hm
 refine Q1B Z Z Z Zq (Q3P z.toNat Z Z Z (Q1G c8) c9 Q64) ?_
 obtain ⟨cK,cA,hm⟩:=Q6 hm
 refine wC [] [0] Z fn_201 Z (Q3Y N ((cJ.toNat:Nat):Int) _ cA) (asK [] Z) Z (H':=[_]) Z ?_
 rintro _ _ _ ⟨rfl,rfl,rfl⟩
 refine wP Z (Q3 ?_)
 have hE:=(Zi hm).symm
 refine Q9 cK hE [12,4,0,1,85] Z (asK [] Z) Z
 replace hm:=Qz hm aW
 refine wO Z (wO Z (wO Z (wO Z (wP Z (Q3 ?_)))))
 have hE:=(Zi hm).symm
 refine Q9 false hE [12,4,0,1,85] Z (asK [] Z) Z
 rintro aA hE
 try dsimp only
 have hm:=hLj_5
 rw [hE] at hm
 refine Qj Z (fun aX=>?_) (fun aX=>?_)
 replace hm:=QA hm aX
 refine Q2 [12,4,0,1] (S':=V4 ..) Z (Qq (Q4 (Qw (Q1 (wP Z (wP Z ?_))))))
 obtain ⟨cB,hm⟩:=Qu hm
 refine QH (d:=87) (v':=.int .i64 (z + 1)) (S':=V5 ..) Z Z (i64_in cB) (Q1b (S':=V5 ..) Z Z Z Z Z (Q3 (Qh ?_)))
 have hE:=(Zi hm).symm
 replace hE:=QO hLu1 hE
 refine Q1a (_,z + 1) (Nat.lt_succ_self _) hE [12,4,0,1] Z (asK [] Z) Z
 replace hm:=Qz hm aX
 refine Q2 [12,4,0,1] (S':=V4 ..) Z (Q1x (Qk (Qk (QJ ?_))))
 have hE:=(Zi hm).symm
 replace hE:=Qv hLu1 hE
 refine Q9 z hE [12,4,0,1] Z (asK [] Z) Z
 rintro q hE
 try dsimp only
 have hm:=hLj_4
 rw [hE] at hm
 refine Q5 (Q1 (wP Z (wP Z (wP Z ?_))))
 obtain ⟨bD,hm⟩:=Qu hm
 obtain ⟨bE,hm⟩:=Qu hm
 obtain ⟨bI,hm⟩:=Qu hm
 refine Q1B Z Z Z Zq (Q8t a1.toNat q.toNat Z Z Z (Q1G bD) Z (Q1G bE) bI.1 bI.2 Q64) ?_
 obtain ⟨⟨cL,cM⟩,cC,hm⟩:=Q6 hm
 try dsimp only at hm
 refine wC [] [0] Z fn_202 Z (Q2O N (a0.extract a1.toNat q.toNat) _ _ cC) (asK [] Z) Z (H':=[_]) Z ?_
 rintro _ _ _ ⟨rfl,rfl,rfl⟩
 refine wP Z (wP Z (wP Z (wP Z (wP Z (Q3 (Q4 (Q2 [14,12,4,0,1] (S':=V5 ..) Z (Q5 (Q5 ?_)))))))))
 obtain ⟨cD,hm,hLj_6⟩:=Q6 hm
 unfold Q7c at hm
 refine QI (σ:=Bool) (fun a6=>cD = a6) (fun a6=>[(12,.int .i64 q),(4,.pointer (some ⟨g4,0,none⟩)),(0,.string a0),(1,.int .i64 a1),(109,.bool a6)]) (fun a6=>[]) (fun a6=>[.blk g4 [.int .u8 0,.string ((⟨#[]⟩ : ByteArray)),.int .i64 0] 197]) ?_ ?_
 refine Q1 (wP Z (wP Z (wP Z ?_)))
 refine Qt (d:=98) (S':=V7 ..) Z Z (fun aY=>?_) (fun aY=>?_)
 replace hm:=QA hm aY
 refine wO Z (wO Z (wO Z (wO Z (wO Z (wO Z (wO Z (wO Z (wO Z (wO Z (wP Z (Q3 ?_)))))))))))
 have hE:=(Zi hm).symm
 refine Q9 true hE [12,4,0,1,109] Z (asK [] Z) Z
 replace hm:=Qz hm aY
 refine wP Z (wP Z (Q1B Z Z Z Zq (Q3y Z Z Q64) (wP Z (wP Z ?_))))
 refine Qt (d:=103) (S':=V12 ..) Z Z (fun aH=>?_) (fun aH=>?_)
 replace hm:=QA hm aH
 refine wP Z (wP Z ?_)
 obtain ⟨bL,hm⟩:=Qu hm
 obtain ⟨cE,bM,hm⟩:=Q6 hm
 refine Q1B Z Z Z Zq (Q3P q.toNat Z Z Z (Q1G bL) bM Q64) ?_
 obtain ⟨cF,bN,hm⟩:=Q6 hm
 refine wC [] [0] Z fn_203 Z (Q8D N ((cE.toNat:Nat):Int) _ bN) (asK [] Z) Z (H':=[_]) Z ?_
 rintro _ _ _ ⟨rfl,rfl,rfl⟩
 refine wP Z (wP Z (Q3 ?_))
 have hE:=(Zi hm).symm
 refine Q9 cF hE [12,4,0,1,109] Z (asK [] Z) Z
 replace hm:=Qz hm aH
 refine wO Z (wO Z (wO Z (wO Z (wP Z (wP Z (Q3 ?_))))))
 have hE:=(Zi hm).symm
 refine Q9 false hE [12,4,0,1,109] Z (asK [] Z) Z
 rintro a6 hE
 try dsimp only
 have hm:=hLj_6
 rw [hE] at hm
 refine Qj Z (fun aI=>?_) (fun aI=>?_)
 replace hm:=QA hm aI
 refine Q2 [4] (S':=[_]) Z (Q5 (Q1 (Q13 Z Z Z Zq Z Q5A QaQ Z (out:=V3 ..) Z (wS 0 0 Z Q2N (all':=V3 ..) Z (H':=[_]) Z (wP Z (wP Z (Q3 (Q4 (Q2 [6,5,4] (S':=V3 ..) Z (Qb (Q7 (Qg (Q7 ?_)))))))))))))
 have hE:=(Zi hm).symm
 obtain ⟨hE0,hF1⟩:=Prod.mk.inj hE
 obtain ⟨hE1,hF2⟩:=Prod.mk.inj hF1
 obtain ⟨hE2,hF3⟩:=Prod.mk.inj hF2
 obtain ⟨hE3,hE4⟩:=Prod.mk.inj hF3
 clear hE hF1 hF2 hF3
 replace hE0:=hE0.symm
 subst hE0
 replace hE1:=hE1.symm
 subst hE1
 replace hE2:=hE2.symm
 subst hE2
 replace hE3:=hE3.symm
 subst hE3
 replace hE4:=hE4.symm
 subst hE4
 refine Q7y (Hr:=[]) [] Tryz.results160 (QW 0 Z Z Q2N Q8b Z Z) (Qc Z) (Qc Z) ⟨Z,Z,Z⟩ (asK [] Z) Z Z (.inl Z)
 replace hm:=Qz hm aI
 refine Q2 [12,4,0,1] (S':=V4 ..) Z (Qq (Q4 (Q5 (Q1 (wP Z (wP Z (wP Z ?_)))))))
 obtain ⟨aZ,hm⟩:=Qu hm
 obtain ⟨b0,hm⟩:=Qu hm
 obtain ⟨b1,hm⟩:=Qu hm
 refine Q1B Z Z Z Zq (Q8t a1.toNat q.toNat Z Z Z (Q1G aZ) Z (Q1G b0) b1.1 b1.2 Q64) (wP Z (Q13 Z Z Z Zq Z Q5A QaQ Z (out:=V3 ..) Z (wP Z (wS 0 0 Z Q2N (all':=V3 ..) Z (H':=[_]) Z (wP Z (wP Z (Q3 (Q4 (Q2 [6,5,4] (S':=V3 ..) Z (Qb (Qg (Q7 ?_))))))))))))
 have hE:=(Zi hm).symm
 obtain ⟨hE0,hF1⟩:=Prod.mk.inj hE
 obtain ⟨hE1,hF2⟩:=Prod.mk.inj hF1
 obtain ⟨hE2,hF3⟩:=Prod.mk.inj hF2
 obtain ⟨hE3,hE4⟩:=Prod.mk.inj hF3
 clear hE hF1 hF2 hF3
 replace hE0:=hE0.symm
 subst hE0
 replace hE1:=hE1.symm
 subst hE1
 replace hE2:=hE2.symm
 subst hE2
 replace hE3:=hE3.symm
 subst hE3
 replace hE4:=hE4.symm
 subst hE4
 refine Q7y (Hr:=[]) [] Tryz.results160 (QW 0 Z Z Q2N Q8b Z Z) (Qc Z) (Qc Z) ⟨Z,Z,Z⟩ (asK [] Z) Z Z (.inl Z)
 replace hm:=Qz hm aV
 refine Q2 [4,0,1] (S':=V3 ..) Z (Qq (Qh (Q4 (Q5 (Q1 ?_)))))
 obtain ⟨_,bO,hm⟩:=Q6 hm
 try dsimp only at hm
 refine wC [] [0] Z fn_204 Z (Qat N  bO) (asK [] Z) Z (H':=[_]) Z ?_
 rintro _ _ _ ⟨aB,rfl,rfl,rfl⟩
 refine wP Z (Q3 (Q4 (Q2 [15,4,0,1] (S':=V4 ..) Z (Q5 ?_))))
 obtain ⟨bJ,hm,hLj_7⟩:=Q1w hm
 refine QI (σ:=Unit) (fun _=>bJ = .inl ()) (fun _=>[(4,.pointer (some ⟨g4,0,none⟩))]) (fun _=>[]) (fun _=>[.blk g4 [.int .u8 0,.string ((⟨#[]⟩ : ByteArray)),.int .i64 0] 197]) ?_ ?_
 refine Q5 (Q1 (wP Z (Q3 (Q4 (Qw (wc_row (sz:=1) (m:=17) Q1y lit1 0 Z (fun F w hφ=>⟨[.string ((⟨#[61,62]⟩ : ByteArray))],[.string ((⟨#[33,61]⟩ : ByteArray)),.string ((⟨#[60,61]⟩ : ByteArray)),.string ((⟨#[62,61]⟩ : ByteArray)),.string ((⟨#[40]⟩ : ByteArray)),.string ((⟨#[41]⟩ : ByteArray)),.string ((⟨#[123]⟩ : ByteArray)),.string ((⟨#[125]⟩ : ByteArray)),.string ((⟨#[44]⟩ : ByteArray)),.string ((⟨#[59]⟩ : ByteArray)),.string ((⟨#[61]⟩ : ByteArray)),.string ((⟨#[60]⟩ : ByteArray)),.string ((⟨#[62]⟩ : ByteArray)),.string ((⟨#[43]⟩ : ByteArray)),.string ((⟨#[45]⟩ : ByteArray)),.string ((⟨#[42]⟩ : ByteArray)),.string ((⟨#[95]⟩ : ByteArray))],Z,Z,⟨(),Z,Qr⟩,⟨[.string ((⟨#[33,61]⟩ : ByteArray))],[.string ((⟨#[60,61]⟩ : ByteArray)),.string ((⟨#[62,61]⟩ : ByteArray)),.string ((⟨#[40]⟩ : ByteArray)),.string ((⟨#[41]⟩ : ByteArray)),.string ((⟨#[123]⟩ : ByteArray)),.string ((⟨#[125]⟩ : ByteArray)),.string ((⟨#[44]⟩ : ByteArray)),.string ((⟨#[59]⟩ : ByteArray)),.string ((⟨#[61]⟩ : ByteArray)),.string ((⟨#[60]⟩ : ByteArray)),.string ((⟨#[62]⟩ : ByteArray)),.string ((⟨#[43]⟩ : ByteArray)),.string ((⟨#[45]⟩ : ByteArray)),.string ((⟨#[42]⟩ : ByteArray)),.string ((⟨#[95]⟩ : ByteArray))],Z,Z,⟨(),Z,Qr⟩,⟨[.string ((⟨#[60,61]⟩ : ByteArray))],[.string ((⟨#[62,61]⟩ : ByteArray)),.string ((⟨#[40]⟩ : ByteArray)),.string ((⟨#[41]⟩ : ByteArray)),.string ((⟨#[123]⟩ : ByteArray)),.string ((⟨#[125]⟩ : ByteArray)),.string ((⟨#[44]⟩ : ByteArray)),.string ((⟨#[59]⟩ : ByteArray)),.string ((⟨#[61]⟩ : ByteArray)),.string ((⟨#[60]⟩ : ByteArray)),.string ((⟨#[62]⟩ : ByteArray)),.string ((⟨#[43]⟩ : ByteArray)),.string ((⟨#[45]⟩ : ByteArray)),.string ((⟨#[42]⟩ : ByteArray)),.string ((⟨#[95]⟩ : ByteArray))],Z,Z,⟨(),Z,Qr⟩,⟨[.string ((⟨#[62,61]⟩ : ByteArray))],[.string ((⟨#[40]⟩ : ByteArray)),.string ((⟨#[41]⟩ : ByteArray)),.string ((⟨#[123]⟩ : ByteArray)),.string ((⟨#[125]⟩ : ByteArray)),.string ((⟨#[44]⟩ : ByteArray)),.string ((⟨#[59]⟩ : ByteArray)),.string ((⟨#[61]⟩ : ByteArray)),.string ((⟨#[60]⟩ : ByteArray)),.string ((⟨#[62]⟩ : ByteArray)),.string ((⟨#[43]⟩ : ByteArray)),.string ((⟨#[45]⟩ : ByteArray)),.string ((⟨#[42]⟩ : ByteArray)),.string ((⟨#[95]⟩ : ByteArray))],Z,Z,⟨(),Z,Qr⟩,⟨[.string ((⟨#[40]⟩ : ByteArray))],[.string ((⟨#[41]⟩ : ByteArray)),.string ((⟨#[123]⟩ : ByteArray)),.string ((⟨#[125]⟩ : ByteArray)),.string ((⟨#[44]⟩ : ByteArray)),.string ((⟨#[59]⟩ : ByteArray)),.string ((⟨#[61]⟩ : ByteArray)),.string ((⟨#[60]⟩ : ByteArray)),.string ((⟨#[62]⟩ : ByteArray)),.string ((⟨#[43]⟩ : ByteArray)),.string ((⟨#[45]⟩ : ByteArray)),.string ((⟨#[42]⟩ : ByteArray)),.string ((⟨#[95]⟩ : ByteArray))],Z,Z,⟨(),Z,Qr⟩,⟨[.string ((⟨#[41]⟩ : ByteArray))],[.string ((⟨#[123]⟩ : ByteArray)),.string ((⟨#[125]⟩ : ByteArray)),.string ((⟨#[44]⟩ : ByteArray)),.string ((⟨#[59]⟩ : ByteArray)),.string ((⟨#[61]⟩ : ByteArray)),.string ((⟨#[60]⟩ : ByteArray)),.string ((⟨#[62]⟩ : ByteArray)),.string ((⟨#[43]⟩ : ByteArray)),.string ((⟨#[45]⟩ : ByteArray)),.string ((⟨#[42]⟩ : ByteArray)),.string ((⟨#[95]⟩ : ByteArray))],Z,Z,⟨(),Z,Qr⟩,⟨[.string ((⟨#[123]⟩ : ByteArray))],[.string ((⟨#[125]⟩ : ByteArray)),.string ((⟨#[44]⟩ : ByteArray)),.string ((⟨#[59]⟩ : ByteArray)),.string ((⟨#[61]⟩ : ByteArray)),.string ((⟨#[60]⟩ : ByteArray)),.string ((⟨#[62]⟩ : ByteArray)),.string ((⟨#[43]⟩ : ByteArray)),.string ((⟨#[45]⟩ : ByteArray)),.string ((⟨#[42]⟩ : ByteArray)),.string ((⟨#[95]⟩ : ByteArray))],Z,Z,⟨(),Z,Qr⟩,⟨[.string ((⟨#[125]⟩ : ByteArray))],[.string ((⟨#[44]⟩ : ByteArray)),.string ((⟨#[59]⟩ : ByteArray)),.string ((⟨#[61]⟩ : ByteArray)),.string ((⟨#[60]⟩ : ByteArray)),.string ((⟨#[62]⟩ : ByteArray)),.string ((⟨#[43]⟩ : ByteArray)),.string ((⟨#[45]⟩ : ByteArray)),.string ((⟨#[42]⟩ : ByteArray)),.string ((⟨#[95]⟩ : ByteArray))],Z,Z,⟨(),Z,Qr⟩,⟨[.string ((⟨#[44]⟩ : ByteArray))],[.string ((⟨#[59]⟩ : ByteArray)),.string ((⟨#[61]⟩ : ByteArray)),.string ((⟨#[60]⟩ : ByteArray)),.string ((⟨#[62]⟩ : ByteArray)),.string ((⟨#[43]⟩ : ByteArray)),.string ((⟨#[45]⟩ : ByteArray)),.string ((⟨#[42]⟩ : ByteArray)),.string ((⟨#[95]⟩ : ByteArray))],Z,Z,⟨(),Z,Qr⟩,⟨[.string ((⟨#[59]⟩ : ByteArray))],[.string ((⟨#[61]⟩ : ByteArray)),.string ((⟨#[60]⟩ : ByteArray)),.string ((⟨#[62]⟩ : ByteArray)),.string ((⟨#[43]⟩ : ByteArray)),.string ((⟨#[45]⟩ : ByteArray)),.string ((⟨#[42]⟩ : ByteArray)),.string ((⟨#[95]⟩ : ByteArray))],Z,Z,⟨(),Z,Qr⟩,⟨[.string ((⟨#[61]⟩ : ByteArray))],[.string ((⟨#[60]⟩ : ByteArray)),.string ((⟨#[62]⟩ : ByteArray)),.string ((⟨#[43]⟩ : ByteArray)),.string ((⟨#[45]⟩ : ByteArray)),.string ((⟨#[42]⟩ : ByteArray)),.string ((⟨#[95]⟩ : ByteArray))],Z,Z,⟨(),Z,Qr⟩,⟨[.string ((⟨#[60]⟩ : ByteArray))],[.string ((⟨#[62]⟩ : ByteArray)),.string ((⟨#[43]⟩ : ByteArray)),.string ((⟨#[45]⟩ : ByteArray)),.string ((⟨#[42]⟩ : ByteArray)),.string ((⟨#[95]⟩ : ByteArray))],Z,Z,⟨(),Z,Qr⟩,⟨[.string ((⟨#[62]⟩ : ByteArray))],[.string ((⟨#[43]⟩ : ByteArray)),.string ((⟨#[45]⟩ : ByteArray)),.string ((⟨#[42]⟩ : ByteArray)),.string ((⟨#[95]⟩ : ByteArray))],Z,Z,⟨(),Z,Qr⟩,⟨[.string ((⟨#[43]⟩ : ByteArray))],[.string ((⟨#[45]⟩ : ByteArray)),.string ((⟨#[42]⟩ : ByteArray)),.string ((⟨#[95]⟩ : ByteArray))],Z,Z,⟨(),Z,Qr⟩,⟨[.string ((⟨#[45]⟩ : ByteArray))],[.string ((⟨#[42]⟩ : ByteArray)),.string ((⟨#[95]⟩ : ByteArray))],Z,Z,⟨(),Z,Qr⟩,⟨[.string ((⟨#[42]⟩ : ByteArray))],[.string ((⟨#[95]⟩ : ByteArray))],Z,Z,⟨(),Z,Qr⟩,⟨[.string ((⟨#[95]⟩ : ByteArray))],[],Z,Z,⟨(),Z,Qr⟩,Z⟩⟩⟩⟩⟩⟩⟩⟩⟩⟩⟩⟩⟩⟩⟩⟩⟩) Z (by decide) (H':=[_,_]) Z (Q1E (σ:=Nat × Nat) (fun (aJ,j)=>Q1M (Q51 N a1 a0) aJ j = some bJ) (fun (aJ,j)=>aJ) (fun (aJ,j)=>[(16,.int .i64 ((j:Nat):Int)),(15,.slice (some ⟨aB,0,none⟩) lit1.length 17),(4,.pointer (some ⟨g4,0,none⟩)),(0,.string a0),(1,.int .i64 a1)]) (fun (aJ,j)=>[]) (fun (aJ,j)=>[.own 9 1 Q1y (.slice (some ⟨aB,0,none⟩) lit1.length 17) lit1,.blk g4 [.int .u8 0,.string ((⟨#[]⟩ : ByteArray)),.int .i64 0] 197]) (N,0) hm [16,15,4,0,1] Z (asK [] Z) Z (fun s_ hm=>?_))))))))
 obtain ⟨aJ,j⟩:=s_
 try dsimp only at hm ⊢
 obtain ⟨cZ,d0,cG,hq,hLu2⟩:=Q1e hm
 clear hm
 subst cG
 replace hm:=hq
 clear hq
 unfold Q51 at hm
 try dsimp only at hm
 refine Q5 (Q5 (Q1 (wP Z (wP Z (wN Z Q2c (wP Z (QH (d:=122) (v':=.bool (decide (j < lit1.length))) (S':=V8 ..) Z Z (Q2z (a:=j) (b:=lit1.length)) (Q3 (Q4 (Q2 [122,16,15,4,0,1] (S':=V6 ..) Z ?_))))))))))
 refine Qj Z (fun aK=>?_) (fun aK=>?_)
 replace hm:=QA hm aK
 refine Q2 [16,15,4,0,1] (S':=V5 ..) Z (Qq (Q4 (Q5 (Qw (Q5 (Q1 (wP Z (wP Z (wP Z ?_)))))))))
 obtain ⟨aF,b2,hm⟩:=Q6 hm
 refine Q6X 0 j Z Z Z Zq Z Z Z Z Z (Q2t b2) Q2c Q27 (Q1T Q5E 0 j 0 Z Z Z Zq Z Z Z b2 Q27 Q2E (v:=fun _=>.string aF) (fun _=>Z) (fun _=>Z) (fun _ _=>(Q1B Z Z Z Zq (Q3y Z Z Q64) (wP Z ?_))))
 obtain ⟨bP,hm⟩:=Qu hm
 refine QH (d:=131) (v':=.int .i64 (a1 + ((aF.size:Nat):Int))) (S':=V11 ..) Z Z (i64_in bP) (wP Z (Q3 (Q4 (Q2 [17,16,15,4,0,1] (S':=V6 ..) Z (Q5 ?_)))))
 obtain ⟨cH,hm,hLj_8⟩:=Q6 hm
 unfold Q7d at hm
 refine QI (σ:=Bool) (fun a7=>cH = a7) (fun a7=>[(17,.int .i64 (a1 + ((aF.size:Nat):Int))),(16,.int .i64 ((j:Nat):Int)),(15,.slice (some ⟨aB,0,none⟩) lit1.length 17),(4,.pointer (some ⟨g4,0,none⟩)),(0,.string a0),(1,.int .i64 a1),(146,.bool a7)]) (fun a7=>[]) (fun a7=>[.own 9 1 Q1y (.slice (some ⟨aB,0,none⟩) lit1.length 17) lit1,.blk g4 [.int .u8 0,.string ((⟨#[]⟩ : ByteArray)),.int .i64 0] 197]) ?_ ?_
 rcases QG hm with ⟨aL,hm⟩ | ⟨aL,hm⟩
 obtain ⟨b3,hm⟩:=Qu hm
 obtain ⟨b4,hm⟩:=Qu hm
 obtain ⟨b5,hm⟩:=Qu hm
 obtain ⟨bK,b6,hm⟩:=Q6 hm
 refine Q18 [0,1,2,3,4,5,6,7,9,10,11,12,13,14] Z Z (fun hok=>(xP hok 0 Z (xP hok 1 Z (wx_reck hok 2 Z Z Z Zq Z (Q3y Z Z Q64) (xP hok 3 Z (xP hok 4 Z (Q1D (d:=136) (v':=.bool true) (S':=V10 ..) Z Z (Q1l aL) (xP hok 5 Z (xP hok 6 Z (xP hok 7 Z (xP hok 9 Z (xP hok 10 Z (wx_indexK hok 11 0 j Z Z Z Zq Z Z Z Z Z Z (Q2t b6) Q2c Q27 (Q8i hok 12 Q5E 0 j 0 Z Z Z Zq Z Z Z Z b6 Q27 Q2E (v:=.string bK) Z Z (fun _=>?_)))))))))))))))
 refine xS hok 8 Z (Q1B Z Z Z Zq (Q8t a1.toNat ((a1 + ((aF.size:Nat):Int)).toNat) Z Z Z (Q1G b3) Z (Q1G b4) b5.1 b5.2 Q64) (Q3 (QV [] [0] Z Z (xP hok 13 Z (xP hok 14 Z (Q11 hok Z ?_))))))
 have hE:=(Zi hm).symm
 refine Q9 ((a0.extract a1.toNat ((a1 + ((aF.size:Nat):Int)).toNat)).toList == bK.toList) hE [17,16,15,4,0,1,146] Z (asK [] Z) Z
 refine Q18 [0,1,2,3,4,5,6,7,9,10,11,12,13,14] Z Z (fun hok=>(xP hok 0 Z (xP hok 1 Z (wx_reck hok 2 Z Z Z Zq Z (Q3y Z Z Q64) (xP hok 3 Z (xP hok 4 Z (Q1D (d:=136) (v':=.bool false) (S':=V10 ..) Z Z (Q1l aL) (xO hok 5 Z (xO hok 6 Z (xO hok 7 Z (xO hok 9 Z (xO hok 10 Z (xO hok 11 Z (xO hok 12 Z ?_))))))))))))))
 refine xS hok 8 Z (wO Z (Q3 (QV [] [] Z Z (xO hok 13 Z (xP hok 14 Z (Q11 hok Z ?_))))))
 have hE:=(Zi hm).symm
 refine Q9 false hE [17,16,15,4,0,1,146] Z (asK [] Z) Z
 rintro a7 hE
 try dsimp only
 have hm:=hLj_8
 rw [hE] at hm
 refine Qj Z (fun aM=>?_) (fun aM=>?_)
 replace hm:=QA hm aM
 refine Q2 [17,16,15,4,1] (S':=V5 ..) Z (Q5 (Q1 (wP Z (wP Z ?_))))
 obtain ⟨cI,b7,hm⟩:=Q6 hm
 refine Q6X 0 j Z Z Z Zq Z Z Z Z Z (Q2t b7) Q2c Q27 (Q1T Q5E 0 j 0 Z Z Z Zq Z Z Z b7 Q27 Q2E (v:=fun _=>.string cI) (fun _=>Z) (fun _=>Z) (fun _ _=>(wP Z (Q13 Z Z Z Zq Z Q5A QaQ Z (out:=V3 ..) Z (wP Z (wS 1 0 Z Q2N (all':=V3 ..) Z (H':=[_,_]) Z (wP Z (wP Z (Q3 (Q4 (Q2 [6,5,4] (S':=V3 ..) Z (Qb (Qg (Q7 ?_))))))))))))))
 refine Q7 (Qg (Q7 ?_))
 have hE:=(Zi hm).symm
 replace hE:=Qv hLu2 hE
 replace hE:=Qv hLj_7 hE
 obtain ⟨hE0,hF1⟩:=Prod.mk.inj hE
 obtain ⟨hE1,hF2⟩:=Prod.mk.inj hF1
 obtain ⟨hE2,hF3⟩:=Prod.mk.inj hF2
 obtain ⟨hE3,hE4⟩:=Prod.mk.inj hF3
 clear hE hF1 hF2 hF3
 replace hE0:=hE0.symm
 subst hE0
 replace hE1:=hE1.symm
 subst hE1
 replace hE2:=hE2.symm
 subst hE2
 replace hE3:=hE3.symm
 subst hE3
 replace hE4:=hE4.symm
 subst hE4
 refine Q7y (Hr:=[]) [] Tryz.results160 (QW 1 Z Z Q2N Q8b Z Z) (Qc Z) (Qc Z) ⟨Z,Z,Z⟩ (asK [] Z) Z Z (.inl Z)
 replace hm:=Qz hm aM
 refine Q2 [16,15,4,0,1] (S':=V5 ..) Z (Qq (Qh (Q4 (Q1 (wP Z (wP Z ?_))))))
 obtain ⟨bQ,hm⟩:=Qu hm
 refine QH (d:=124) (v':=.int .i64 ((j + 1:Nat):Int)) (S':=V6 ..) Z Z (Q1J (a:=j) (b:=1) bQ) (Q1b (S':=V6 ..) Z Z Z Z Z (Q3 ?_))
 have hE:=(Zi hm).symm
 replace hE:=QO hLu2 hE
 refine Q1a (_,j + 1) (Nat.lt_succ_self _) hE [16,15,4,0,1] Z (asK [] Z) Z
 replace hm:=Qz hm aK
 refine Q2 [4] (S':=[_]) Z (Q1x (Qk (Qk (QJ ?_))))
 have hE:=(Zi hm).symm
 replace hE:=Qv hLu2 hE
 refine Qs [1] Z (H':=[_]) Z ?_
 refine Q9 () hE [4] Z (asK [] Z) Z
 rintro _ hE
 try dsimp only
 have hm:=QO hLj_7 hE
 try dsimp only at hm
 refine Q5 (Q1 (Q13 Z Z Z Zq Z Q5A QaQ Z (out:=V3 ..) Z (wS 0 0 Z Q2N (all':=V3 ..) Z (H':=[_]) Z (wP Z (wP Z (Q3 (Q4 (Q2 [6,5,4] (S':=V3 ..) Z (Qb ?_)))))))))
 have hE:=(Zi hm).symm
 obtain ⟨hE0,hF1⟩:=Prod.mk.inj hE
 obtain ⟨hE1,hF2⟩:=Prod.mk.inj hF1
 obtain ⟨hE2,hF3⟩:=Prod.mk.inj hF2
 obtain ⟨hE3,hE4⟩:=Prod.mk.inj hF3
 clear hE hF1 hF2 hF3
 replace hE0:=hE0.symm
 subst hE0
 replace hE1:=hE1.symm
 subst hE1
 replace hE2:=hE2.symm
 subst hE2
 replace hE3:=hE3.symm
 subst hE3
 replace hE4:=hE4.symm
 subst hE4
 refine Q7y (Hr:=[]) [] Tryz.results160 (QW 0 Z Z Q2N Q8b Z Z) (Qc Z) (Qc Z) ⟨Z,Z,Z⟩ (asK [] Z) Z Z (.inl Z)
theorem Qa5 (N:Nat) (a0:ByteArray) (o2:List Q1f) (o4:Nat) (o5:Int) (hm:Q5P N a0 = some (o2,o4,o5)):Q1o Tryz.prog 123 [.string a0] [] [] (fun v Φr Hr=>∃ (o0:OA) (o1:Nat) (o3:Nat),v = .tuple #[.slice o0 o3 o1,.agg #[.int .i64 ((o4:Nat):Int),.int .i64 o5]] ∧ Φr = [] ∧ Hr = [.own 197 3 QP (.slice o0 o3 o1) o2]):=by
 unfold Q5P at hm
 refine QD Tryz.func123 Z Tryz.ntmps123 Z (S:=[_]) Z (fun C=>(Q5 (Q1 (wP Z (QE Z Z Z Zq Z Q6S Z (fun g3=>(Q3 (Q4 (Q2 [3,0] (S':=[_,_]) Z (Q5 (Q5 (Q1 (wP Z (Q1B Z Z Z Zq (Q3y Z Z Q64) (wP Z ?_)))))))))))))))
 refine QH (d:=11) (v':=.bool (decide (16384 < a0.size))) (S':=V4 ..) Z Z (natgt (a:=a0.size) (b:=16384)) (Q3 (Q4 (Q2 [11,3,0] (S':=V3 ..) Z ?_)))
 refine Qj Z (fun aK=>?_) (fun aK=>?_)
 replace hm:=QA hm aK
 refine Q2 [3] (S':=[_]) Z (Q5 (Q1 (Q13 Z Z Z Zq Z Q6S Qa3 Z (out:=[_,_]) Z (wP Z (wS 0 0 Z Q2H (all':=[_,_]) Z (H':=[_]) Z (Q3 (Q4 (Q2 [2,3] (S':=[_,_]) Z (Qb (Q7 ?_))))))))))
 have hE:=(Zi hm).symm
 obtain ⟨hE0,hF1⟩:=Prod.mk.inj hE
 obtain ⟨hE1,hE2⟩:=Prod.mk.inj hF1
 clear hE hF1
 replace hE0:=hE0.symm
 subst hE0
 replace hE1:=hE1.symm
 subst hE1
 replace hE2:=hE2.symm
 subst hE2
 refine Q23 197 3 QP ?_
 refine Q1r (Hr:=[_]) [0] Tryz.results123 (Qc Z) (QW 1 Z Z Q2H Q73 Z Z) ⟨none,0,0,Z,Z,Z⟩ (asK [] Z) Z Z (.inl Z)
 replace hm:=Qz hm aK
 refine Q2 [3,0] (S':=[_,_]) Z (Qq (Q4 (Q5 (Q1 (wP Z (Q3 (Q4 (Q5 (Q1 (wP Z (Q3 (Q4 (Q5 ?_)))))))))))))
 obtain ⟨aV,hm,hLj_1⟩:=Q1w hm
 refine QI (σ:=(List Q1f) × OA × Nat × Nat) (fun (a1,a6,a7,a8)=>aV = .inl a1) (fun (a1,a6,a7,a8)=>[(3,.pointer (some ⟨g3,0,none⟩)),(0,.string a0),(4,.slice a6 a8 a7)]) (fun (a1,a6,a7,a8)=>[]) (fun (a1,a6,a7,a8)=>[.blk g3 [.int .i64 0,.int .i64 0] 113,.own 197 3 QP (.slice a6 a8 a7) a1]) ?_ ?_
 refine Qw (Q3i 197 3 QP (Q1E (σ:=Nat × Int × (List Q1f) × OA × Nat × Nat) (fun (aH,a5,j,q,s,z)=>Q1M (Q4C N a0) aH (a5,j) = some aV) (fun (aH,a5,j,q,s,z)=>aH) (fun (aH,a5,j,q,s,z)=>[(5,.int .i64 a5),(4,.slice q z s),(3,.pointer (some ⟨g3,0,none⟩)),(0,.string a0)]) (fun (aH,a5,j,q,s,z)=>[]) (fun (aH,a5,j,q,s,z)=>[.own 197 3 QP (.slice q z s) j,.blk g3 [.int .i64 0,.int .i64 0] 113]) (N,0,[],none,0,0) hm [5,4,3,0] Z (asK [] Z) Z (fun s_ hm=>?_)))
 obtain ⟨aH,a5,j,q,s,z⟩:=s_
 try dsimp only at hm ⊢
 obtain ⟨bZ,c0,b6,hq,hLu1⟩:=Q1e hm
 clear hm
 subst b6
 replace hm:=hq
 clear hq
 unfold Q4C at hm
 try dsimp only at hm
 refine Q5 (Q5 (Q1 (wP Z (wP Z (Q1B Z Z Z Zq (Q3y Z Z Q64) (wP Z (Q3 (Q4 (Q2 [16,5,4,3,0] (S':=V5 ..) Z ?_)))))))))
 refine Qj Z (fun aL=>?_) (fun aL=>?_)
 replace hm:=QA hm aL
 refine Q2 [5,4,3,0] (S':=V4 ..) Z (Qq (Q4 (Qw (Q5 (Q5 ?_)))))
 obtain ⟨b7,hm,hLj_2⟩:=Q6 hm
 unfold Q6Y at hm
 refine QI (σ:=Bool) (fun aA=>b7 = aA) (fun aA=>[(5,.int .i64 a5),(4,.slice q z s),(3,.pointer (some ⟨g3,0,none⟩)),(0,.string a0),(38,.bool aA)]) (fun aA=>[]) (fun aA=>[.own 197 3 QP (.slice q z s) j,.blk g3 [.int .i64 0,.int .i64 0] 113]) ?_ ?_
 refine Q1 (wP Z (wP Z ?_))
 obtain ⟨b8,hm⟩:=Qu hm
 obtain ⟨b9,bA,hm⟩:=Q6 hm
 refine Q1B Z Z Z Zq (Q3P a5.toNat Z Z Z (Q1G b8) bA Q64) (wP Z (QH (d:=20) (v':=.bool (b9.toNat == 9)) (S':=V7 ..) Z Z (Q3c (a:=b9.toNat) (b:=9)) (wP Z ?_)))
 refine Qt (d:=21) (S':=V8 ..) Z Z (fun aM=>?_) (fun aM=>?_)
 replace hm:=QA hm aM
 refine wO Z (wO Z (wO Z (wO Z (wP Z (wP Z (wO Z (wO Z (wO Z (wO Z (wP Z (wP Z (wO Z (wO Z ?_)))))))))))))
 refine wO Z (wO Z (wP Z (Q3 ?_)))
 have hE:=(Zi hm).symm
 refine Q9 true hE [5,4,3,0,38] Z (asK [] Z) Z
 replace hm:=Qz hm aM
 refine wP Z (wP Z ?_)
 obtain ⟨bB,hm⟩:=Qu hm
 obtain ⟨bC,bD,hm⟩:=Q6 hm
 refine Q1B Z Z Z Zq (Q3P a5.toNat Z Z Z (Q1G bB) bD Q64) (wP Z (QH (d:=25) (v':=.bool (bC.toNat == 10)) (S':=V12 ..) Z Z (Q3c (a:=bC.toNat) (b:=10)) (wP Z (wP Z ?_))))
 refine Qt (d:=27) (S':=V14 ..) Z Z (fun aN=>?_) (fun aN=>?_)
 replace hm:=QA hm aN
 refine wO Z (wO Z (wO Z (wO Z (wP Z (wP Z (wO Z (wO Z (wO Z (wO Z (wP Z (Q3 ?_)))))))))))
 have hE:=(Zi hm).symm
 refine Q9 true hE [5,4,3,0,38] Z (asK [] Z) Z
 replace hm:=Qz hm aN
 refine wP Z (wP Z ?_)
 obtain ⟨bE,hm⟩:=Qu hm
 obtain ⟨bF,bG,hm⟩:=Q6 hm
 refine Q1B Z Z Z Zq (Q3P a5.toNat Z Z Z (Q1G bE) bG Q64) (wP Z (QH (d:=31) (v':=.bool (bF.toNat == 13)) (S':=V18 ..) Z Z (Q3c (a:=bF.toNat) (b:=13)) (wP Z (wP Z ?_))))
 refine Qt (d:=33) (S':=V20 ..) Z Z (fun aO=>?_) (fun aO=>?_)
 replace hm:=QA hm aO
 refine wO Z (wO Z (wO Z (wO Z (wP Z (Q3 ?_)))))
 have hE:=(Zi hm).symm
 refine Q9 true hE [5,4,3,0,38] Z (asK [] Z) Z
 replace hm:=Qz hm aO
 refine wP Z (wP Z ?_)
 obtain ⟨bH,hm⟩:=Qu hm
 obtain ⟨aZ,bI,hm⟩:=Q6 hm
 refine Q1B Z Z Z Zq (Q3P a5.toNat Z Z Z (Q1G bH) bI Q64) (wP Z (QH (d:=37) (v':=.bool (aZ.toNat == 32)) (S':=V24 ..) Z Z (Q3c (a:=aZ.toNat) (b:=32)) (wP Z (Q3 ?_))))
 have hE:=(Zi hm).symm
 refine Q9 (aZ.toNat == 32) hE [5,4,3,0,38] Z (asK [] Z) Z
 rintro aA hE
 try dsimp only
 have hm:=hLj_2
 rw [hE] at hm
 refine Qj Z (fun aP=>?_) (fun aP=>?_)
 replace hm:=QA hm aP
 refine Q2 [5,4,3,0] (S':=V4 ..) Z (Q5 (Q1 (wP Z (wP Z ?_))))
 obtain ⟨bJ,hm⟩:=Qu hm
 refine QH (d:=40) (v':=.int .i64 (a5 + 1)) (S':=V5 ..) Z Z (i64_in bJ) (Q1b (S':=V5 ..) Z Z Z Z Z (Q3 (Q4 (Q2 [5,4,3,0] (S':=V4 ..) Z (Q1x (Qk (QJ ?_)))))))
 have hE:=(Zi hm).symm
 replace hE:=QO hLu1 hE
 refine Q1a (_,a5 + 1,j,q,s,z) (Nat.lt_succ_self _) hE [5,4,3,0] Z (asK [] Z) Z
 replace hm:=Qz hm aP
 refine Q2 [5,4,3,0] (S':=V4 ..) Z (Qq (Q4 (Q5 (Q5 (Q1 (wP Z (wP Z ?_)))))))
 obtain ⟨bK,hm⟩:=Qu hm
 obtain ⟨bL,bM,hm⟩:=Q6 hm
 refine Q1B Z Z Z Zq (Q3P a5.toNat Z Z Z (Q1G bK) bM Q64) (wP Z (QH (d:=44) (v':=.bool (bL.toNat == 35)) (S':=V7 ..) Z Z (Q3c (a:=bL.toNat) (b:=35)) (Q3 (Q4 (Q2 [44,5,4,3,0] (S':=V5 ..) Z ?_)))))
 refine Qj Z (fun aQ=>?_) (fun aQ=>?_)
 replace hm:=QA hm aQ
 refine Q2 [5,4,3,0] (S':=V4 ..) Z (Q5 ?_)
 obtain ⟨aW,hm,hLj_3⟩:=Q6 hm
 refine QI (σ:=Int) (fun aC=>aW = aC) (fun aC=>[(5,.int .i64 aC),(4,.slice q z s),(3,.pointer (some ⟨g3,0,none⟩)),(0,.string a0)]) (fun aC=>[]) (fun aC=>[.own 197 3 QP (.slice q z s) j,.blk g3 [.int .i64 0,.int .i64 0] 113]) ?_ ?_
 refine Qw (Q1E (σ:=Nat × Int) (fun (aI,a9)=>Q1M (Q4D N a0) aI a9 = some aW) (fun (aI,a9)=>aI) (fun (aI,a9)=>[(5,.int .i64 a9),(4,.slice q z s),(3,.pointer (some ⟨g3,0,none⟩)),(0,.string a0)]) (fun (aI,a9)=>[]) (fun (aI,a9)=>[.own 197 3 QP (.slice q z s) j,.blk g3 [.int .i64 0,.int .i64 0] 113]) (N,a5) hm [5,4,3,0] Z (asK [] Z) Z (fun s_ hm=>?_))
 obtain ⟨aI,a9⟩:=s_
 try dsimp only at hm ⊢
 obtain ⟨c1,c2,bN,hq,hLu2⟩:=Q1e hm
 clear hm
 subst bN
 replace hm:=hq
 clear hq
 unfold Q4D at hm
 try dsimp only at hm
 refine Q5 (Q5 ?_)
 obtain ⟨bO,hm,hLj_4⟩:=Q6 hm
 refine QI (σ:=Bool) (fun aB=>bO = aB) (fun aB=>[(5,.int .i64 a9),(4,.slice q z s),(3,.pointer (some ⟨g3,0,none⟩)),(0,.string a0),(54,.bool aB)]) (fun aB=>[]) (fun aB=>[.own 197 3 QP (.slice q z s) j,.blk g3 [.int .i64 0,.int .i64 0] 113]) ?_ ?_
 refine Q1 (wP Z (wP Z (Q1B Z Z Z Zq (Q3y Z Z Q64) (wP Z (wP Z ?_)))))
 refine Qt (d:=49) (S':=V8 ..) Z Z (fun aR=>?_) (fun aR=>?_)
 replace hm:=QA hm aR
 refine wP Z (wP Z ?_)
 obtain ⟨bP,hm⟩:=Qu hm
 obtain ⟨b0,bQ,hm⟩:=Q6 hm
 refine Q1B Z Z Z Zq (Q3P a9.toNat Z Z Z (Q1G bP) bQ Q64) (wP Z (QH (d:=53) (v':=.bool (b0.toNat != 10)) (S':=V12 ..) Z Z (natne (a:=b0.toNat) (b:=10)) (wP Z (Q3 ?_))))
 have hE:=(Zi hm).symm
 refine Q9 (b0.toNat != 10) hE [5,4,3,0,54] Z (asK [] Z) Z
 replace hm:=Qz hm aR
 refine wO Z (wO Z (wO Z (wO Z (wP Z (Q3 ?_)))))
 have hE:=(Zi hm).symm
 refine Q9 false hE [5,4,3,0,54] Z (asK [] Z) Z
 rintro aB hE
 try dsimp only
 have hm:=hLj_4
 rw [hE] at hm
 refine Qj Z (fun aS=>?_) (fun aS=>?_)
 replace hm:=QA hm aS
 refine Q2 [5,4,3,0] (S':=V4 ..) Z (Qq (Q4 (Qw (Q1 (wP Z (wP Z ?_))))))
 obtain ⟨bR,hm⟩:=Qu hm
 refine QH (d:=56) (v':=.int .i64 (a9 + 1)) (S':=V5 ..) Z Z (i64_in bR) (Q1b (S':=V5 ..) Z Z Z Z Z (Q3 (Qh ?_)))
 have hE:=(Zi hm).symm
 replace hE:=QO hLu2 hE
 refine Q1a (_,a9 + 1) (Nat.lt_succ_self _) hE [5,4,3,0] Z (asK [] Z) Z
 replace hm:=Qz hm aS
 refine Q2 [5,4,3,0] (S':=V4 ..) Z (Q1x (Qk (Qk (QJ ?_))))
 have hE:=(Zi hm).symm
 replace hE:=Qv hLu2 hE
 refine Q9 a9 hE [5,4,3,0] Z (asK [] Z) Z
 rintro aC hE
 try dsimp only
 have hm:=hLj_3
 rw [hE] at hm
 refine Q1x (Qk (QJ ?_))
 have hE:=(Zi hm).symm
 replace hE:=QO hLu1 hE
 refine Q1a (_,aC,j,q,s,z) (Nat.lt_succ_self _) hE [5,4,3,0] Z (asK [] Z) Z
 replace hm:=Qz hm aQ
 refine Q2 [5,4,3,0] (S':=V4 ..) Z (Qq (Q4 (Q5 (Q1 (wP Z (wP Z ?_))))))
 obtain ⟨⟨aD,aE,aF,b1,aT⟩,bS,hm⟩:=Q6 hm
 try dsimp only at hm
 refine wC [] [0,1] Z fn_160 Z (Qau N a0 a5 _ _ _ _ _ bS) (asK [] Z) Z (H':=[_,_]) Z ?_
 rintro _ _ _ ⟨rfl,rfl,rfl⟩
 refine wP Z (wP Z (wP Z (wP Z (QE Z Z Z Zq Z Q5A Z (fun g6=>(wS 0 0 Z Q2N (all':=V3 ..) Z (H':=V3 ..) Z (wP Z (wP Z (Q3 (Q4 (Q2 [8,7,6,5,4,3,0] (S':=V7 ..) Z (Q5 (Q5 (Q1 ?_))))))))))))))
 refine wP Z (wP Z (QH (d:=65) (v':=.bool (aT != 0)) (S':=V8 ..) Z Z (natne (a:=aT) (b:=0)) (Q3 (Q4 (Q2 [65,8,7,6,5,4,3,0] (S':=V8 ..) Z ?_)))))
 refine Qj Z (fun aU=>?_) (fun aU=>?_)
 replace hm:=QA hm aU
 refine Q2 [8,5,3] (S':=V3 ..) Z (Q5 (Q1 (wP Z (wP Z (Q13 Z Z Z Zq Z Q6S Qa3 Z (out:=[_,_]) Z (wP Z (wS 2 0 Z Q2H (all':=[_,_]) Z (H':=V3 ..) Z (Q3 (Q4 (Q2 [2,3] (S':=[_,_]) Z (Qb (Q7 (Qg ?_)))))))))))))
 refine Q7 (Qg (Q7 ?_))
 have hE:=(Zi hm).symm
 replace hE:=Qv hLu1 hE
 replace hE:=Qv hLj_1 hE
 obtain ⟨hE0,hF1⟩:=Prod.mk.inj hE
 obtain ⟨hE1,hE2⟩:=Prod.mk.inj hF1
 clear hE hF1
 replace hE0:=hE0.symm
 subst hE0
 replace hE1:=hE1.symm
 subst hE1
 replace hE2:=hE2.symm
 subst hE2
 refine Q23 197 3 QP ?_
 refine Q1r (Hr:=[_]) [0] Tryz.results123 (Qc Z) (QW 3 Z Z Q2H Q73 Z Z) ⟨none,0,0,Z,Z,Z⟩ (asK [] Z) Z Z (.inl Z)
 replace hm:=Qz hm aU
 refine Q2 [7,6,4,3,0] (S':=V5 ..) Z (Qq (Q4 (Q5 (Q1 (wP Z (QR 0 0 Z Z Z Zq Z Z Z (cs:=V3 ..) Z Q2N Q8b Z Z (Qy Z Z Z Zq Z tE_189 Q2N Q5A Z (zs:=[.int .u8 0,.string ((⟨#[]⟩ : ByteArray)),.int .i64 0]) (by kernel_rfl) Z (out:=V3 ..) Z (fun c3=>?_))))))))
 obtain ⟨aX,hm⟩:=Qu hm
 refine Q1S ([(⟨(((aD:Nat):Int)),aE,aF⟩ : Q1f)]) 2 0 Z Z Z Zq Z Z Z Z Z (fun F w hφ=>⟨[.int .u8 ((aD:Nat):Int),.string aE,.int .i64 aF],[],Z,Z,⟨(),Z,Qr⟩,Z⟩) tE_189 tR_197 Z Z (Nat.le_trans aX (by decide)) (Nat.le_trans (Nat.mul_le_mul_right _ aX) (by decide)) (H2:=fun b2 b3=>[_,_,.own 197 3 QP (.slice b2 ((j ++ ([(⟨(((aD:Nat):Int)),aE,aF⟩ : Q1f)])).length) b3) (j ++ ([(⟨(((aD:Nat):Int)),aE,aF⟩ : Q1f)])),_]) (fun _ _=>Z) (fun b2 b3=>(Q2s 0 Z (H':=V3 ..) Z (Q1b (S':=V8 ..) Z Z Z Z Z (Q3 (Q4 (Q2 [4,7,3,0] (S':=V4 ..) Z (Q1 (wP Z (wP Z (Q3 (Qh ?_)))))))))))
 have hE:=(Zi hm).symm
 replace hE:=QO hLu1 hE
 refine Qs [1,2] Z (H':=[_,_]) Z ?_
 refine Q1a (_,b1,(j ++ ([(⟨(((aD:Nat):Int)),aE,aF⟩ : Q1f)])),b2,b3,((j ++ ([(⟨(((aD:Nat):Int)),aE,aF⟩ : Q1f)])).length)) (Nat.lt_succ_self _) hE [5,4,3,0] Z (asK [] Z) Z
 replace hm:=Qz hm aL
 refine Q2 [4,3,0] (S':=V3 ..) Z (Q1x (Qk (Qk (QJ ?_))))
 have hE:=(Zi hm).symm
 replace hE:=Qv hLu1 hE
 refine Qs [1,0] Z (H':=[_,_]) Z ?_
 refine Q9 (j,q,s,z) hE [3,0,4] Z (asK [] Z) Z
 rintro ⟨a1,a6,a7,a8⟩ hE
 try dsimp only
 have hm:=QO hLj_1 hE
 refine Q5 (Q1 (wP Z (wP Z (Q1B Z Z Z Zq (Q3y Z Z Q64) (Q13 Z Z Z Zq Z Q5A QaQ Z (out:=V3 ..) Z (Qy Z Z Z Zq Z tE_189 Q2N Q5A Z (zs:=[.int .u8 0,.string ((⟨#[]⟩ : ByteArray)),.int .i64 0]) (by kernel_rfl) Z (out:=V3 ..) Z (fun c4=>?_)))))))
 obtain ⟨aY,hm⟩:=Qu hm
 refine Q1S ([(⟨7,(⟨#[]⟩ : ByteArray),(((a0.size:Nat):Int))⟩ : Q1f)]) 2 0 Z Z Z Zq Z Z Z Z Z (fun F w hφ=>⟨[.int .u8 7,.string ((⟨#[]⟩ : ByteArray)),.int .i64 ((a0.size:Nat):Int)],[],Z,Z,⟨(),Z,Qr⟩,Z⟩) tE_189 tR_197 Z Z (Nat.le_trans aY (by decide)) (Nat.le_trans (Nat.mul_le_mul_right _ aY) (by decide)) (H2:=fun b4 b5=>[_,_,.own 197 3 QP (.slice b4 ((a1 ++ ([(⟨7,(⟨#[]⟩ : ByteArray),(((a0.size:Nat):Int))⟩ : Q1f)])).length) b5) (a1 ++ ([(⟨7,(⟨#[]⟩ : ByteArray),(((a0.size:Nat):Int))⟩ : Q1f)]))]) (fun _ _=>Z) (fun b4 b5=>(Q2s 0 Z (H':=[_,_]) Z (Q13 Z Z Z Zq Z Q6S Qa3 Z (out:=[_,_]) Z (wP Z (wS 0 0 Z Q2H (all':=[_,_]) Z (H':=[_,_]) Z (Q3 (Q4 (Q2 [2,3] (S':=[_,_]) Z (Qb ?_)))))))))
 have hE:=(Zi hm).symm
 obtain ⟨hE0,hF1⟩:=Prod.mk.inj hE
 obtain ⟨hE1,hE2⟩:=Prod.mk.inj hF1
 clear hE hF1
 replace hE0:=hE0.symm
 subst hE0
 replace hE1:=hE1.symm
 subst hE1
 replace hE2:=hE2.symm
 subst hE2
 refine Q1r (Hr:=[_]) [1] Tryz.results123 (Qc Z) (QW 0 Z Z Q2H Q73 Z Z) ⟨b4,b5,(a1 ++ ([(⟨7,(⟨#[]⟩ : ByteArray),(((a0.size:Nat):Int))⟩ : Q1f)])).length,Z,Z,Z⟩ (asK [] Z) Z Z (.inl Z)
theorem Q1k (N:Nat) (qg0:Nat) (qp1:OA) (qn2:Nat) (qc3:Nat) (l0:List Q1f) (a1:Int) (a2:Bool) (o0:Int) (o1:ByteArray) (o2:Int) (hm:Q1g N l0 a1 a2 = some (o0,o1,o2)):Q1o Tryz.prog 124 [.pointer (some ⟨qg0,0,none⟩)] [] [.blk qg0 [.slice qp1 qn2 qc3,.int .i64 a1,.bool a2] 194,.own 197 3 QP (.slice qp1 qn2 qc3) l0] (fun v Φr Hr=>v = .agg #[.int .u8 o0,.string o1,.int .i64 o2] ∧ Φr = [] ∧ Hr = [.blk qg0 [.slice qp1 qn2 qc3,.int .i64 a1,.bool a2] 194,.own 197 3 QP (.slice qp1 qn2 qc3) l0]):=by
 unfold Q1g at hm
 refine QD Tryz.func124 Z Tryz.ntmps124 Z (S:=[_]) Z (fun C=>(Q5 (Q1 (QE Z Z Z Zq Z Q5A Z (fun g2=>(Q3 (Q4 (Q5 ?_))))))))
 obtain ⟨hn11,hm⟩:=Qu hm
 obtain ⟨x11,hx11,hm⟩:=Q6 hm
 refine Q18 [0,1,2,3,4,5,6,7,8,9] Z Z (fun hok=>(xP hok 0 Z (xP hok 1 Z (Q8 hok 2 Z Z Z Zq Z Z Z tF_194_0 (Qm hok 3 1 0 Z Z Z Zq Z Z Z Z (cs:=[_]) Z tS_189 tA_189 Z Z (xP hok 4 Z (xP hok 5 Z (Q8 hok 6 Z Z Z Zq Z Z Z tF_194_1 (Qm hok 7 1 1 Z Z Z Zq Z Z Z Z (cs:=[_]) Z Q1A Q1N Z Z (Q4M hok 8 2 a1.toNat Z Z Z Zq Z Z Z Z Z (Q1G hn11) (Q2t hx11) tE_189 Q2N (fun g11 eg11=>?_)))))))))))
 subst eg11
 refine Q8i hok 9 R_Api_LexD_opens 2 a1.toNat 0 Z Z Z Zq Z Z Z Z hx11 Q2N Q8b (v:=.agg #[.int .u8 (x11.kind),.string x11.text,.int .i64 (x11.at_)]) Z Z (fun _=>(xS hok 10 Z (wS 0 0 Z Q2N (all':=V3 ..) Z (H':=V3 ..) Z (Q3 (QV [] [] Z Z (Q11 hok Z (Q4 (Q2 [2] (S':=[_]) Z (Qb ?_)))))))))
 have hE:=(Zi hm).symm
 obtain ⟨hE0,hF1⟩:=Prod.mk.inj hE
 obtain ⟨hE1,hE2⟩:=Prod.mk.inj hF1
 clear hE hF1
 replace hE0:=hE0.symm
 subst hE0
 replace hE1:=hE1.symm
 subst hE1
 replace hE2:=hE2.symm
 subst hE2
 refine Ql (Hr:=[_,_]) [1,2] Tryz.results124 (QW 0 Z Z Q2N Q8b Z Z) ⟨Z,Z,Z⟩ (asK [] Z) Z Z (.inl Z)
theorem Q17 (N:Nat) (a0:Nat) (q:OA) (s:Nat) (z:Nat) (l0:List Q1f) (a1:Int) (a2:Bool) (a3:ByteArray) (o0:Bool) (hm:Q14 N l0 a1 a2 a3 = some o0):Q1o Tryz.prog 161 [.pointer (some ⟨a0,0,none⟩),.string a3] [] [.blk a0 [.slice q s z,.int .i64 a1,.bool a2] 194,.own 197 3 QP (.slice q s z) l0] (fun v Φr Hr=>v = .bool o0 ∧ Φr = [] ∧ Hr = [.blk a0 [.slice q s z,.int .i64 a1,.bool a2] 194,.own 197 3 QP (.slice q s z) l0]):=by
 unfold Q14 at hm
 refine QD Tryz.func161 Z Tryz.ntmps161 Z (S:=[_,_]) Z (fun C=>(Q5 (Q1 (wP Z (Q3 (Q4 (Q2 [0,1] (S':=[_,_]) Z (Q5 (Q1 (wP Z ?_))))))))))
 obtain ⟨⟨aE,a8,aF⟩,aC,hm⟩:=Q6 hm
 try dsimp only at hm
 refine wC [0,1] [] Z Q7o Z (Q1k N a0 q s z l0 a1 a2 _ _ _ aC) (asK [] Z) Z (H':=[]) Z ?_
 rintro _ _ _ ⟨rfl,rfl,rfl⟩
 refine QE Z Z Z Zq Z Q5A Z (fun g5=>(wS 0 0 Z Q2N (all':=V3 ..) Z (H':=V3 ..) Z (Q3 (Q4 (Q2 [5,0,1] (S':=V3 ..) Z (Q5 ?_))))))
 obtain ⟨aB,hm,hLj_1⟩:=Q6 hm
 unfold Q65 at hm
 refine QI (σ:=Bool) (fun j=>aB = j) (fun j=>[(4,.bool j)]) (fun j=>[]) (fun j=>[.blk a0 [.slice q s z,.int .i64 a1,.bool a2] 194,.own 197 3 QP (.slice q s z) l0]) ?_ ?_
 refine Q1 (wP Z (wP Z (wF Z Q4U (wD 1 2 Z tS_4 tA_4 Z (wP Z (wP Z ?_))))))
 refine Qt (d:=13) (S':=V8 ..) Z Z (fun a5=>?_) (fun a5=>?_)
 replace hm:=QA hm a5
 refine wF Z Q7L (wD 0 0 Z Q8M Qa2 Z (wP Z (wP Z ?_)))
 refine Qt (d:=17) (S':=V12 ..) Z Z (fun a6=>?_) (fun a6=>?_)
 replace hm:=QA hm a6
 refine wO Z (wO Z (wO Z (wP Z (wP Z (wP Z (wF Z Qao (wD 0 1 Z Q27 Q2E Z (wP Z (wP Z (wP Z (wP Z (Q3 ?_))))))))))))
 have hE:=(Zi hm).symm
 refine Qs [1,2] Z (H':=[_,_]) Z ?_
 refine Q9 (a8.toList == a3.toList) hE [4] Z (asK [] Z) Z
 replace hm:=Qz hm a6
 refine wF Z Q7L (wD 0 0 Z Q8M Qa2 Z (wP Z (wP Z (wP Z (wP Z ?_)))))
 refine Qt (d:=23) (S':=V18 ..) Z Z (fun a7=>?_) (fun a7=>?_)
 replace hm:=QA hm a7
 refine wF Z Qao (wD 0 1 Z Q27 Q2E Z (wP Z (wP Z (wP Z (wP Z (Q3 ?_))))))
 have hE:=(Zi hm).symm
 refine Qs [1,2] Z (H':=[_,_]) Z ?_
 refine Q9 (a8.toList == a3.toList) hE [4] Z (asK [] Z) Z
 replace hm:=Qz hm a7
 refine wO Z (wO Z (wO Z (wO Z (wP Z (wP Z (Q3 ?_))))))
 have hE:=(Zi hm).symm
 refine Qs [1,2] Z (H':=[_,_]) Z ?_
 refine Q9 false hE [4] Z (asK [] Z) Z
 replace hm:=Qz hm a5
 refine wO Z (wO Z (wO Z (wO Z (wO Z (wO Z (wO Z (wO Z (wP Z (wP Z (wO Z (wO Z (wO Z (wO Z ?_)))))))))))))
 refine wP Z (wP Z (Q3 ?_))
 have hE:=(Zi hm).symm
 refine Qs [1,2] Z (H':=[_,_]) Z ?_
 refine Q9 false hE [4] Z (asK [] Z) Z
 rintro j hE
 try dsimp only
 have hm:=hLj_1
 rw [hE] at hm
 refine Qb ?_
 have hE:=(Zi hm).symm
 replace hE:=hE.symm
 subst hE
 refine Ql (Hr:=[_,_]) [0,1] Tryz.results161 (Qc Z) ⟨Z,Z,Z⟩ (asK [] Z) Z Z (.inl Z)
theorem Q1h (N:Nat) (a0:Nat) (q:OA) (s:Nat) (z:Nat) (l0:List Q1f) (a1:Int) (a2:Bool) (o0:Int) (hm:Q1d N l0 a1 a2 = some o0):Q1o Tryz.prog 162 [.pointer (some ⟨a0,0,none⟩)] [] [.blk a0 [.slice q s z,.int .i64 a1,.bool a2] 194,.own 197 3 QP (.slice q s z) l0] (fun v Φr Hr=>v = .tuple #[] ∧ Φr = [] ∧ Hr = [.blk a0 [.slice q s z,.int .i64 o0,.bool a2] 194,.own 197 3 QP (.slice q s z) l0]):=by
 unfold Q1d at hm
 refine QD Tryz.func162 Z Tryz.ntmps162 Z (S:=[_]) Z (fun C=>(Q5 ?_))
 obtain ⟨a9,hm,hLj_1⟩:=Q6 hm
 refine QI (σ:=Bool) (fun j=>a9 = j) (fun j=>[(0,.pointer (some ⟨a0,0,none⟩)),(19,.bool j)]) (fun j=>[]) (fun j=>[.blk a0 [.slice q s z,.int .i64 a1,.bool a2] 194,.own 197 3 QP (.slice q s z) l0]) ?_ ?_
 rcases QG hm with ⟨a7,hm⟩ | ⟨a7,hm⟩
 obtain ⟨aA,hm⟩:=Qu hm
 refine Q18 [0,1,2,3,4,5,6,7,8,9,10,11,12,13,14,15,16,17] Z Z (fun hok=>(xP hok 0 Z (xP hok 1 Z (Q8 hok 2 Z Z Z Zq Z Z Z Q4U (Qm hok 3 0 2 Z Z Z Zq Z Z Z Z (cs:=[_]) Z tS_4 tA_4 Z Z (xP hok 4 Z (xP hok 5 Z (Q1D (d:=7) (v':=.bool true) (S':=V6 ..) Z Z (Q1l a7) (xP hok 6 Z (xP hok 7 Z (Q8 hok 8 Z Z Z Zq Z Z Z tF_194_1 (Qm hok 9 0 1 Z Z Z Zq Z Z Z Z (cs:=[_]) Z Q1A Q1N Z Z (xP hok 10 Z (xP hok 11 Z ?_))))))))))))))
 refine Q8 hok 12 Z Z Z Zq Z Z Z tF_194_0 (Qm hok 13 0 0 Z Z Z Zq Z Z Z Z (cs:=[_]) Z tS_189 tA_189 Z Z (Q7D 1 Z (fun aB _=>(Q4u hok 14 Z Z Z Zq Z Z Z tE_189 (Q1D (d:=16) (v':=.int .i64 ((l0.length:Nat):Int)) (S':=V15 ..) Z Z (Q4Y aB) (xP hok 15 Z (Q1D (d:=17) (v':=.int .i64 (((l0.length:Nat):Int) - 1)) (S':=V16 ..) Z Z (i64_in aA) (xP hok 16 Z (xP hok 17 Z (Q11 hok Z ?_))))))))))
 have hE:=(Zi hm).symm
 refine Q9 (decide (a1 < (((l0.length:Nat):Int) - 1))) hE [0,19] Z (asK [] Z) Z
 refine Q18 [0,1,2,3,4,5,6,7,8,9,10,11,12,13,14,15,16,17] Z Z (fun hok=>(xP hok 0 Z (xP hok 1 Z (Q8 hok 2 Z Z Z Zq Z Z Z Q4U (Qm hok 3 0 2 Z Z Z Zq Z Z Z Z (cs:=[_]) Z tS_4 tA_4 Z Z (xP hok 4 Z (xP hok 5 Z (Q1D (d:=7) (v':=.bool false) (S':=V6 ..) Z Z (Q1l a7) (xO hok 6 Z (xO hok 7 Z (xO hok 8 Z (xO hok 9 Z (xO hok 10 Z (xO hok 11 Z ?_))))))))))))))
 refine xO hok 12 Z (xO hok 13 Z (xO hok 14 Z (xO hok 15 Z (xO hok 16 Z (xP hok 17 Z (Q11 hok Z ?_))))))
 have hE:=(Zi hm).symm
 refine Q9 false hE [0,19] Z (asK [] Z) Z
 rintro j hE
 try dsimp only
 have hm:=hLj_1
 rw [hE] at hm
 refine Qj Z (fun a5=>?_) (fun a5=>?_)
 replace hm:=QA hm a5
 refine Q2 [0] (S':=[_]) Z (Q1 (wP Z (wP Z (wF Z tF_194_1 (wD 0 1 Z Q1A Q1N Z (wP Z ?_))))))
 obtain ⟨aC,hm⟩:=Qu hm
 refine QH (d:=24) (v':=.int .i64 (a1 + 1)) (S':=V5 ..) Z Z (i64_in aC) (wP Z (wF Z tF_194_1 (wS 0 1 Z Q1A (all':=V3 ..) Z (H':=[_,_]) Z (Q3 ?_))))
 have hE:=(Zi hm).symm
 replace hE:=hE.symm
 subst hE
 refine Q4o (Hr:=[_,_]) [0,1] Tryz.results162 ⟨Z,Z,Z⟩ (asK [] Z) Z Z (.inr Z)
 replace hm:=Qz hm a5
 refine Q2 [] (S':=[]) Z (Qq ?_)
 have hE:=(Zi hm).symm
 replace hE:=hE.symm
 subst hE
 refine Q4o (Hr:=[_,_]) [0,1] Tryz.results162 ⟨Z,Z,Z⟩ (asK [] Z) Z Z (.inr Z)
theorem Q1C (N:Nat) (a0:Nat) (q:OA) (s:Nat) (z:Nat) (l0:List Q1f) (a1:Int) (a2:Bool) (a3:Int) (a4:Int) (o0:ByteArray) (o1:Int) (o2:Int) (o3:Bool) (hm:Q1u N l0 a1 a2 a3 a4 = some (o0,o1,o2,o3)):Q1o Tryz.prog 163 [.pointer (some ⟨a0,0,none⟩),.int .u8 a3,.int .u8 a4] [] [.blk a0 [.slice q s z,.int .i64 a1,.bool a2] 194,.own 197 3 QP (.slice q s z) l0] (fun v Φr Hr=>v = .agg #[.int .u8 a4,.string o0,.int .i64 0,.int .i64 o1,V1] ∧ Φr = [] ∧ Hr = [.blk a0 [.slice q s z,.int .i64 o2,.bool o3] 194,.own 197 3 QP (.slice q s z) l0]):=by
 unfold Q1u at hm
 refine QD Tryz.func163 Z Tryz.ntmps163 Z (S:=V3 ..) Z (fun C=>(Q5 (Q1 (QE Z Z Z Zq Z Q2j Z (fun g6=>(Q3 (Q4 (Q5 (Q1 (wP Z ?_))))))))))
 obtain ⟨⟨a8,a9,aA⟩,aD,hm⟩:=Q6 hm
 try dsimp only at hm
 refine wC [1,2] [0] Z Q7o Z (Q1k N a0 q s z l0 a1 a2 _ _ _ aD) (asK [] Z) Z (H':=[_]) Z ?_
 rintro _ _ _ ⟨rfl,rfl,rfl⟩
 refine QE Z Z Z Zq Z Q5A Z (fun g7=>(wS 0 0 Z Q2N (all':=V3 ..) Z (H':=V4 ..) Z (Q3 (Q4 (Q2 [7,6,0,1,2] (S':=V5 ..) Z (Q5 ?_))))))
 obtain ⟨aB,hm,hLj_1⟩:=Q6 hm
 refine QI (σ:=Bool) (fun j=>aB = j) (fun j=>[(7,.pointer (some ⟨g7,0,none⟩)),(6,.pointer (some ⟨g6,0,none⟩)),(0,.pointer (some ⟨a0,0,none⟩)),(2,.int .u8 a4)]) (fun j=>[]) (fun j=>[.blk g7 [.int .u8 a8,.string a9,.int .i64 aA] 197,.blk g6 [.int .u8 0,.string ((⟨#[]⟩ : ByteArray)),.int .i64 0,.int .i64 0,V1] 159,.blk a0 [.slice q s z,.int .i64 a1,.bool j] 194,.own 197 3 QP (.slice q s z) l0]) ?_ ?_
 refine Q5 (Q1 (wF Z Q7L (wD 0 0 Z Q8M Qa2 Z (wP Z (wP Z (Q3 (Q4 (Q2 [13,7,6,0,2] (S':=V5 ..) Z ?_))))))))
 refine Qj Z (fun a5=>?_) (fun a5=>?_)
 replace hm:=QA hm a5
 refine Q2 [7,6,0,2] (S':=V4 ..) Z (Q1 (wP Z (wP Z (wF Z Q4U (wS 1 2 Z tS_4 (all':=V3 ..) Z (H':=V4 ..) Z (Q3 ?_))))))
 have hE:=(Zi hm).symm
 refine Qs [0,3,1,2] Z (H':=V4 ..) Z ?_
 refine Q9 true hE [7,6,0,2] Z (asK [] Z) Z
 replace hm:=Qz hm a5
 refine Q2 [7,6,0,2] (S':=V4 ..) Z (Qq ?_)
 have hE:=(Zi hm).symm
 refine Qs [0,3,1,2] Z (H':=V4 ..) Z ?_
 refine Q9 a2 hE [7,6,0,2] Z (asK [] Z) Z
 rintro j hE
 try dsimp only
 have hm:=hLj_1
 rw [hE] at hm
 refine Q5 (Q1 (wP Z ?_))
 obtain ⟨aK,aC,hm⟩:=Q6 hm
 refine wC [2,3] [0,1] Z Q7p Z (Q1h N a0 q s z l0 a1 j _ aC) (asK [] Z) Z (H':=[_,_]) Z ?_
 rintro _ _ _ ⟨rfl,rfl,rfl⟩
 refine Q3 (Q4 (Q2 [7,6,2] (S':=V3 ..) Z (Q5 (Q1 (wP Z (wF Z Qao (wD 2 1 Z Q27 Q2E Z (wF Z tF_197_2 (wD 2 2 Z Q1A Q1N Z (Q13 Z Z Z Zq Z Q2j Q8c Z (out:=V5 ..) Z (wS 3 0 Z QQ (all':=V5 ..) Z (H':=V4 ..) Z (Q3 (Q4 ?_)))))))))))))
 refine Q2 [6] (S':=[_]) Z (Qb ?_)
 have hE:=(Zi hm).symm
 obtain ⟨hE0,hF1⟩:=Prod.mk.inj hE
 obtain ⟨hE1,hF2⟩:=Prod.mk.inj hF1
 obtain ⟨hE2,hE3⟩:=Prod.mk.inj hF2
 clear hE hF1 hF2
 replace hE0:=hE0.symm
 subst hE0
 replace hE1:=hE1.symm
 subst hE1
 replace hE2:=hE2.symm
 subst hE2
 replace hE3:=hE3.symm
 subst hE3
 refine Ql (Hr:=[_,_]) [0,1] Tryz.results163 (QW 3 Z Z QQ Q1z Z Z) ⟨Z,Z,Z⟩ (asK [] Z) Z Z (.inl Z)
theorem Q1m (N:Nat) (qg0:Nat) (qp1:OA) (qn2:Nat) (qc3:Nat) (l0:List Q1f) (a1:Int) (a2:Bool) (a3:ByteArray) (o0:Int) (o1:Bool) (hm:Q1i N l0 a1 a2 a3 = some (o0,o1)):Q1o Tryz.prog 165 [.pointer (some ⟨qg0,0,none⟩),.string a3] [] [.blk qg0 [.slice qp1 qn2 qc3,.int .i64 a1,.bool a2] 194,.own 197 3 QP (.slice qp1 qn2 qc3) l0] (fun v Φr Hr=>v = .tuple #[] ∧ Φr = [] ∧ Hr = [.blk qg0 [.slice qp1 qn2 qc3,.int .i64 o0,.bool o1] 194,.own 197 3 QP (.slice qp1 qn2 qc3) l0]):=by
 unfold Q1i at hm
 refine QD Tryz.func165 Z Tryz.ntmps165 Z (S:=[_,_]) Z (fun C=>(Q5 ?_))
 obtain ⟨bj_1,hm,hLj_1⟩:=Q6 hm
 refine QI (σ:=Bool) (fun j_1_0_f2=>bj_1 = j_1_0_f2) (fun j_1_0_f2=>[(0,.pointer (some ⟨qg0,0,none⟩))]) (fun j_1_0_f2=>[]) (fun j_1_0_f2=>[.blk qg0 [.slice qp1 qn2 qc3,.int .i64 a1,.bool j_1_0_f2] 194,.own 197 3 QP (.slice qp1 qn2 qc3) l0]) ?_ ?_
 refine Q5 (Q1 (wP Z (wP Z ?_)))
 obtain ⟨v6,hc6,hm⟩:=Q6 hm
 refine wC [0,1] [] Z Q6h Z (Q17 N qg0 qp1 qn2 qc3 l0 a1 a2 a3 _ hc6) (asK [] Z) Z (H':=[]) Z ?_
 rintro _ _ _ ⟨rfl,rfl,rfl⟩
 refine wP Z (Q3 (Q4 (Q2 [7,0] (S':=[_,_]) Z ?_)))
 refine Qj Z (fun hb7=>?_) (fun hb7=>?_)
 replace hm:=QA hm hb7
 refine Q2 [0] (S':=[_]) Z (Q1 (wP Z (wP Z (wF Z Q4U (wS 0 2 Z tS_4 (all':=V3 ..) Z (H':=[_,_]) Z (Q3 ?_))))))
 have hE:=(Zi hm).symm
 refine Q9 true hE [0] Z (asK [] Z) Z
 replace hm:=Qz hm hb7
 refine Q2 [0] (S':=[_]) Z (Qq ?_)
 have hE:=(Zi hm).symm
 refine Q9 a2 hE [0] Z (asK [] Z) Z
 rintro j_1_0_f2 hE
 try dsimp only
 have hm:=hLj_1
 rw [hE] at hm
 refine Q1 (wP Z ?_)
 obtain ⟨v12,hc12,hm⟩:=Q6 hm
 refine wC [0,1] [] Z Q7p Z (Q1h N qg0 qp1 qn2 qc3 l0 a1 j_1_0_f2 _ hc12) (asK [] Z) Z (H':=[]) Z ?_
 rintro _ _ _ ⟨rfl,rfl,rfl⟩
 refine Q3 ?_
 have hE:=(Zi hm).symm
 obtain ⟨hE0,hE1⟩:=Prod.mk.inj hE
 clear hE
 replace hE0:=hE0.symm
 subst hE0
 replace hE1:=hE1.symm
 subst hE1
 refine Q4o (Hr:=[_,_]) [0,1] Tryz.results165 ⟨Z,Z,Z⟩ (asK [] Z) Z Z (.inr Z)
theorem Q8P (N:Nat) (z:Nat) (j:OA) (q:Nat) (s:Nat) (l0:List Q1f) (a1:Int) (a2:Bool) (o0:Int) (o1:ByteArray) (o2:Int) (o3:Int) (o4:Bool) (hm:Q4f N l0 a1 a2 = some (o0,o1,o2,o3,o4)):Q1o Tryz.prog 205 [.pointer (some ⟨z,0,none⟩)] [] [.blk z [.slice j q s,.int .i64 a1,.bool a2] 194,.own 197 3 QP (.slice j q s) l0] (fun v Φr Hr=>v = .agg #[.int .u8 o0,.string o1,.int .i64 0,.int .i64 o2,V1] ∧ Φr = [] ∧ Hr = [.blk z [.slice j q s,.int .i64 o3,.bool o4] 194,.own 197 3 QP (.slice j q s) l0]):=by
 unfold Q4f at hm
 refine QD Tryz.func205 Z Tryz.ntmps205 Z (S:=[_]) Z (fun C=>(Q5 (Q1 (QE Z Z Z Zq Z Q2j Z (fun g2=>(Q3 (Q4 (Q5 (Q1 (wP Z ?_))))))))))
 obtain ⟨⟨b6,b7,b8⟩,aI,hm⟩:=Q6 hm
 try dsimp only at hm
 refine wC [1,2] [0] Z Q7o Z (Q1k N z j q s l0 a1 a2 _ _ _ aI) (asK [] Z) Z (H':=[_]) Z ?_
 rintro _ _ _ ⟨rfl,rfl,rfl⟩
 refine QE Z Z Z Zq Z Q5A Z (fun g3=>(wS 0 0 Z Q2N (all':=V3 ..) Z (H':=V4 ..) Z (Q3 (Q4 (Q2 [3,2,0] (S':=V3 ..) Z (Q5 (Qw (Q5 (Q1 (wP Z ?_))))))))))
 obtain ⟨v9,aJ,hm⟩:=Q6 hm
 refine wC [1,2] [0,3] Z Q6h Z (Q17 N z j q s l0 a1 a2 (⟨#[95]⟩ : ByteArray) _ aJ) (asK [] Z) Z (H':=[_,_]) Z ?_
 rintro _ _ _ ⟨rfl,rfl,rfl⟩
 refine wP Z (Q3 (Q4 (Q2 [7,3,2,0] (S':=V4 ..) Z ?_)))
 refine Qj Z (fun a9=>?_) (fun a9=>?_)
 replace hm:=QA hm a9
 refine Q2 [3,2,0] (S':=V3 ..) Z (Q5 (Q1 (wP Z ?_)))
 obtain ⟨b9,aA,hm⟩:=Q6 hm
 refine wC [0,1] [2,3] Z Q7p Z (Q1h N z j q s l0 a1 a2 _ aA) (asK [] Z) Z (H':=[_,_]) Z ?_
 rintro _ _ _ ⟨rfl,rfl,rfl⟩
 refine Q3 (Q4 (Q2 [3,2] (S':=[_,_]) Z (Q5 (Q1 (wF Z tF_197_2 (wD 2 2 Z Q1A Q1N Z (Q13 Z Z Z Zq Z Q2j Q8c Z (out:=V5 ..) Z (wS 3 0 Z QQ (all':=V5 ..) Z (H':=V4 ..) Z (Q3 (Q4 (Q2 [2] (S':=[_]) Z (Qb (Qg ?_)))))))))))))
 refine Q7 ?_
 have hE:=(Zi hm).symm
 obtain ⟨hE0,hF1⟩:=Prod.mk.inj hE
 obtain ⟨hE1,hF2⟩:=Prod.mk.inj hF1
 obtain ⟨hE2,hF3⟩:=Prod.mk.inj hF2
 obtain ⟨hE3,hE4⟩:=Prod.mk.inj hF3
 clear hE hF1 hF2 hF3
 replace hE0:=hE0.symm
 subst hE0
 replace hE1:=hE1.symm
 subst hE1
 replace hE2:=hE2.symm
 subst hE2
 replace hE3:=hE3.symm
 subst hE3
 replace hE4:=hE4.symm
 subst hE4
 refine Ql (Hr:=[_,_]) [0,1] Tryz.results205 (QW 3 Z Z QQ Q1z Z Z) ⟨Z,Z,Z⟩ (asK [] Z) Z Z (.inl Z)
 replace hm:=Qz hm a9
 refine Q2 [3,2,0] (S':=V3 ..) Z (Q5 (Q1 (wP Z ?_)))
 obtain ⟨bA,aB,hm⟩:=Q6 hm
 refine wC [0,1] [2,3] Z Q6h Z (Q17 N z j q s l0 a1 a2 (⟨#[45]⟩ : ByteArray) _ aB) (asK [] Z) Z (H':=[_,_]) Z ?_
 rintro _ _ _ ⟨rfl,rfl,rfl⟩
 refine wP Z (Q3 (Q4 (Q2 [15,3,2,0] (S':=V4 ..) Z ?_)))
 refine Qj Z (fun a5=>?_) (fun a5=>?_)
 replace hm:=QA hm a5
 refine Q2 [3,2,0] (S':=V3 ..) Z (Q5 (Q1 (wP Z ?_)))
 obtain ⟨aK,aC,hm⟩:=Q6 hm
 refine wC [0,1] [2,3] Z Q7p Z (Q1h N z j q s l0 a1 a2 _ aC) (asK [] Z) Z (H':=[_,_]) Z ?_
 rintro _ _ _ ⟨rfl,rfl,rfl⟩
 refine Q3 (Q4 (Q2 [3,2,0] (S':=V3 ..) Z (Q5 (Q1 (wP Z ?_)))))
 obtain ⟨⟨aL,aM,aN,aO⟩,aD,hm⟩:=Q6 hm
 try dsimp only at hm
 refine wC [0,1] [2,3] Z Q8I Z (Q1C N z j q s l0 aK a2 4 14 _ _ _ _ aD) (asK [] Z) Z (H':=[_,_]) Z ?_
 rintro _ _ _ ⟨rfl,rfl,rfl⟩
 refine QE Z Z Z Zq Z Q2j Z (fun g4=>(wS 0 0 Z QQ (all':=V5 ..) Z (H':=V5 ..) Z (Q3 (Q4 (Q2 [4,3,2] (S':=V3 ..) Z (Q5 (Q1 (wF Z Q1V (wD 0 1 Z Q27 Q2E Z ?_)))))))))
 obtain ⟨aE,hm⟩:=Qu hm
 refine Q7Q Z Z Z Zq Z Z Z (run_strAdd aE) (wF Z Q1V (wS 0 1 Z Q27 (all':=V5 ..) Z (H':=V5 ..) Z (Q3 (Q4 (Q2 [4,3,2] (S':=V3 ..) Z (Q5 (Q1 (wF Z tF_197_2 (wD 3 2 Z Q1A Q1N Z (wF Z Qan (wS 0 3 Z Q1A (all':=V5 ..) Z (H':=V5 ..) Z (Q3 (Q4 ?_)))))))))))))
 refine Q2 [4,2] (S':=[_,_]) Z (Q5 (Q1 (QR 0 0 Z Z Z Zq Z Z Z (cs:=V5 ..) Z QQ Q1z Z Z (wS 4 0 Z QQ (all':=V5 ..) Z (H':=V5 ..) Z (Q3 (Q4 (Q2 [2] (S':=[_]) Z (Qb (Qg (Q7 ?_))))))))))
 have hE:=(Zi hm).symm
 obtain ⟨hE0,hF1⟩:=Prod.mk.inj hE
 obtain ⟨hE1,hF2⟩:=Prod.mk.inj hF1
 obtain ⟨hE2,hF3⟩:=Prod.mk.inj hF2
 obtain ⟨hE3,hE4⟩:=Prod.mk.inj hF3
 clear hE hF1 hF2 hF3
 replace hE0:=hE0.symm
 subst hE0
 replace hE1:=hE1.symm
 subst hE1
 replace hE2:=hE2.symm
 subst hE2
 replace hE3:=hE3.symm
 subst hE3
 replace hE4:=hE4.symm
 subst hE4
 refine Ql (Hr:=[_,_]) [1,2] Tryz.results205 (QW 4 Z Z QQ Q1z Z Z) ⟨Z,Z,Z⟩ (asK [] Z) Z Z (.inl Z)
 replace hm:=Qz hm a5
 refine Q2 [3,2,0] (S':=V3 ..) Z (Q5 (Q1 (wF Z Q7L (wD 2 0 Z Q8M Qa2 Z (wP Z (wP Z (Q3 (Q4 (Q2 [30,3,2,0] (S':=V4 ..) Z ?_)))))))))
 refine Qj Z (fun a6=>?_) (fun a6=>?_)
 replace hm:=QA hm a6
 refine Q2 [2,0] (S':=[_,_]) Z (Q5 (Q1 (wP Z ?_)))
 obtain ⟨⟨aP,aQ,aR,aS⟩,aF,hm⟩:=Q6 hm
 try dsimp only at hm
 refine wC [0,1] [2,3] Z Q8I Z (Q1C N z j q s l0 a1 a2 3 13 _ _ _ _ aF) (asK [] Z) Z (H':=[_,_]) Z ?_
 rintro _ _ _ ⟨rfl,rfl,rfl⟩
 refine wS 3 0 Z QQ (all':=V5 ..) Z (H':=V4 ..) Z (Q3 (Q4 (Q2 [2] (S':=[_]) Z (Qb (Qg (Q7 ?_))))))
 have hE:=(Zi hm).symm
 obtain ⟨hE0,hF1⟩:=Prod.mk.inj hE
 obtain ⟨hE1,hF2⟩:=Prod.mk.inj hF1
 obtain ⟨hE2,hF3⟩:=Prod.mk.inj hF2
 obtain ⟨hE3,hE4⟩:=Prod.mk.inj hF3
 clear hE hF1 hF2 hF3
 replace hE0:=hE0.symm
 subst hE0
 replace hE1:=hE1.symm
 subst hE1
 replace hE2:=hE2.symm
 subst hE2
 replace hE3:=hE3.symm
 subst hE3
 replace hE4:=hE4.symm
 subst hE4
 refine Ql (Hr:=[_,_]) [0,1] Tryz.results205 (QW 3 Z Z QQ Q1z Z Z) ⟨Z,Z,Z⟩ (asK [] Z) Z Z (.inl Z)
 replace hm:=Qz hm a6
 refine Q2 [3,2,0] (S':=V3 ..) Z (Q5 (Q1 (wF Z Q7L (wD 2 0 Z Q8M Qa2 Z (wP Z (wP Z (Q3 (Q4 (Q2 [36,2,0] (S':=V3 ..) Z ?_)))))))))
 refine Qj Z (fun a7=>?_) (fun a7=>?_)
 replace hm:=QA hm a7
 refine Q2 [2,0] (S':=[_,_]) Z (Q5 (Q1 (wP Z ?_)))
 obtain ⟨⟨aT,aU,aV,aW⟩,aG,hm⟩:=Q6 hm
 try dsimp only at hm
 refine wC [0,1] [2,3] Z Q8I Z (Q1C N z j q s l0 a1 a2 5 15 _ _ _ _ aG) (asK [] Z) Z (H':=[_,_]) Z ?_
 rintro _ _ _ ⟨rfl,rfl,rfl⟩
 refine wS 3 0 Z QQ (all':=V5 ..) Z (H':=V4 ..) Z (Q3 (Q4 (Q2 [2] (S':=[_]) Z (Qb (Qg (Q7 ?_))))))
 have hE:=(Zi hm).symm
 obtain ⟨hE0,hF1⟩:=Prod.mk.inj hE
 obtain ⟨hE1,hF2⟩:=Prod.mk.inj hF1
 obtain ⟨hE2,hF3⟩:=Prod.mk.inj hF2
 obtain ⟨hE3,hE4⟩:=Prod.mk.inj hF3
 clear hE hF1 hF2 hF3
 replace hE0:=hE0.symm
 subst hE0
 replace hE1:=hE1.symm
 subst hE1
 replace hE2:=hE2.symm
 subst hE2
 replace hE3:=hE3.symm
 subst hE3
 replace hE4:=hE4.symm
 subst hE4
 refine Ql (Hr:=[_,_]) [0,1] Tryz.results205 (QW 3 Z Z QQ Q1z Z Z) ⟨Z,Z,Z⟩ (asK [] Z) Z Z (.inl Z)
 replace hm:=Qz hm a7
 refine Q2 [2,0] (S':=[_,_]) Z (Qq (Qh (Q4 (Q5 (Q1 (wP Z ?_))))))
 obtain ⟨⟨aX,aY,aZ,b0⟩,aH,hm⟩:=Q6 hm
 try dsimp only at hm
 refine wC [0,1] [2,3] Z Q8I Z (Q1C N z j q s l0 a1 a2 4 14 _ _ _ _ aH) (asK [] Z) Z (H':=[_,_]) Z ?_
 rintro _ _ _ ⟨rfl,rfl,rfl⟩
 refine wS 3 0 Z QQ (all':=V5 ..) Z (H':=V4 ..) Z (Q3 (Q4 (Q2 [2] (S':=[_]) Z (Qb ?_))))
 have hE:=(Zi hm).symm
 obtain ⟨hE0,hF1⟩:=Prod.mk.inj hE
 obtain ⟨hE1,hF2⟩:=Prod.mk.inj hF1
 obtain ⟨hE2,hF3⟩:=Prod.mk.inj hF2
 obtain ⟨hE3,hE4⟩:=Prod.mk.inj hF3
 clear hE hF1 hF2 hF3
 replace hE0:=hE0.symm
 subst hE0
 replace hE1:=hE1.symm
 subst hE1
 replace hE2:=hE2.symm
 subst hE2
 replace hE3:=hE3.symm
 subst hE3
 replace hE4:=hE4.symm
 subst hE4
 refine Ql (Hr:=[_,_]) [0,1] Tryz.results205 (QW 3 Z Z QQ Q1z Z Z) ⟨Z,Z,Z⟩ (asK [] Z) Z Z (.inl Z)
theorem Qax (N:Nat) (a0:ByteArray) (z:OA) (a1:Nat) (l1:List ByteArray) (o0:Bool) (hm:Q6q N a0 l1 = some o0):Q1o Tryz.prog 234 [.string a0,.slice z l1.length a1] [.sli 1 Q1y z a1 l1] [] (fun v Φr Hr=>v = .bool o0 ∧ Φr = [] ∧ Hr = []):=by
 unfold Q6q at hm
 refine QD Tryz.func234 Z Tryz.ntmps234 Z (S:=[_,_]) Z (fun C=>(Q5 (Q1 (wP Z (Q3 (Q4 (Q2 [0,1] (S':=[_,_]) Z (Q5 ?_))))))))
 obtain ⟨a6,hm,hLj_1⟩:=Q1w hm
 refine QI (σ:=Unit) (fun _=>a6 = .inl ()) (fun _=>[]) (fun _=>[]) (fun _=>[]) ?_ ?_
 refine Q5 (Q1 (wP Z (Q3 (Q4 (Qw (Q1E (σ:=Nat × Nat) (fun (q,j)=>Q1M (Q53 N l1 a0) q j = some a6) (fun (q,j)=>q) (fun (q,j)=>[(5,.int .i64 ((j:Nat):Int)),(0,.string a0),(1,.slice z l1.length a1)]) (fun (q,j)=>[.sli 1 Q1y z a1 l1]) (fun (q,j)=>[]) (N,0) hm [5,0,1] Z (asK [0] Z) Z (fun s_ hm=>?_)))))))
 obtain ⟨q,j⟩:=s_
 try dsimp only at hm ⊢
 obtain ⟨aG,aH,a8,hq,hLu1⟩:=Q1e hm
 clear hm
 subst a8
 replace hm:=hq
 clear hq
 unfold Q53 at hm
 try dsimp only at hm
 refine Q5 (Q5 (Q1 (wP Z (wP Z (wN Z Q2c (wP Z (QH (d:=9) (v':=.bool (decide (j < l1.length))) (S':=V6 ..) Z Z (Q2z (a:=j) (b:=l1.length)) (Q3 (Q4 (Q2 [9,5,0,1] (S':=V4 ..) Z ?_))))))))))
 refine Qj Z (fun a7=>?_) (fun a7=>?_)
 replace hm:=QA hm a7
 refine Q2 [5,0,1] (S':=V3 ..) Z (Qq (Q4 (Q5 (Qw (Q5 (Q1 (wP Z (wP Z ?_))))))))
 obtain ⟨aI,a9,hm⟩:=Q6 hm
 refine Q1F 0 j Z Z Z Zq Z Z Z Z Z a9 Q2c Q27 (fun aJ aK aF aD=>(Q22 Q5E 1 Z (fun aL aA _=>?_)))
 subst aA
 refine Q21 0 0 Z Z Z Zq Z Z Z (cs:=[_]) Z Q27 Q2E Z Z (wP Z (wP Z (Q3 (Q4 (Q2 [17,5,0,1] (S':=V4 ..) Z ?_)))))
 refine Qj Z (fun s=>?_) (fun s=>?_)
 replace hm:=QA hm s
 refine Q2 [] (S':=[]) Z (Q5 (Q1 (wP Z (Q3 (Q4 (Qb (Qg (Q7 (Q7 (Qg (Q7 ?_)))))))))))
 have hE:=(Zi hm).symm
 replace hE:=Qv hLu1 hE
 replace hE:=Qv hLj_1 hE
 replace hE:=hE.symm
 subst hE
 refine Ql (Hr:=[]) [] Tryz.results234 (Qc Z) ⟨Z,Z,Z⟩ (asK [] Z) Z Z (.inl Z)
 replace hm:=Qz hm s
 refine Q2 [5,0,1] (S':=V3 ..) Z (Qq (Qh (Q4 (Q1 (wP Z (wP Z ?_))))))
 obtain ⟨aB,hm⟩:=Qu hm
 refine QH (d:=11) (v':=.int .i64 ((j + 1:Nat):Int)) (S':=V4 ..) Z Z (Q1J (a:=j) (b:=1) aB) (Q1b (S':=V4 ..) Z Z Z Z Z (Q3 ?_))
 have hE:=(Zi hm).symm
 replace hE:=QO hLu1 hE
 refine Q1a (_,j + 1) (Nat.lt_succ_self _) hE [5,0,1] Z (asK [2] Z) Z
 replace hm:=Qz hm a7
 refine Q2 [] (S':=[]) Z (Q1x (Qk (Qk (QJ ?_))))
 have hE:=(Zi hm).symm
 replace hE:=Qv hLu1 hE
 refine Q9 () hE [] Z (asK [] Z) Z
 rintro _ hE
 try dsimp only
 have hm:=QO hLj_1 hE
 try dsimp only at hm
 refine Q5 (Q1 (wP Z (Q3 (Q4 (Qb ?_)))))
 have hE:=(Zi hm).symm
 replace hE:=hE.symm
 subst hE
 refine Ql (Hr:=[]) [] Tryz.results234 (Qc Z) ⟨Z,Z,Z⟩ (asK [] Z) Z Z (.inl Z)
theorem Q7E (N:Nat) (aB:Nat) (a7:OA) (a8:Nat) (a9:Nat) (l0:List Q1f) (a1:Int) (a2:Bool) (a3:Int) (o0:Bool) (hm:Q3j N l0 a1 a2 a3 = some o0):Q1o Tryz.prog 222 [.pointer (some ⟨aB,0,none⟩),.int .i64 a3] [] [.blk aB [.slice a7 a8 a9,.int .i64 a1,.bool a2] 194,.own 197 3 QP (.slice a7 a8 a9) l0] (fun v Φr Hr=>v = .bool o0 ∧ Φr = [] ∧ Hr = [.blk aB [.slice a7 a8 a9,.int .i64 a1,.bool a2] 194,.own 197 3 QP (.slice a7 a8 a9) l0]):=by
 unfold Q3j at hm
 refine QD Tryz.func222 Z Tryz.ntmps222 Z (S:=[_,_]) Z (fun C=>(Q5 (Q1 (wP Z (Q3 (Q4 (Q2 [0,1] (S':=[_,_]) Z (Q5 (Q1 (wP Z ?_))))))))))
 obtain ⟨⟨aG,aH,aL⟩,aR,hm⟩:=Q6 hm
 try dsimp only at hm
 refine wC [0,1] [] Z Q7o Z (Q1k N aB a7 a8 a9 l0 a1 a2 _ _ _ aR) (asK [] Z) Z (H':=[]) Z ?_
 rintro _ _ _ ⟨rfl,rfl,rfl⟩
 refine QE Z Z Z Zq Z Q5A Z (fun g5=>(wS 0 0 Z Q2N (all':=V3 ..) Z (H':=V3 ..) Z (Q3 (Q4 (Q2 [5,0,1] (S':=V3 ..) Z (Q5 (Q5 ?_)))))))
 obtain ⟨aM,hm,hLj_1⟩:=Q6 hm
 refine QI (σ:=Bool) (fun j=>aM = j) (fun j=>[(5,.pointer (some ⟨g5,0,none⟩)),(1,.int .i64 a3),(22,.bool j)]) (fun j=>[]) (fun j=>[.blk g5 [.int .u8 aG,.string aH,.int .i64 aL] 197,.blk aB [.slice a7 a8 a9,.int .i64 a1,.bool a2] 194,.own 197 3 QP (.slice a7 a8 a9) l0]) ?_ ?_
 refine Q1 (wP Z (wP Z (wF Z Q4U (wD 1 2 Z tS_4 tA_4 Z (wP Z ?_)))))
 refine Qt (d:=13) (S':=V7 ..) Z Z (fun aC=>?_) (fun aC=>?_)
 replace hm:=QA hm aC
 refine wO Z (wO Z (wO Z (wO Z (wO Z (wO Z (wO Z (wO Z (wP Z (Q3 ?_)))))))))
 have hE:=(Zi hm).symm
 refine Q9 true hE [5,1,22] Z (asK [] Z) Z
 replace hm:=Qz hm aC
 refine wF Z Q7L (wD 0 0 Z Q8M Qa2 Z (wP Z (wP Z ?_)))
 refine Qt (d:=17) (S':=V11 ..) Z Z (fun aD=>?_) (fun aD=>?_)
 replace hm:=QA hm aD
 refine wF Z Q7L (wD 0 0 Z Q8M Qa2 Z (wP Z (wP Z (wP Z (Q3 ?_)))))
 have hE:=(Zi hm).symm
 refine Q9 (aG != 1) hE [5,1,22] Z (asK [] Z) Z
 replace hm:=Qz hm aD
 refine wO Z (wO Z (wO Z (wP Z (wP Z (Q3 ?_)))))
 have hE:=(Zi hm).symm
 refine Q9 false hE [5,1,22] Z (asK [] Z) Z
 rintro j hE
 try dsimp only
 have hm:=hLj_1
 rw [hE] at hm
 refine Qj Z (fun aE=>?_) (fun aE=>?_)
 replace hm:=QA hm aE
 refine Q2 [] (S':=[]) Z (Q5 (Q1 (wP Z (Q3 (Q4 (Qb (Q7 ?_)))))))
 have hE:=(Zi hm).symm
 replace hE:=hE.symm
 subst hE
 refine Ql (Hr:=[_,_]) [1,2] Tryz.results222 (Qc Z) ⟨Z,Z,Z⟩ (asK [] Z) Z Z (.inl Z)
 replace hm:=Qz hm aE
 refine Q2 [5,1] (S':=[_,_]) Z (Qq (Q4 (Q5 (Q1 (Qy Z Z Z Zq Z Q2c Q27 tZ_9 Z (zs:=[.string ((⟨#[]⟩ : ByteArray))]) (by kernel_rfl) Z (out:=[_]) Z (fun q=>(Qy Z Z Z Zq Z Q2c Q27 tZ_9 Z (zs:=[.string ((⟨#[]⟩ : ByteArray))]) (by kernel_rfl) Z (out:=[_]) Z (fun s=>(Qy Z Z Z Zq Z Q2c Q27 tZ_9 Z (zs:=[.string ((⟨#[]⟩ : ByteArray)),.string ((⟨#[]⟩ : ByteArray)),.string ((⟨#[]⟩ : ByteArray)),.string ((⟨#[]⟩ : ByteArray)),.string ((⟨#[]⟩ : ByteArray)),.string ((⟨#[]⟩ : ByteArray))]) (by kernel_rfl) Z (out:=V6 ..) Z (fun z=>(Qy Z Z Z Zq Z Q2c Q27 tZ_9 Z (zs:=[.string ((⟨#[]⟩ : ByteArray)),.string ((⟨#[]⟩ : ByteArray))]) (by kernel_rfl) Z (out:=[_,_]) Z (fun a0=>(Qy Z Z Z Zq Z Q2c Q27 tZ_9 Z (zs:=[.string ((⟨#[]⟩ : ByteArray))]) (by kernel_rfl) Z (out:=[_]) Z (fun a6=>(Qy Z Z Z Zq Z tE_269 Q6Q tZ_204 Z (zs:=[V1,V1,V1,V1,V1]) (by kernel_rfl) Z (out:=V5 ..) Z (fun aS=>(wP Z (Q3 (Q4 ?_)))))))))))))))))))
 refine Q2 [6,5,1] (S':=V3 ..) Z (Q5 ?_)
 obtain ⟨aN,hm⟩:=Qu hm
 obtain ⟨aF,aO,hm⟩:=Q6 hm
 obtain ⟨aV,aP,hm⟩:=Q6 hm
 refine Q18 [0,1,2,3] Z Z (fun hok=>(Q8 hok 0 Z Z Z Zq Z Z Z Qao (Qm hok 1 6 1 Z Z Z Zq Z Z Z Z (cs:=[_]) Z Q27 Q2E Z Z (xP hok 2 Z (xP hok 3 Z (xS hok 4 Z (Q2f (sz:=1) (m:=1) Q1y ([(⟨#[111,114]⟩ : ByteArray)]) 5 Z (fun F w hφ=>⟨[.string ((⟨#[111,114]⟩ : ByteArray))],[],Z,Z,⟨(),Z,Qr⟩,Z⟩) Z (by decide) (H':=V9 ..) Z (Q2f (sz:=1) (m:=1) Q1y ([(⟨#[97,110,100]⟩ : ByteArray)]) 4 Z (fun F w hφ=>⟨[.string ((⟨#[97,110,100]⟩ : ByteArray))],[],Z,Z,⟨(),Z,Qr⟩,Z⟩) Z (by decide) (H':=V9 ..) Z (Q2f (sz:=1) (m:=6) Q1y ([(⟨#[61]⟩ : ByteArray),(⟨#[33,61]⟩ : ByteArray),(⟨#[60]⟩ : ByteArray),(⟨#[60,61]⟩ : ByteArray),(⟨#[62]⟩ : ByteArray),(⟨#[62,61]⟩ : ByteArray)]) 3 Z (fun F w hφ=>⟨[.string ((⟨#[61]⟩ : ByteArray))],[.string ((⟨#[33,61]⟩ : ByteArray)),.string ((⟨#[60]⟩ : ByteArray)),.string ((⟨#[60,61]⟩ : ByteArray)),.string ((⟨#[62]⟩ : ByteArray)),.string ((⟨#[62,61]⟩ : ByteArray))],Z,Z,⟨(),Z,Qr⟩,⟨[.string ((⟨#[33,61]⟩ : ByteArray))],[.string ((⟨#[60]⟩ : ByteArray)),.string ((⟨#[60,61]⟩ : ByteArray)),.string ((⟨#[62]⟩ : ByteArray)),.string ((⟨#[62,61]⟩ : ByteArray))],Z,Z,⟨(),Z,Qr⟩,⟨[.string ((⟨#[60]⟩ : ByteArray))],[.string ((⟨#[60,61]⟩ : ByteArray)),.string ((⟨#[62]⟩ : ByteArray)),.string ((⟨#[62,61]⟩ : ByteArray))],Z,Z,⟨(),Z,Qr⟩,⟨[.string ((⟨#[60,61]⟩ : ByteArray))],[.string ((⟨#[62]⟩ : ByteArray)),.string ((⟨#[62,61]⟩ : ByteArray))],Z,Z,⟨(),Z,Qr⟩,⟨[.string ((⟨#[62]⟩ : ByteArray))],[.string ((⟨#[62,61]⟩ : ByteArray))],Z,Z,⟨(),Z,Qr⟩,⟨[.string ((⟨#[62,61]⟩ : ByteArray))],[],Z,Z,⟨(),Z,Qr⟩,Z⟩⟩⟩⟩⟩⟩) Z (by decide) (H':=V9 ..) Z (Q2f (sz:=1) (m:=2) Q1y ([(⟨#[43]⟩ : ByteArray),(⟨#[45]⟩ : ByteArray)]) 2 Z (fun F w hφ=>⟨[.string ((⟨#[43]⟩ : ByteArray))],[.string ((⟨#[45]⟩ : ByteArray))],Z,Z,⟨(),Z,Qr⟩,⟨[.string ((⟨#[45]⟩ : ByteArray))],[],Z,Z,⟨(),Z,Qr⟩,Z⟩⟩) Z (by decide) (H':=V9 ..) Z (Q2f (sz:=1) (m:=1) Q1y ([(⟨#[42]⟩ : ByteArray)]) 1 Z (fun F w hφ=>⟨[.string ((⟨#[42]⟩ : ByteArray))],[],Z,Z,⟨(),Z,Qr⟩,Z⟩) Z (by decide) (H':=V9 ..) Z (Q2f (sz:=1) (m:=5) Q5b.pair ([([(⟨#[111,114]⟩ : ByteArray)],(some (⟨q,0,none⟩ : Addr),1)),([(⟨#[97,110,100]⟩ : ByteArray)],(some (⟨s,0,none⟩ : Addr),1)),([(⟨#[61]⟩ : ByteArray),(⟨#[33,61]⟩ : ByteArray),(⟨#[60]⟩ : ByteArray),(⟨#[60,61]⟩ : ByteArray),(⟨#[62]⟩ : ByteArray),(⟨#[62,61]⟩ : ByteArray)],(some (⟨z,0,none⟩ : Addr),6)),([(⟨#[43]⟩ : ByteArray),(⟨#[45]⟩ : ByteArray)],(some (⟨a0,0,none⟩ : Addr),2)),([(⟨#[42]⟩ : ByteArray)],(some (⟨a6,0,none⟩ : Addr),1))]) 0 Z (fun F w hφ=>⟨[.slice (some ⟨q,0,none⟩) 1 1],[.slice (some ⟨s,0,none⟩) 1 1,.slice (some ⟨z,0,none⟩) 6 6,.slice (some ⟨a0,0,none⟩) 2 2,.slice (some ⟨a6,0,none⟩) 1 1],Z,Z,Z,⟨[.slice (some ⟨s,0,none⟩) 1 1],[.slice (some ⟨z,0,none⟩) 6 6,.slice (some ⟨a0,0,none⟩) 2 2,.slice (some ⟨a6,0,none⟩) 1 1],Z,Z,Z,⟨[.slice (some ⟨z,0,none⟩) 6 6],[.slice (some ⟨a0,0,none⟩) 2 2,.slice (some ⟨a6,0,none⟩) 1 1],Z,Z,Z,⟨[.slice (some ⟨a0,0,none⟩) 2 2],[.slice (some ⟨a6,0,none⟩) 1 1],Z,Z,Z,⟨[.slice (some ⟨a6,0,none⟩) 1 1],[],Z,Z,Z,Z⟩⟩⟩⟩⟩) Z (by decide) (H':=V9 ..) Z (Q3A [Q2L Q5b [] none,_,_,_,_,_,_,_,_,_] (fun _ h=>h.bagNil Q5b) (Q4z [6,0,1,2,3,4,5,7,8,9] Z (H':=V10 ..) Z ?_))))))))))))))
 refine Q3A [Q2L Q5b ([([(⟨#[111,114]⟩ : ByteArray)],(some (⟨q,0,none⟩ : Addr),1))]) none,_,_,_,_,_,_,_,_] (fun _ h=>Q1j.bagPush (T:=Q5b) (x:=[(⟨#[111,114]⟩ : ByteArray)]) (r:=(some (⟨q,0,none⟩ : Addr),1)) (zs:=[]) (H:=V9 ..) h 0 Z) (Q4z [5,0,1,2,3,4,6,7,8] Z (H':=V9 ..) Z (Q3A [Q2L Q5b (([([(⟨#[111,114]⟩ : ByteArray)],(some (⟨q,0,none⟩ : Addr),1))]) ++ [([(⟨#[97,110,100]⟩ : ByteArray)],(some (⟨s,0,none⟩ : Addr),1))]) none,_,_,_,_,_,_,_] (fun _ h=>Q1j.bagPush (T:=Q5b) (x:=[(⟨#[97,110,100]⟩ : ByteArray)]) (r:=(some (⟨s,0,none⟩ : Addr),1)) (zs:=[([(⟨#[111,114]⟩ : ByteArray)],(some (⟨q,0,none⟩ : Addr),1))]) (H:=V8 ..) h 0 Z) (Q4z [4,0,1,2,3,5,6,7] Z (H':=V8 ..) Z (Q3A [Q2L Q5b ((([([(⟨#[111,114]⟩ : ByteArray)],(some (⟨q,0,none⟩ : Addr),1))]) ++ [([(⟨#[97,110,100]⟩ : ByteArray)],(some (⟨s,0,none⟩ : Addr),1))]) ++ [([(⟨#[61]⟩ : ByteArray),(⟨#[33,61]⟩ : ByteArray),(⟨#[60]⟩ : ByteArray),(⟨#[60,61]⟩ : ByteArray),(⟨#[62]⟩ : ByteArray),(⟨#[62,61]⟩ : ByteArray)],(some (⟨z,0,none⟩ : Addr),6))]) none,_,_,_,_,_,_] (fun _ h=>Q1j.bagPush (T:=Q5b) (x:=[(⟨#[61]⟩ : ByteArray),(⟨#[33,61]⟩ : ByteArray),(⟨#[60]⟩ : ByteArray),(⟨#[60,61]⟩ : ByteArray),(⟨#[62]⟩ : ByteArray),(⟨#[62,61]⟩ : ByteArray)]) (r:=(some (⟨z,0,none⟩ : Addr),6)) (zs:=([([(⟨#[111,114]⟩ : ByteArray)],(some (⟨q,0,none⟩ : Addr),1))]) ++ [([(⟨#[97,110,100]⟩ : ByteArray)],(some (⟨s,0,none⟩ : Addr),1))]) (H:=V7 ..) h 0 Z) (Q4z [3,0,1,2,4,5,6] Z (H':=V7 ..) Z (Q3A [Q2L Q5b (((([([(⟨#[111,114]⟩ : ByteArray)],(some (⟨q,0,none⟩ : Addr),1))]) ++ [([(⟨#[97,110,100]⟩ : ByteArray)],(some (⟨s,0,none⟩ : Addr),1))]) ++ [([(⟨#[61]⟩ : ByteArray),(⟨#[33,61]⟩ : ByteArray),(⟨#[60]⟩ : ByteArray),(⟨#[60,61]⟩ : ByteArray),(⟨#[62]⟩ : ByteArray),(⟨#[62,61]⟩ : ByteArray)],(some (⟨z,0,none⟩ : Addr),6))]) ++ [([(⟨#[43]⟩ : ByteArray),(⟨#[45]⟩ : ByteArray)],(some (⟨a0,0,none⟩ : Addr),2))]) none,_,_,_,_,_] (fun _ h=>Q1j.bagPush (T:=Q5b) (x:=[(⟨#[43]⟩ : ByteArray),(⟨#[45]⟩ : ByteArray)]) (r:=(some (⟨a0,0,none⟩ : Addr),2)) (zs:=(([([(⟨#[111,114]⟩ : ByteArray)],(some (⟨q,0,none⟩ : Addr),1))]) ++ [([(⟨#[97,110,100]⟩ : ByteArray)],(some (⟨s,0,none⟩ : Addr),1))]) ++ [([(⟨#[61]⟩ : ByteArray),(⟨#[33,61]⟩ : ByteArray),(⟨#[60]⟩ : ByteArray),(⟨#[60,61]⟩ : ByteArray),(⟨#[62]⟩ : ByteArray),(⟨#[62,61]⟩ : ByteArray)],(some (⟨z,0,none⟩ : Addr),6))]) (H:=V6 ..) h 0 Z) (Q4z [2,0,1,3,4,5] Z (H':=V6 ..) Z (Q3A [Q2L Q5b ((((([([(⟨#[111,114]⟩ : ByteArray)],(some (⟨q,0,none⟩ : Addr),1))]) ++ [([(⟨#[97,110,100]⟩ : ByteArray)],(some (⟨s,0,none⟩ : Addr),1))]) ++ [([(⟨#[61]⟩ : ByteArray),(⟨#[33,61]⟩ : ByteArray),(⟨#[60]⟩ : ByteArray),(⟨#[60,61]⟩ : ByteArray),(⟨#[62]⟩ : ByteArray),(⟨#[62,61]⟩ : ByteArray)],(some (⟨z,0,none⟩ : Addr),6))]) ++ [([(⟨#[43]⟩ : ByteArray),(⟨#[45]⟩ : ByteArray)],(some (⟨a0,0,none⟩ : Addr),2))]) ++ [([(⟨#[42]⟩ : ByteArray)],(some (⟨a6,0,none⟩ : Addr),1))]) none,_,_,_,_] (fun _ h=>Q1j.bagPush (T:=Q5b) (x:=[(⟨#[42]⟩ : ByteArray)]) (r:=(some (⟨a6,0,none⟩ : Addr),1)) (zs:=((([([(⟨#[111,114]⟩ : ByteArray)],(some (⟨q,0,none⟩ : Addr),1))]) ++ [([(⟨#[97,110,100]⟩ : ByteArray)],(some (⟨s,0,none⟩ : Addr),1))]) ++ [([(⟨#[61]⟩ : ByteArray),(⟨#[33,61]⟩ : ByteArray),(⟨#[60]⟩ : ByteArray),(⟨#[60,61]⟩ : ByteArray),(⟨#[62]⟩ : ByteArray),(⟨#[62,61]⟩ : ByteArray)],(some (⟨z,0,none⟩ : Addr),6))]) ++ [([(⟨#[43]⟩ : ByteArray),(⟨#[45]⟩ : ByteArray)],(some (⟨a0,0,none⟩ : Addr),2))]) (H:=V5 ..) h 0 Z) (Q8V 0 (φ':=Q2L Q5b ([([(⟨#[111,114]⟩ : ByteArray)],(some (⟨q,0,none⟩ : Addr),1)),([(⟨#[97,110,100]⟩ : ByteArray)],(some (⟨s,0,none⟩ : Addr),1)),([(⟨#[61]⟩ : ByteArray),(⟨#[33,61]⟩ : ByteArray),(⟨#[60]⟩ : ByteArray),(⟨#[60,61]⟩ : ByteArray),(⟨#[62]⟩ : ByteArray),(⟨#[62,61]⟩ : ByteArray)],(some (⟨z,0,none⟩ : Addr),6)),([(⟨#[43]⟩ : ByteArray),(⟨#[45]⟩ : ByteArray)],(some (⟨a0,0,none⟩ : Addr),2)),([(⟨#[42]⟩ : ByteArray)],(some (⟨a6,0,none⟩ : Addr),1))]) none) Z Z (H':=V5 ..) Z (Q3A [Q2d Q5b 204 1 (.slice (some ⟨aS,0,none⟩) 5 5) ([[(⟨#[111,114]⟩ : ByteArray)],[(⟨#[97,110,100]⟩ : ByteArray)],[(⟨#[61]⟩ : ByteArray),(⟨#[33,61]⟩ : ByteArray),(⟨#[60]⟩ : ByteArray),(⟨#[60,61]⟩ : ByteArray),(⟨#[62]⟩ : ByteArray),(⟨#[62,61]⟩ : ByteArray)],[(⟨#[43]⟩ : ByteArray),(⟨#[45]⟩ : ByteArray)],[(⟨#[42]⟩ : ByteArray)]]),_,_,_] (fun _ h=>h.treeIn 1 0 Z Z Z Z) (Qb4 0 Z (fun aQ aI=>?_))))))))))))
 obtain ⟨a5,aA⟩:=zip_at aI aO
 refine Q6X 1 a3.toNat Z Z Z Zq Z Z Z Z (Q1G aN) (Q2t aA) tE_269 Q6Q (Q3 (QV [] [2] Z Z (xS hok 5 Z (Q3A [.own 9 1 Q1y (.slice a5.1 aF.length a5.2) aF,Q2L Q5b aQ (some a3.toNat),_,_,_,_] (fun _ h=>h.bagOpen 0 a3.toNat Z aA) (Q1T pair_opens 2 a3.toNat 0 Z Z Z Zq Z Z Z aA Q6Q Q9q (v:=fun _=>.slice a5.1 aF.length a5.2) (fun _=>Z) (fun _=>Z) (fun _ _=>(Q3 (QV [] [3] Z Z (xS hok 6 Z (Q3g [] [0,1,2,3,4,5] [0] Z Z Z Zq Z Z fn_234 Z (Qax N aH a5.1 a5.2 aF _ aP) (fun F w hφ hh=>(QS (Q1K (hh _ (Q10 (k:=0) Z))) Qr)) (fun _ _ _ hR=>by obtain ⟨rfl,rfl,rfl⟩:=hR; exact ⟨Z,(fun _ h=>Q2A h)⟩) Z Z (H':=V6 ..) Z ?_))))))))))
 rintro _ _ _ ⟨rfl,rfl,rfl⟩
 refine Q3 (QV [] [] Z Z (xS hok 7 Z (wP Z (Q3 (QV [] [] Z Z (Q11 hok Z (Q4 (Q2 [4] (S':=[_]) Z (Qb ?_)))))))))
 have hE:=(Zi hm).symm
 replace hE:=hE.symm
 subst hE
 refine Ql (Hr:=[_,_]) [4,5] Tryz.results222 (Qc Z) ⟨Z,Z,Z⟩ (asK [] Z) Z Z (.inl Z)
end Go.Proofs.YtbgodclhmgmcgaaGreatDoor
