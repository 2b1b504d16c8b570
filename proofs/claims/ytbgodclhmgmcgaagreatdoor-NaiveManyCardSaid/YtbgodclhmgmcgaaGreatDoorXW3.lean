import Derived.Test.YtbgodclhmgmcgaaGreatDoorXW2
namespace Go.Proofs.YtbgodclhmgmcgaaGreatDoor
open Go.RowKit
set_option maxRecDepth 100000
set_option maxHeartbeats 4000000
theorem Q3e (N:Nat) (s:ByteArray) (o0:Bool) (hm:Q2B N s = some o0):Q1o Tryz.prog 223 [.string s] [] [] (fun v Φr Hr=>v = .bool o0 ∧ Φr = [] ∧ Hr = []):=by
 unfold Q2B at hm
 refine QD Tryz.func223 Z Tryz.ntmps223 Z (S:=[_]) Z (fun C=>(Q5 (Q1 (wP Z (Q3 (Q4 (Q2 [0] (S':=[_]) Z (Q5 (Q1 (wP Z ?_))))))))))
 obtain ⟨v4,z,hm⟩:=Q6 hm
 refine wC [] [] Z fn_70 Z (Q5B N s _ z) (asK [] Z) Z (H':=[]) Z ?_
 rintro _ _ _ ⟨rfl,rfl,rfl⟩
 refine wP Z ?_
 refine Qt (d:=5) (S':=V3 ..) Z Z (fun j=>?_) (fun j=>?_)
 replace hm:=QA hm j
 refine wP Z ?_
 obtain ⟨_,a1,hm⟩:=Q6 hm
 try dsimp only at hm
 refine wC [] [] Z fn_220 Z (Q7B N  a1) (asK [] Z) Z (H':=[]) Z ?_
 rintro _ _ _ ⟨q,rfl,rfl,rfl⟩
 refine Q2f (sz:=1) (m:=11) Q1y ([(⟨#[102,97,99,116]⟩ : ByteArray),(⟨#[114,117,108,101]⟩ : ByteArray),(⟨#[115,97,108,105,101,110,99,101]⟩ : ByteArray),(⟨#[110,111,116]⟩ : ByteArray),(⟨#[116,101,115,116]⟩ : ByteArray),(⟨#[97,115,115,101,114,116]⟩ : ByteArray),(⟨#[114,101,116,114,97,99,116]⟩ : ByteArray),(⟨#[115,97,121]⟩ : ByteArray),(⟨#[104,97,108,116]⟩ : ByteArray),(⟨#[97,110,100]⟩ : ByteArray),(⟨#[111,114]⟩ : ByteArray)]) 0 Z (fun F w hφ=>⟨[.string ((⟨#[102,97,99,116]⟩ : ByteArray))],[.string ((⟨#[114,117,108,101]⟩ : ByteArray)),.string ((⟨#[115,97,108,105,101,110,99,101]⟩ : ByteArray)),.string ((⟨#[110,111,116]⟩ : ByteArray)),.string ((⟨#[116,101,115,116]⟩ : ByteArray)),.string ((⟨#[97,115,115,101,114,116]⟩ : ByteArray)),.string ((⟨#[114,101,116,114,97,99,116]⟩ : ByteArray)),.string ((⟨#[115,97,121]⟩ : ByteArray)),.string ((⟨#[104,97,108,116]⟩ : ByteArray)),.string ((⟨#[97,110,100]⟩ : ByteArray)),.string ((⟨#[111,114]⟩ : ByteArray))],Z,Z,⟨(),Z,Qr⟩,⟨[.string ((⟨#[114,117,108,101]⟩ : ByteArray))],[.string ((⟨#[115,97,108,105,101,110,99,101]⟩ : ByteArray)),.string ((⟨#[110,111,116]⟩ : ByteArray)),.string ((⟨#[116,101,115,116]⟩ : ByteArray)),.string ((⟨#[97,115,115,101,114,116]⟩ : ByteArray)),.string ((⟨#[114,101,116,114,97,99,116]⟩ : ByteArray)),.string ((⟨#[115,97,121]⟩ : ByteArray)),.string ((⟨#[104,97,108,116]⟩ : ByteArray)),.string ((⟨#[97,110,100]⟩ : ByteArray)),.string ((⟨#[111,114]⟩ : ByteArray))],Z,Z,⟨(),Z,Qr⟩,⟨[.string ((⟨#[115,97,108,105,101,110,99,101]⟩ : ByteArray))],[.string ((⟨#[110,111,116]⟩ : ByteArray)),.string ((⟨#[116,101,115,116]⟩ : ByteArray)),.string ((⟨#[97,115,115,101,114,116]⟩ : ByteArray)),.string ((⟨#[114,101,116,114,97,99,116]⟩ : ByteArray)),.string ((⟨#[115,97,121]⟩ : ByteArray)),.string ((⟨#[104,97,108,116]⟩ : ByteArray)),.string ((⟨#[97,110,100]⟩ : ByteArray)),.string ((⟨#[111,114]⟩ : ByteArray))],Z,Z,⟨(),Z,Qr⟩,⟨[.string ((⟨#[110,111,116]⟩ : ByteArray))],[.string ((⟨#[116,101,115,116]⟩ : ByteArray)),.string ((⟨#[97,115,115,101,114,116]⟩ : ByteArray)),.string ((⟨#[114,101,116,114,97,99,116]⟩ : ByteArray)),.string ((⟨#[115,97,121]⟩ : ByteArray)),.string ((⟨#[104,97,108,116]⟩ : ByteArray)),.string ((⟨#[97,110,100]⟩ : ByteArray)),.string ((⟨#[111,114]⟩ : ByteArray))],Z,Z,⟨(),Z,Qr⟩,⟨[.string ((⟨#[116,101,115,116]⟩ : ByteArray))],[.string ((⟨#[97,115,115,101,114,116]⟩ : ByteArray)),.string ((⟨#[114,101,116,114,97,99,116]⟩ : ByteArray)),.string ((⟨#[115,97,121]⟩ : ByteArray)),.string ((⟨#[104,97,108,116]⟩ : ByteArray)),.string ((⟨#[97,110,100]⟩ : ByteArray)),.string ((⟨#[111,114]⟩ : ByteArray))],Z,Z,⟨(),Z,Qr⟩,⟨[.string ((⟨#[97,115,115,101,114,116]⟩ : ByteArray))],[.string ((⟨#[114,101,116,114,97,99,116]⟩ : ByteArray)),.string ((⟨#[115,97,121]⟩ : ByteArray)),.string ((⟨#[104,97,108,116]⟩ : ByteArray)),.string ((⟨#[97,110,100]⟩ : ByteArray)),.string ((⟨#[111,114]⟩ : ByteArray))],Z,Z,⟨(),Z,Qr⟩,⟨[.string ((⟨#[114,101,116,114,97,99,116]⟩ : ByteArray))],[.string ((⟨#[115,97,121]⟩ : ByteArray)),.string ((⟨#[104,97,108,116]⟩ : ByteArray)),.string ((⟨#[97,110,100]⟩ : ByteArray)),.string ((⟨#[111,114]⟩ : ByteArray))],Z,Z,⟨(),Z,Qr⟩,⟨[.string ((⟨#[115,97,121]⟩ : ByteArray))],[.string ((⟨#[104,97,108,116]⟩ : ByteArray)),.string ((⟨#[97,110,100]⟩ : ByteArray)),.string ((⟨#[111,114]⟩ : ByteArray))],Z,Z,⟨(),Z,Qr⟩,⟨[.string ((⟨#[104,97,108,116]⟩ : ByteArray))],[.string ((⟨#[97,110,100]⟩ : ByteArray)),.string ((⟨#[111,114]⟩ : ByteArray))],Z,Z,⟨(),Z,Qr⟩,⟨[.string ((⟨#[97,110,100]⟩ : ByteArray))],[.string ((⟨#[111,114]⟩ : ByteArray))],Z,Z,⟨(),Z,Qr⟩,⟨[.string ((⟨#[111,114]⟩ : ByteArray))],[],Z,Z,⟨(),Z,Qr⟩,Z⟩⟩⟩⟩⟩⟩⟩⟩⟩⟩⟩) Z (by decide) (H':=[_]) Z ?_
 obtain ⟨v8,a5,hm⟩:=Q6 hm
 refine Q3g [] [0] [0] Z Z Z Zq Z Z fn_235 Z (Q7C N s (some ⟨q,0,none⟩) 11 [(⟨#[102,97,99,116]⟩ : ByteArray),(⟨#[114,117,108,101]⟩ : ByteArray),(⟨#[115,97,108,105,101,110,99,101]⟩ : ByteArray),(⟨#[110,111,116]⟩ : ByteArray),(⟨#[116,101,115,116]⟩ : ByteArray),(⟨#[97,115,115,101,114,116]⟩ : ByteArray),(⟨#[114,101,116,114,97,99,116]⟩ : ByteArray),(⟨#[115,97,121]⟩ : ByteArray),(⟨#[104,97,108,116]⟩ : ByteArray),(⟨#[97,110,100]⟩ : ByteArray),(⟨#[111,114]⟩ : ByteArray)] _ a5) (fun F w hφ hh=>(QS (Q1K (hh _ (Q10 (k:=0) Z))) Qr)) (fun _ _ _ hR=>by obtain ⟨rfl,rfl,rfl⟩:=hR; exact ⟨Z,(fun _ h=>Q2A h)⟩) Z Z (H':=[_]) Z ?_
 rintro _ _ _ ⟨rfl,rfl,rfl⟩
 refine wP Z (wP Z (wP Z (Q3 (Q4 (Q2 [2] (S':=[_]) Z (Qb ?_))))))
 have hE:=(Zi hm).symm
 replace hE:=hE.symm
 subst hE
 refine Ql (Hr:=[]) [] Tryz.results223 (Qc Z) ⟨Z,Z,Z⟩ (asK [] Z) Z Z (.inl Z)
 replace hm:=Qz hm j
 refine wO Z (wO Z (wO Z (wO Z (wP Z (wP Z (Q3 (Q4 (Q2 [2] (S':=[_]) Z (Qb ?_)))))))))
 have hE:=(Zi hm).symm
 replace hE:=hE.symm
 subst hE
 refine Ql (Hr:=[]) [] Tryz.results223 (Qc Z) ⟨Z,Z,Z⟩ (asK [] Z) Z Z (.inl Z)
theorem Qb0 (N:Nat) (a0:Int) (o0:Bool) (hm:Q6G N a0 = some o0):Q1o Tryz.prog 236 [.int .u8 a0] [] [] (fun v Φr Hr=>v = .bool o0 ∧ Φr = [] ∧ Hr = []):=by
 unfold Q6G at hm
 refine QD Tryz.func236 Z Tryz.ntmps236 Z (S:=[_]) Z (fun C=>(Q5 (Q1 (wP Z (Q3 (Q4 (Q2 [0] (S':=[_]) Z (Q5 (Q1 (wP Z (wP Z (wP Z ?_))))))))))))
 refine Qt (d:=5) (S':=V3 ..) Z Z (fun hs5=>?_) (fun hs5=>?_)
 replace hm:=QA hm hs5
 refine wO Z (wO Z (wP Z (wP Z (wO Z (wO Z (wP Z (wP Z (Q3 (Q4 (Q2 [2] (S':=[_]) Z (Qb ?_)))))))))))
 have hE:=(Zi hm).symm
 replace hE:=hE.symm
 subst hE
 refine Ql (Hr:=[]) [] Tryz.results236 (Qc Z) ⟨Z,Z,Z⟩ (asK [] Z) Z Z (.inl Z)
 replace hm:=Qz hm hs5
 refine wP Z (wP Z (wP Z (wP Z ?_)))
 refine Qt (d:=9) (S':=V7 ..) Z Z (fun hs9=>?_) (fun hs9=>?_)
 replace hm:=QA hm hs9
 refine wO Z (wO Z (wP Z (wP Z (Q3 (Q4 (Q2 [2] (S':=[_]) Z (Qb ?_)))))))
 have hE:=(Zi hm).symm
 replace hE:=hE.symm
 subst hE
 refine Ql (Hr:=[]) [] Tryz.results236 (Qc Z) ⟨Z,Z,Z⟩ (asK [] Z) Z Z (.inl Z)
 replace hm:=Qz hm hs9
 refine wP Z (wP Z (wP Z (wP Z (Q3 (Q4 (Q2 [2] (S':=[_]) Z (Qb ?_)))))))
 have hE:=(Zi hm).symm
 replace hE:=hE.symm
 subst hE
 refine Ql (Hr:=[]) [] Tryz.results236 (Qc Z) ⟨Z,Z,Z⟩ (asK [] Z) Z Z (.inl Z)
theorem Qa8 (N:Nat) (a0:ByteArray) (o0:Bool) (hm:Q5W N a0 = some o0):Q1o Tryz.prog 226 [.string a0] [] [] (fun v Φr Hr=>v = .bool o0 ∧ Φr = [] ∧ Hr = []):=by
 unfold Q5W at hm
 refine QD Tryz.func226 Z Tryz.ntmps226 Z (S:=[_]) Z (fun C=>(Q5 (Q1 (wP Z (Q3 (Q4 (Q2 [0] (S':=[_]) Z (Q5 ?_))))))))
 obtain ⟨a5,hm,hLj_1⟩:=Q6 hm
 unfold Q6Z at hm
 refine QI (σ:=ByteArray) (fun q=>a5 = q) (fun q=>[(0,.string q)]) (fun q=>[]) (fun q=>[]) ?_ ?_
 refine Q5 ?_
 obtain ⟨a6,hm,hLj_2⟩:=Q6 hm
 refine QI (σ:=Bool) (fun j=>a6 = j) (fun j=>[(0,.string a0),(11,.bool j)]) (fun j=>[]) (fun j=>[]) ?_ ?_
 refine Q1 (wP Z (wP Z (wP Z ?_)))
 refine Qt (d:=7) (S':=V3 ..) Z Z (fun z=>?_) (fun z=>?_)
 replace hm:=QA hm z
 refine wP Z ?_
 obtain ⟨x9,aA,hm⟩:=Q6 hm
 refine Q1B Z Z Z Zq (Q3P 0 Z Z Z Z aA Q64) (wP Z (QH (d:=10) (v':=.bool (x9.toNat == 45)) (S':=V6 ..) Z Z (Q3c (a:=x9.toNat) (b:=45)) (wP Z (Q3 ?_))))
 have hE:=(Zi hm).symm
 refine Q9 (x9.toNat == 45) hE [0,11] Z (asK [] Z) Z
 replace hm:=Qz hm z
 refine wO Z (wO Z (wO Z (wP Z (Q3 ?_))))
 have hE:=(Zi hm).symm
 refine Q9 false hE [0,11] Z (asK [] Z) Z
 rintro j hE
 try dsimp only
 have hm:=hLj_2
 rw [hE] at hm
 refine Qj Z (fun s=>?_) (fun s=>?_)
 replace hm:=QA hm s
 refine Q2 [0] (S':=[_]) Z (Q1 (wP Z ?_))
 obtain ⟨a7,hm⟩:=Qu hm
 refine Q1B Z Z Z Zq (rk_strFrom 1 Z Z Z Z a7 Q64) (Q1b (S':=[_,_]) Z Z Z Z Z (Q3 ?_))
 have hE:=(Zi hm).symm
 refine Q9 (a0.extract 1 a0.size) hE [0] Z (asK [] Z) Z
 replace hm:=Qz hm s
 refine Q2 [0] (S':=[_]) Z (Qq ?_)
 have hE:=(Zi hm).symm
 refine Q9 a0 hE [0] Z (asK [] Z) Z
 rintro q hE
 try dsimp only
 have hm:=hLj_1
 rw [hE] at hm
 refine Q5 (Q1 (wP Z ?_))
 obtain ⟨⟨aB,aC⟩,a8,hm⟩:=Q6 hm
 try dsimp only at hm
 refine wC [] [] Z fn_202 Z (Q2O N q _ _ a8) (asK [] Z) Z (H':=[]) Z ?_
 rintro _ _ _ ⟨rfl,rfl,rfl⟩
 refine wP Z (wP Z (wP Z (wP Z (wP Z (Q3 (Q4 (Q2 [4] (S':=[_]) Z (Q5 (Q1 (wP Z (wP Z (Q3 (Q4 ?_)))))))))))))
 refine Q2 [2] (S':=[_]) Z (Qb ?_)
 have hE:=(Zi hm).symm
 replace hE:=hE.symm
 subst hE
 refine Ql (Hr:=[]) [] Tryz.results226 (Qc Z) ⟨Z,Z,Z⟩ (asK [] Z) Z Z (.inl Z)
theorem Q7Z (N:Nat) (j:ByteArray) (s:Bool) (hm:Q5e N j = some s):Q1o Tryz.prog 227 [.string j] [] [] (fun v Φr Hr=>v = .bool s ∧ Φr = [] ∧ Hr = []):=by
 unfold Q5e at hm
 refine QD Tryz.func227 Z Tryz.ntmps227 Z (S:=[_]) Z (fun C=>(Q5 (Q1 (wP Z (Q3 (Q4 (Q2 [0] (S':=[_]) Z (Q5 (Q1 (wP Z (Qy Z Z Z Zq Z Q2c Q27 tZ_9 Z (zs:=[.string ((⟨#[]⟩ : ByteArray)),.string ((⟨#[]⟩ : ByteArray)),.string ((⟨#[]⟩ : ByteArray)),.string ((⟨#[]⟩ : ByteArray)),.string ((⟨#[]⟩ : ByteArray)),.string ((⟨#[]⟩ : ByteArray)),.string ((⟨#[]⟩ : ByteArray)),.string ((⟨#[]⟩ : ByteArray)),.string ((⟨#[]⟩ : ByteArray)),.string ((⟨#[]⟩ : ByteArray)),.string ((⟨#[]⟩ : ByteArray))]) (by kernel_rfl) Z (out:=[.string ((⟨#[111,114]⟩ : ByteArray)),.string ((⟨#[97,110,100]⟩ : ByteArray)),.string ((⟨#[61]⟩ : ByteArray)),.string ((⟨#[33,61]⟩ : ByteArray)),.string ((⟨#[60]⟩ : ByteArray)),.string ((⟨#[60,61]⟩ : ByteArray)),.string ((⟨#[62]⟩ : ByteArray)),.string ((⟨#[62,61]⟩ : ByteArray)),.string ((⟨#[43]⟩ : ByteArray)),.string ((⟨#[45]⟩ : ByteArray)),.string ((⟨#[42]⟩ : ByteArray))]) (by kernel_rfl) (fun z=>(Q2f (sz:=1) (m:=11) Q1y ([(⟨#[111,114]⟩ : ByteArray),(⟨#[97,110,100]⟩ : ByteArray),(⟨#[61]⟩ : ByteArray),(⟨#[33,61]⟩ : ByteArray),(⟨#[60]⟩ : ByteArray),(⟨#[60,61]⟩ : ByteArray),(⟨#[62]⟩ : ByteArray),(⟨#[62,61]⟩ : ByteArray),(⟨#[43]⟩ : ByteArray),(⟨#[45]⟩ : ByteArray),(⟨#[42]⟩ : ByteArray)]) 0 Z (fun F w hφ=>⟨[.string ((⟨#[111,114]⟩ : ByteArray))],[.string ((⟨#[97,110,100]⟩ : ByteArray)),.string ((⟨#[61]⟩ : ByteArray)),.string ((⟨#[33,61]⟩ : ByteArray)),.string ((⟨#[60]⟩ : ByteArray)),.string ((⟨#[60,61]⟩ : ByteArray)),.string ((⟨#[62]⟩ : ByteArray)),.string ((⟨#[62,61]⟩ : ByteArray)),.string ((⟨#[43]⟩ : ByteArray)),.string ((⟨#[45]⟩ : ByteArray)),.string ((⟨#[42]⟩ : ByteArray))],Z,Z,⟨(),Z,Qr⟩,⟨[.string ((⟨#[97,110,100]⟩ : ByteArray))],[.string ((⟨#[61]⟩ : ByteArray)),.string ((⟨#[33,61]⟩ : ByteArray)),.string ((⟨#[60]⟩ : ByteArray)),.string ((⟨#[60,61]⟩ : ByteArray)),.string ((⟨#[62]⟩ : ByteArray)),.string ((⟨#[62,61]⟩ : ByteArray)),.string ((⟨#[43]⟩ : ByteArray)),.string ((⟨#[45]⟩ : ByteArray)),.string ((⟨#[42]⟩ : ByteArray))],Z,Z,⟨(),Z,Qr⟩,⟨[.string ((⟨#[61]⟩ : ByteArray))],[.string ((⟨#[33,61]⟩ : ByteArray)),.string ((⟨#[60]⟩ : ByteArray)),.string ((⟨#[60,61]⟩ : ByteArray)),.string ((⟨#[62]⟩ : ByteArray)),.string ((⟨#[62,61]⟩ : ByteArray)),.string ((⟨#[43]⟩ : ByteArray)),.string ((⟨#[45]⟩ : ByteArray)),.string ((⟨#[42]⟩ : ByteArray))],Z,Z,⟨(),Z,Qr⟩,⟨[.string ((⟨#[33,61]⟩ : ByteArray))],[.string ((⟨#[60]⟩ : ByteArray)),.string ((⟨#[60,61]⟩ : ByteArray)),.string ((⟨#[62]⟩ : ByteArray)),.string ((⟨#[62,61]⟩ : ByteArray)),.string ((⟨#[43]⟩ : ByteArray)),.string ((⟨#[45]⟩ : ByteArray)),.string ((⟨#[42]⟩ : ByteArray))],Z,Z,⟨(),Z,Qr⟩,⟨[.string ((⟨#[60]⟩ : ByteArray))],[.string ((⟨#[60,61]⟩ : ByteArray)),.string ((⟨#[62]⟩ : ByteArray)),.string ((⟨#[62,61]⟩ : ByteArray)),.string ((⟨#[43]⟩ : ByteArray)),.string ((⟨#[45]⟩ : ByteArray)),.string ((⟨#[42]⟩ : ByteArray))],Z,Z,⟨(),Z,Qr⟩,⟨[.string ((⟨#[60,61]⟩ : ByteArray))],[.string ((⟨#[62]⟩ : ByteArray)),.string ((⟨#[62,61]⟩ : ByteArray)),.string ((⟨#[43]⟩ : ByteArray)),.string ((⟨#[45]⟩ : ByteArray)),.string ((⟨#[42]⟩ : ByteArray))],Z,Z,⟨(),Z,Qr⟩,⟨[.string ((⟨#[62]⟩ : ByteArray))],[.string ((⟨#[62,61]⟩ : ByteArray)),.string ((⟨#[43]⟩ : ByteArray)),.string ((⟨#[45]⟩ : ByteArray)),.string ((⟨#[42]⟩ : ByteArray))],Z,Z,⟨(),Z,Qr⟩,⟨[.string ((⟨#[62,61]⟩ : ByteArray))],[.string ((⟨#[43]⟩ : ByteArray)),.string ((⟨#[45]⟩ : ByteArray)),.string ((⟨#[42]⟩ : ByteArray))],Z,Z,⟨(),Z,Qr⟩,⟨[.string ((⟨#[43]⟩ : ByteArray))],[.string ((⟨#[45]⟩ : ByteArray)),.string ((⟨#[42]⟩ : ByteArray))],Z,Z,⟨(),Z,Qr⟩,⟨[.string ((⟨#[45]⟩ : ByteArray))],[.string ((⟨#[42]⟩ : ByteArray))],Z,Z,⟨(),Z,Qr⟩,⟨[.string ((⟨#[42]⟩ : ByteArray))],[],Z,Z,⟨(),Z,Qr⟩,Z⟩⟩⟩⟩⟩⟩⟩⟩⟩⟩⟩) Z (by decide) (H':=[_]) Z ?_)))))))))))))
 obtain ⟨v5,q,hm⟩:=Q6 hm
 refine Q3g [] [0] [0] Z Z Z Zq Z Z fn_235 Z (Q7C N j (some ⟨z,0,none⟩) 11 [(⟨#[111,114]⟩ : ByteArray),(⟨#[97,110,100]⟩ : ByteArray),(⟨#[61]⟩ : ByteArray),(⟨#[33,61]⟩ : ByteArray),(⟨#[60]⟩ : ByteArray),(⟨#[60,61]⟩ : ByteArray),(⟨#[62]⟩ : ByteArray),(⟨#[62,61]⟩ : ByteArray),(⟨#[43]⟩ : ByteArray),(⟨#[45]⟩ : ByteArray),(⟨#[42]⟩ : ByteArray)] _ q) (fun F w hφ hh=>(QS (Q1K (hh _ (Q10 (k:=0) Z))) Qr)) (fun _ _ _ hR=>by obtain ⟨rfl,rfl,rfl⟩:=hR; exact ⟨Z,(fun _ h=>Q2A h)⟩) Z Z (H':=[_]) Z ?_
 rintro _ _ _ ⟨rfl,rfl,rfl⟩
 refine wP Z (Q3 (Q4 (Q2 [2] (S':=[_]) Z (Qb ?_))))
 have hE:=(Zi hm).symm
 replace hE:=hE.symm
 subst hE
 refine Ql (Hr:=[]) [] Tryz.results227 (Qc Z) ⟨Z,Z,Z⟩ (asK [] Z) Z Z (.inl Z)
theorem Q9H (N:Nat) (rc:(List Qa) → Int → Int → (List Int) → Option (Bool)) (ih : ∀ (z:OA) (a0:Nat) (l0:List Qa) (a1:Int) (a2:Int) (aB:OA) (aC:Nat) (l3:List Int) (o0:Bool),rc l0 a1 a2 l3 = some o0 → Q1o Tryz.prog 169 [.slice z l0.length a0,.int .i64 a1,.int .i64 a2,.slice aB l3.length aC] [.sli 5 Qi z a0 l0,.sli 1 R_u8 aB aC l3] [] (fun v Φr Hr=>v = .bool o0 ∧ Φr = [] ∧ Hr = [])) (z:OA) (a0:Nat) (l0:List Qa) (o0:Bool) (hm:Q5o N rc l0 = some o0):Q1o Tryz.prog 224 [.slice z l0.length a0] [.sli 5 Qi z a0 l0] [] (fun v Φr Hr=>v = .bool o0 ∧ Φr = [] ∧ Hr = []):=by
 unfold Q5o at hm
 refine QD Tryz.func224 Z Tryz.ntmps224 Z (S:=[_]) Z (fun C=>(Q5 (Q1 (wP Z (Q3 (Q4 (Q2 [0] (S':=[_]) Z (Q5 (Q1 (wP Z (Q3 (Q4 (Q5 ?_)))))))))))))
 obtain ⟨a9,hm,hLj_1⟩:=Q6 hm
 refine QI (σ:=Nat) (fun q=>a9 = q) (fun q=>[(0,.slice z l0.length a0),(3,.int .i64 ((q:Nat):Int))]) (fun q=>[.sli 5 Qi z a0 l0]) (fun q=>[]) ?_ ?_
 refine Qw (Q1E (σ:=Nat × Nat) (fun (a6,j)=>Q1M (Q4c N l0) a6 j = some a9) (fun (a6,j)=>a6) (fun (a6,j)=>[(3,.int .i64 ((j:Nat):Int)),(0,.slice z l0.length a0)]) (fun (a6,j)=>[.sli 5 Qi z a0 l0]) (fun (a6,j)=>[]) (N,0) hm [3,0] Z (asK [0] Z) Z (fun s_ hm=>?_))
 obtain ⟨a6,j⟩:=s_
 try dsimp only at hm ⊢
 obtain ⟨aU,aV,aE,hq,hLu1⟩:=Q1e hm
 clear hm
 subst aE
 replace hm:=hq
 clear hq
 unfold Q4c at hm
 try dsimp only at hm
 refine Q5 (Q5 ?_)
 obtain ⟨aF,hm,hLj_2⟩:=Q6 hm
 refine QI (σ:=Bool) (fun s=>aF = s) (fun s=>[(3,.int .i64 ((j:Nat):Int)),(0,.slice z l0.length a0),(15,.bool s)]) (fun s=>[.sli 5 Qi z a0 l0]) (fun s=>[]) ?_ ?_
 refine Q1 (wP Z (wP Z (wN Z Q1Q (wP Z (QH (d:=7) (v':=.bool (decide (j < l0.length))) (S':=V5 ..) Z Z (Q2z (a:=j) (b:=l0.length)) (wP Z ?_))))))
 refine Qt (d:=8) (S':=V6 ..) Z Z (fun aA=>?_) (fun aA=>?_)
 replace hm:=QA hm aA
 refine wP Z (wP Z ?_)
 obtain ⟨aN,aG,hm⟩:=Q6 hm
 refine Q1F 0 j Z Z Z Zq Z Z Z Z Z aG Q1Q QQ (fun aW aX aT aO=>(Q22 Q1t 1 Z (fun aY aH _=>?_)))
 subst aH
 refine wF Z Q2F (Q21 1 0 Z Z Z Zq Z Z Z (cs:=[_]) Z Q34 Q6O Z Z ?_)
 obtain ⟨aP,aI,hm⟩:=Q6 hm
 refine wC [] [] Z fn_236 Z (Qb0 N aN.kind _ aI) (asK [] Z) Z (H':=[]) Z ?_
 rintro _ _ _ ⟨rfl,rfl,rfl⟩
 refine wP Z (Q3 ?_)
 have hE:=(Zi hm).symm
 refine Q9 aP hE [3,0,15] Z (asK [3] Z) Z
 replace hm:=Qz hm aA
 refine wO Z (wO Z (wO Z (wO Z (wO Z (wO Z (wP Z (Q3 ?_)))))))
 have hE:=(Zi hm).symm
 refine Q9 false hE [3,0,15] Z (asK [0] Z) Z
 rintro s hE
 try dsimp only
 have hm:=hLj_2
 rw [hE] at hm
 refine Qj Z (fun a7=>?_) (fun a7=>?_)
 replace hm:=QA hm a7
 refine Q2 [3,0] (S':=[_,_]) Z (Qq (Q4 (Qw (Q1 (wP Z (wP Z ?_))))))
 obtain ⟨aJ,hm⟩:=Qu hm
 refine QH (d:=17) (v':=.int .i64 ((j + 1:Nat):Int)) (S':=V3 ..) Z Z (Q1J (a:=j) (b:=1) aJ) (Q1b (S':=V3 ..) Z Z Z Z Z (Q3 (Qh ?_)))
 have hE:=(Zi hm).symm
 replace hE:=QO hLu1 hE
 refine Q1a (_,j + 1) (Nat.lt_succ_self _) hE [3,0] Z (asK [0] Z) Z
 replace hm:=Qz hm a7
 refine Q2 [3,0] (S':=[_,_]) Z (Q1x (Qk (Qk (QJ ?_))))
 have hE:=(Zi hm).symm
 replace hE:=Qv hLu1 hE
 refine Q9 j hE [0,3] Z (asK [0] Z) Z
 rintro q hE
 try dsimp only
 have hm:=hLj_1
 rw [hE] at hm
 refine Q5 (Q1 (wP Z (wP Z (Qy Z Z Z Zq Z tE_254 Q34 tZ_156 Z (zs:=[.int .u8 0,.int .u8 0,.int .u8 0]) (by kernel_rfl) Z (out:=V3 ..) Z (fun aQ=>(Q2f (sz:=1) (m:=3) R_u8 ([5,6,7]) 0 Z (fun F w hφ=>⟨[.int .u8 5],[.int .u8 6,.int .u8 7],Z,Z,⟨(),Z,Qr⟩,⟨[.int .u8 6],[.int .u8 7],Z,Z,⟨(),Z,Qr⟩,⟨[.int .u8 7],[],Z,Z,⟨(),Z,Qr⟩,Z⟩⟩⟩) Z (by decide) (H':=[_]) Z ?_))))))
 obtain ⟨aZ,aK,hm⟩:=Q6 hm
 refine Q3g [] [0] [0] Z Z Z Zq Z Z fn_169 Z (ih z a0 l0 0 ((q:Nat):Int) (some ⟨aQ,0,none⟩) 3 [5,6,7] _ aK) (fun F w hφ hh=>(QS (hφ _ (Q10 (k:=0) Z)) (QS (Q1K (hh _ (Q10 (k:=0) Z))) Qr))) (fun _ _ _ hR=>by obtain ⟨rfl,rfl,rfl⟩:=hR; exact ⟨Z,(fun _ h=>Q2A h)⟩) Z Z (H':=[_]) Z ?_
 rintro _ _ _ ⟨rfl,rfl,rfl⟩
 refine wP Z ?_
 refine Qt (d:=22) (S':=V6 ..) Z Z (fun a8=>?_) (fun a8=>?_)
 replace hm:=QA hm a8
 refine wP Z (wP Z (wP Z (wN Z Q1Q (Qy Z Z Z Zq Z tE_254 Q34 tZ_156 Z (zs:=[.int .u8 0,.int .u8 0,.int .u8 0,.int .u8 0]) (by kernel_rfl) Z (out:=V4 ..) Z (fun aR=>(Q2f (sz:=1) (m:=4) R_u8 ([8,9,10,11]) 0 Z (fun F w hφ=>⟨[.int .u8 8],[.int .u8 9,.int .u8 10,.int .u8 11],Z,Z,⟨(),Z,Qr⟩,⟨[.int .u8 9],[.int .u8 10,.int .u8 11],Z,Z,⟨(),Z,Qr⟩,⟨[.int .u8 10],[.int .u8 11],Z,Z,⟨(),Z,Qr⟩,⟨[.int .u8 11],[],Z,Z,⟨(),Z,Qr⟩,Z⟩⟩⟩⟩) Z (by decide) (H':=[_,_]) Z ?_))))))
 obtain ⟨b0,aL,hm⟩:=Q6 hm
 refine Q3g [] [0,1] [0] Z Z Z Zq Z Z fn_169 Z (ih z a0 l0 ((q:Nat):Int) ((l0.length:Nat):Int) (some ⟨aR,0,none⟩) 4 [8,9,10,11] _ aL) (fun F w hφ hh=>(QS (hφ _ (Q10 (k:=0) Z)) (QS (Q1K (hh _ (Q10 (k:=0) Z))) Qr))) (fun _ _ _ hR=>by obtain ⟨rfl,rfl,rfl⟩:=hR; exact ⟨Z,(fun _ h=>Q2A h)⟩) Z Z (H':=[_,_]) Z ?_
 rintro _ _ _ ⟨rfl,rfl,rfl⟩
 refine wP Z (wP Z (Q3 (Q4 (Q2 [2] (S':=[_]) Z (Qb ?_)))))
 have hE:=(Zi hm).symm
 replace hE:=hE.symm
 subst hE
 refine Ql (Hr:=[]) [] Tryz.results224 (Qc Z) ⟨Z,Z,Z⟩ (asK [] Z) Z Z (.inl Z)
 replace hm:=Qz hm a8
 refine wO Z (wO Z (wO Z (wO Z (wO Z (wO Z (wP Z (wP Z (Q3 (Q4 (Q2 [2] (S':=[_]) Z (Qb ?_)))))))))))
 have hE:=(Zi hm).symm
 replace hE:=hE.symm
 subst hE
 refine Ql (Hr:=[]) [] Tryz.results224 (Qc Z) ⟨Z,Z,Z⟩ (asK [] Z) Z Z (.inl Z)
theorem Q2e (N:Nat) (rc:(List Qa) → Int → Int → (List Int) → Option (Bool)) (ih : ∀ (s:OA) (z:Nat) (l0:List Qa) (a1:Int) (a2:Int) (aC:OA) (aD:Nat) (l3:List Int) (o0:Bool),rc l0 a1 a2 l3 = some o0 → Q1o Tryz.prog 169 [.slice s l0.length z,.int .i64 a1,.int .i64 a2,.slice aC l3.length aD] [.sli 5 Qi s z l0,.sli 1 R_u8 aC aD l3] [] (fun v Φr Hr=>v = .bool o0 ∧ Φr = [] ∧ Hr = [])) (s:OA) (z:Nat) (l0:List Qa) (o0:Bool) (hm:Q1Z N rc l0 = some o0):Q1o Tryz.prog 225 [.slice s l0.length z] [.sli 5 Qi s z l0] [] (fun v Φr Hr=>v = .bool o0 ∧ Φr = [] ∧ Hr = []):=by
 unfold Q1Z at hm
 refine QD Tryz.func225 Z Tryz.ntmps225 Z (S:=[_]) Z (fun C=>(Q5 (Q1 (wP Z (Q3 (Q4 (Q2 [0] (S':=[_]) Z (Q5 ?_))))))))
 obtain ⟨a9,hm,hLj_1⟩:=Q1w hm
 refine QI (σ:=Unit) (fun _=>a9 = .inl ()) (fun _=>[(0,.slice s l0.length z)]) (fun _=>[.sli 5 Qi s z l0]) (fun _=>[]) ?_ ?_
 refine Q5 (Q1 (wP Z (Q3 (Q4 (Qw (Q1E (σ:=Nat × Nat) (fun (a5,j)=>Q1M (Q43 N l0) a5 j = some a9) (fun (a5,j)=>a5) (fun (a5,j)=>[(3,.int .i64 ((j:Nat):Int)),(0,.slice s l0.length z)]) (fun (a5,j)=>[.sli 5 Qi s z l0]) (fun (a5,j)=>[]) (N,0) hm [3,0] Z (asK [0] Z) Z (fun s_ hm=>?_)))))))
 obtain ⟨a5,j⟩:=s_
 try dsimp only at hm ⊢
 obtain ⟨aZ,b0,aF,hq,hLu1⟩:=Q1e hm
 clear hm
 subst aF
 replace hm:=hq
 clear hq
 unfold Q43 at hm
 try dsimp only at hm
 refine Q5 (Q5 (Q1 (wP Z (wP Z (wN Z Q1Q (wP Z (QH (d:=7) (v':=.bool (decide (j < l0.length))) (S':=V5 ..) Z Z (Q2z (a:=j) (b:=l0.length)) (Q3 (Q4 (Q2 [7,3,0] (S':=V3 ..) Z ?_))))))))))
 refine Qj Z (fun aA=>?_) (fun aA=>?_)
 replace hm:=QA hm aA
 refine Q2 [3,0] (S':=[_,_]) Z (Qq (Q4 (Q5 (Qw (Q5 ?_)))))
 obtain ⟨aG,hm,hLj_2⟩:=Q6 hm
 unfold Q6u at hm
 refine QI (σ:=Bool) (fun q=>aG = q) (fun q=>[(3,.int .i64 ((j:Nat):Int)),(0,.slice s l0.length z),(32,.bool q)]) (fun q=>[.sli 5 Qi s z l0]) (fun q=>[]) ?_ ?_
 refine Q1 (wP Z (wP Z ?_))
 obtain ⟨b1,aH,hm⟩:=Q6 hm
 refine Q1F 0 j Z Z Z Zq Z Z Z Z Z aH Q1Q QQ (fun b2 b3 aW aQ=>(Q22 Q1t 1 Z (fun b4 aI _=>?_)))
 subst aI
 refine wF Z Q2F (Q21 1 0 Z Z Z Zq Z Z Z (cs:=[_]) Z Q34 Q6O Z Z (wP Z (wP Z ?_)))
 refine Qt (d:=16) (S':=V8 ..) Z Z (fun a6=>?_) (fun a6=>?_)
 replace hm:=QA hm a6
 refine wP Z (wP Z ?_)
 obtain ⟨b5,aJ,hm⟩:=Q6 hm
 refine Q1F 3 j Z Z Z Zq Z Z Z Z Z aJ Q1Q QQ (fun b6 b7 aX aR=>(Q22 Q1t 1 Z (fun b8 aK _=>?_)))
 subst aK
 refine wF Z Q1V (Q21 1 1 Z Z Z Zq Z Z Z (cs:=[_]) Z Q27 Q2E Z Z (wP Z (wP Z (wP Z ?_))))
 refine Qt (d:=24) (S':=V16 ..) Z Z (fun a7=>?_) (fun a7=>?_)
 replace hm:=QA hm a7
 refine wP Z (wP Z ?_)
 obtain ⟨b9,aL,hm⟩:=Q6 hm
 refine Q1F 6 j Z Z Z Zq Z Z Z Z Z aL Q1Q QQ (fun bA bB aY aS=>(Q22 Q1t 1 Z (fun bC aM _=>?_)))
 subst aM
 refine wF Z Q1V (Q21 1 1 Z Z Z Zq Z Z Z (cs:=[_]) Z Q27 Q2E Z Z ?_)
 obtain ⟨aB,aN,hm⟩:=Q6 hm
 refine Q1B Z Z Z Zq (Q3P 0 Z Z Z Z aN Q64) (wP Z (QH (d:=31) (v':=.bool (aB.toNat == 45)) (S':=V23 ..) Z Z (Q3c (a:=aB.toNat) (b:=45)) (wP Z (Q3 ?_))))
 have hE:=(Zi hm).symm
 refine Q9 (aB.toNat == 45) hE [3,0,32] Z (asK [9] Z) Z
 replace hm:=Qz hm a7
 refine wO Z (wO Z (wO Z (wO Z (wO Z (wO Z (wO Z (wP Z (Q3 ?_))))))))
 have hE:=(Zi hm).symm
 refine Q9 false hE [3,0,32] Z (asK [6] Z) Z
 replace hm:=Qz hm a6
 refine wO Z (wO Z (wO Z (wO Z (wO Z (wO Z (wP Z (wP Z (wO Z (wO Z (wO Z (wO Z (wO Z (wO Z ?_)))))))))))))
 refine wO Z (wP Z (Q3 ?_))
 have hE:=(Zi hm).symm
 refine Q9 false hE [3,0,32] Z (asK [3] Z) Z
 rintro q hE
 try dsimp only
 have hm:=hLj_2
 rw [hE] at hm
 refine Qj Z (fun a8=>?_) (fun a8=>?_)
 replace hm:=QA hm a8
 refine Q2 [] (S':=[]) Z (Q5 (Q1 (wP Z (Q3 (Q4 (Qb (Qg (Q7 (Q7 (Qg (Q7 ?_)))))))))))
 have hE:=(Zi hm).symm
 replace hE:=Qv hLu1 hE
 replace hE:=Qv hLj_1 hE
 replace hE:=hE.symm
 subst hE
 refine Ql (Hr:=[]) [] Tryz.results225 (Qc Z) ⟨Z,Z,Z⟩ (asK [] Z) Z Z (.inl Z)
 replace hm:=Qz hm a8
 refine Q2 [3,0] (S':=[_,_]) Z (Qq (Qh (Q4 (Q1 (wP Z (wP Z ?_))))))
 obtain ⟨aT,hm⟩:=Qu hm
 refine QH (d:=9) (v':=.int .i64 ((j + 1:Nat):Int)) (S':=V3 ..) Z Z (Q1J (a:=j) (b:=1) aT) (Q1b (S':=V3 ..) Z Z Z Z Z (Q3 ?_))
 have hE:=(Zi hm).symm
 replace hE:=QO hLu1 hE
 refine Q1a (_,j + 1) (Nat.lt_succ_self _) hE [3,0] Z (asK [0] Z) Z
 replace hm:=Qz hm aA
 refine Q2 [0] (S':=[_]) Z (Q1x (Qk (Qk (QJ ?_))))
 have hE:=(Zi hm).symm
 replace hE:=Qv hLu1 hE
 refine Q9 () hE [0] Z (asK [0] Z) Z
 rintro _ hE
 try dsimp only
 have hm:=QO hLj_1 hE
 try dsimp only at hm
 refine Q5 (Q1 (wP Z (wP Z (wN Z Q1Q (Qy Z Z Z Zq Z tE_254 Q34 tZ_156 Z (zs:=[.int .u8 0,.int .u8 0,.int .u8 0,.int .u8 0]) (by kernel_rfl) Z (out:=V4 ..) Z (fun aU=>(Q2f (sz:=1) (m:=4) R_u8 ([13,14,15,16]) 0 Z (fun F w hφ=>⟨[.int .u8 13],[.int .u8 14,.int .u8 15,.int .u8 16],Z,Z,⟨(),Z,Qr⟩,⟨[.int .u8 14],[.int .u8 15,.int .u8 16],Z,Z,⟨(),Z,Qr⟩,⟨[.int .u8 15],[.int .u8 16],Z,Z,⟨(),Z,Qr⟩,⟨[.int .u8 16],[],Z,Z,⟨(),Z,Qr⟩,Z⟩⟩⟩⟩) Z (by decide) (H':=[_]) Z ?_)))))))
 obtain ⟨bD,aO,hm⟩:=Q6 hm
 refine Q3g [] [0] [0] Z Z Z Zq Z Z fn_169 Z (ih s z l0 0 ((l0.length:Nat):Int) (some ⟨aU,0,none⟩) 4 [13,14,15,16] _ aO) (fun F w hφ hh=>(QS (hφ _ (Q10 (k:=0) Z)) (QS (Q1K (hh _ (Q10 (k:=0) Z))) Qr))) (fun _ _ _ hR=>by obtain ⟨rfl,rfl,rfl⟩:=hR; exact ⟨Z,(fun _ h=>Q2A h)⟩) Z Z (H':=[_]) Z ?_
 rintro _ _ _ ⟨rfl,rfl,rfl⟩
 refine wP Z (Q3 (Q4 (Q2 [2] (S':=[_]) Z (Qb ?_))))
 have hE:=(Zi hm).symm
 replace hE:=hE.symm
 subst hE
 refine Ql (Hr:=[]) [] Tryz.results225 (Qc Z) ⟨Z,Z,Z⟩ (asK [] Z) Z Z (.inl Z)
theorem Q9G (N:Nat) (rc:(List Qa) → Int → Int → (List Int) → Option (Bool)) (ih : ∀ (q:OA) (s:Nat) (l0:List Qa) (a1:Int) (a2:Int) (bN:OA) (bO:Nat) (l3:List Int) (o0:Bool),rc l0 a1 a2 l3 = some o0 → Q1o Tryz.prog 169 [.slice q l0.length s,.int .i64 a1,.int .i64 a2,.slice bN l3.length bO] [.sli 5 Qi q s l0,.sli 1 R_u8 bN bO l3] [] (fun v Φr Hr=>v = .bool o0 ∧ Φr = [] ∧ Hr = [])) (a0:Int) (a1:ByteArray) (a2:Int) (a3:Int) (q:OA) (s:Nat) (j:List Qa) (o0:Bool) (hm:Q5n N rc a0 a1 a2 a3 j = some o0):Q1o Tryz.prog 207 [.agg #[.int .u8 a0,.string a1,.int .i64 a2,.int .i64 a3,.slice q j.length s]] [.sli 5 Qi q s j] [] (fun v Φr Hr=>v = .bool o0 ∧ Φr = [] ∧ Hr = []):=by
 unfold Q5n at hm
 refine QD Tryz.func207 Z Tryz.ntmps207 Z (S:=[_]) Z (fun C=>(Q5 (Q1 (wB Z (fun g1=>(wP Z (Q3 (Q4 (Q2 [1] (S':=[_]) Z (Q5 (Q1 (wF Z Q1s (wD 0 4 Z Q1U Q2b Z (wN Z Q1Q (wP Z ?_)))))))))))))))
 refine Q3 (Q4 (Q2 [3,1] (S':=[_,_]) Z (Q5 (Q5 ?_))))
 obtain ⟨bQ,hm,hLj_1⟩:=Q6 hm
 unfold Q6H at hm
 refine QI (σ:=Bool) (fun a6=>bQ = a6) (fun a6=>[(3,.int .i64 ((j.length:Nat):Int)),(1,.pointer (some ⟨g1,0,none⟩)),(24,.bool a6)]) (fun a6=>[.sli 5 Qi q s j]) (fun a6=>[.blk g1 [.int .u8 a0,.string a1,.int .i64 a2,.int .i64 a3,.slice q j.length s] 159]) ?_ ?_
 refine Q1 (wF Z Qan (wD 0 3 Z Q1A Q1N Z (wP Z (wP Z ?_))))
 refine Qt (d:=10) (S':=V5 ..) Z Z (fun b1=>?_) (fun b1=>?_)
 replace hm:=QA hm b1
 refine wO Z (wO Z (wO Z (wO Z (wO Z (wO Z (wO Z (wO Z (wO Z (wO Z (wO Z (wO Z (wO Z (wP Z ?_)))))))))))))
 refine Q3 ?_
 have hE:=(Zi hm).symm
 refine Q9 true hE [3,1,24] Z (asK [0] Z) Z
 replace hm:=Qz hm b1
 refine wF Z Q4q (wD 0 2 Z Q1A Q1N Z (wP Z (wP Z ?_)))
 refine Qt (d:=14) (S':=V9 ..) Z Z (fun b2=>?_) (fun b2=>?_)
 replace hm:=QA hm b2
 refine wF Z Q2F (wD 0 0 Z Q34 Q6O Z (wP Z (wP Z (wP Z ?_))))
 refine Qt (d:=19) (S':=V14 ..) Z Z (fun b3=>?_) (fun b3=>?_)
 replace hm:=QA hm b3
 refine wF Z Q2F (wD 0 0 Z Q34 Q6O Z (wP Z (wP Z (wP Z (Q3 ?_)))))
 have hE:=(Zi hm).symm
 refine Q9 (a0 != 9) hE [3,1,24] Z (asK [0] Z) Z
 replace hm:=Qz hm b3
 refine wO Z (wO Z (wO Z (wP Z (wP Z (Q3 ?_)))))
 have hE:=(Zi hm).symm
 refine Q9 false hE [3,1,24] Z (asK [0] Z) Z
 replace hm:=Qz hm b2
 refine wO Z (wO Z (wO Z (wP Z (wP Z (wO Z (wO Z (wO Z (wP Z (wP Z (Q3 ?_))))))))))
 have hE:=(Zi hm).symm
 refine Q9 false hE [3,1,24] Z (asK [0] Z) Z
 rintro a6 hE
 try dsimp only
 have hm:=hLj_1
 rw [hE] at hm
 refine Qj Z (fun b4=>?_) (fun b4=>?_)
 replace hm:=QA hm b4
 refine Q2 [] (S':=[]) Z (Q5 (Q1 (wP Z (Q3 (Q4 (Qb (Q7 ?_)))))))
 have hE:=(Zi hm).symm
 replace hE:=hE.symm
 subst hE
 refine Ql (Hr:=[]) [] Tryz.results207 (Qc Z) ⟨Z,Z,Z⟩ (asK [] Z) Z Z (.inl Z)
 replace hm:=Qz hm b4
 refine Q2 [3,1] (S':=[_,_]) Z (Qq (Q4 (Q5 (Q5 (Q1 (wF Z Q2F (wD 0 0 Z Q34 Q6O Z (Q3 (Q4 (Q2 [26,3,1] (S':=V3 ..) Z (Qw (Q5 (Q1 ?_)))))))))))))
 refine wP Z (wP Z (Q3 (Q4 (Q2 [27,26,3,1] (S':=V4 ..) Z ?_))))
 refine Qj Z (fun b5=>?_) (fun b5=>?_)
 replace hm:=QA hm b5
 refine Q2 [3,1] (S':=[_,_]) Z (Q5 (Q1 (wF Z Q1V (wD 0 1 Z Q27 Q2E Z ?_))))
 obtain ⟨cG,bR,hm⟩:=Q6 hm
 refine wC [] [0] Z fn_223 Z (Q3e N a1 _ bR) (asK [] Z) Z (H':=[_]) Z ?_
 rintro _ _ _ ⟨rfl,rfl,rfl⟩
 refine wP Z ?_
 refine Qt (d:=32) (S':=V5 ..) Z Z (fun b6=>?_) (fun b6=>?_)
 replace hm:=QA hm b6
 refine wF Z Q1s (wD 0 4 Z Q1U Q2b Z (wP Z (Qy Z Z Z Zq Z tE_254 Q34 tZ_156 Z (zs:=[.int .u8 0]) (by kernel_rfl) Z (out:=[_]) Z (fun c9=>(Q2f (sz:=1) (m:=1) R_u8 [3] 0 Z (fun F w hφ=>⟨[.int .u8 3],[],Z,Z,⟨(),Z,Qr⟩,Z⟩) Z (by decide) (H':=[_,_]) Z ?_)))))
 obtain ⟨cH,bS,hm⟩:=Q6 hm
 refine Q3g [] [0,1] [0] Z Z Z Zq Z Z fn_169 Z (ih q s j 0 ((j.length:Nat):Int) (some ⟨c9,0,none⟩) 1 [3] _ bS) (fun F w hφ hh=>(QS (hφ _ (Q10 (k:=0) Z)) (QS (Q1K (hh _ (Q10 (k:=0) Z))) Qr))) (fun _ _ _ hR=>by obtain ⟨rfl,rfl,rfl⟩:=hR; exact ⟨Z,(fun _ h=>Q2A h)⟩) Z Z (H':=[_,_]) Z ?_
 rintro _ _ _ ⟨rfl,rfl,rfl⟩
 refine wP Z (wP Z (Q3 (Q4 (Q2 [2] (S':=[_]) Z (Qb (Qg (Q7 ?_)))))))
 have hE:=(Zi hm).symm
 replace hE:=hE.symm
 subst hE
 refine Ql (Hr:=[]) [] Tryz.results207 (Qc Z) ⟨Z,Z,Z⟩ (asK [] Z) Z Z (.inl Z)
 replace hm:=Qz hm b6
 refine wO Z (wO Z (wO Z (wO Z (wO Z (wP Z (wP Z (Q3 (Q4 (Q2 [2] (S':=[_]) Z (Qb (Qg (Q7 ?_))))))))))))
 have hE:=(Zi hm).symm
 replace hE:=hE.symm
 subst hE
 refine Ql (Hr:=[]) [] Tryz.results207 (Qc Z) ⟨Z,Z,Z⟩ (asK [] Z) Z Z (.inl Z)
 replace hm:=Qz hm b5
 refine Q2 [26,3,1] (S':=V3 ..) Z (Q5 (Q1 (wP Z (wP Z (Q3 (Q4 (Q2 [39,26,3,1] (S':=V4 ..) Z ?_)))))))
 refine Qj Z (fun b7=>?_) (fun b7=>?_)
 replace hm:=QA hm b7
 refine Q2 [3,1] (S':=[_,_]) Z (Q5 (Q1 (wF Z Q1V (wD 0 1 Z Q27 Q2E Z ?_))))
 obtain ⟨cI,bT,hm⟩:=Q6 hm
 refine wC [] [0] Z fn_223 Z (Q3e N a1 _ bT) (asK [] Z) Z (H':=[_]) Z ?_
 rintro _ _ _ ⟨rfl,rfl,rfl⟩
 refine wP Z ?_
 refine Qt (d:=44) (S':=V5 ..) Z Z (fun b8=>?_) (fun b8=>?_)
 replace hm:=QA hm b8
 refine wP Z (wP Z (QH (d:=46) (v':=.bool (j.length == 0)) (S':=V7 ..) Z Z (Q3c (a:=j.length) (b:=0)) (wP Z (wP Z (Q3 (Q4 (Q2 [2] (S':=[_]) Z (Qb (Qg (Q7 ?_))))))))))
 have hE:=(Zi hm).symm
 replace hE:=hE.symm
 subst hE
 refine Ql (Hr:=[]) [] Tryz.results207 (Qc Z) ⟨Z,Z,Z⟩ (asK [] Z) Z Z (.inl Z)
 replace hm:=Qz hm b8
 refine wO Z (wO Z (wP Z (wP Z (Q3 (Q4 (Q2 [2] (S':=[_]) Z (Qb (Qg (Q7 ?_)))))))))
 have hE:=(Zi hm).symm
 replace hE:=hE.symm
 subst hE
 refine Ql (Hr:=[]) [] Tryz.results207 (Qc Z) ⟨Z,Z,Z⟩ (asK [] Z) Z Z (.inl Z)
 replace hm:=Qz hm b7
 refine Q2 [26,3,1] (S':=V3 ..) Z (Q5 (Q1 (wP Z (wP Z (Q3 (Q4 (Q2 [48,26,3,1] (S':=V4 ..) Z ?_)))))))
 refine Qj Z (fun b9=>?_) (fun b9=>?_)
 replace hm:=QA hm b9
 refine Q2 [1] (S':=[_]) Z (Q5 ?_)
 obtain ⟨bU,hm,hLj_2⟩:=Q6 hm
 unfold Q6I at hm
 refine QI (σ:=Bool) (fun aD=>bU = aD) (fun aD=>[(2,.bool aD)]) (fun aD=>[]) (fun aD=>[]) ?_ ?_
 refine Q1 (wF Z Q1V (wD 0 1 Z Q27 Q2E Z ?_))
 obtain ⟨cJ,bV,hm⟩:=Q6 hm
 refine wC [] [0] Z fn_223 Z (Q3e N a1 _ bV) (asK [] Z) Z (H':=[_]) Z ?_
 rintro _ _ _ ⟨rfl,rfl,rfl⟩
 refine wP Z ?_
 refine Qt (d:=53) (S':=V4 ..) Z Z (fun bA=>?_) (fun bA=>?_)
 replace hm:=QA hm bA
 refine wF Z Q4q (wD 0 2 Z Q1A Q1N Z (wP Z (wP Z (wP Z ?_))))
 refine Qt (d:=58) (S':=V9 ..) Z Z (fun bB=>?_) (fun bB=>?_)
 replace hm:=QA hm bB
 refine wF Z Q4q (wD 0 2 Z Q1A Q1N Z (wP Z (wP Z (wP Z ?_))))
 refine Qt (d:=63) (S':=V14 ..) Z Z (fun bC=>?_) (fun bC=>?_)
 replace hm:=QA hm bC
 refine wF Z Q1s (wD 0 4 Z Q1U Q2b Z ?_)
 obtain ⟨cA,bW,hm⟩:=Q6 hm
 refine wC [] [0] Z fn_224 Z (Q9H N rc ih q s j _ bW) (asK [0] Z) Z (H':=[_]) Z ?_
 rintro _ _ _ ⟨rfl,rfl,rfl⟩
 refine wP Z (wP Z (Q3 ?_))
 have hE:=(Zi hm).symm
 refine Qs [] Z (H':=[]) Z ?_
 refine Q9 cA hE [2] Z (asK [] Z) Z
 replace hm:=Qz hm bC
 refine wO Z (wO Z (wO Z (wP Z (wP Z (Q3 ?_)))))
 have hE:=(Zi hm).symm
 refine Qs [] Z (H':=[]) Z ?_
 refine Q9 false hE [2] Z (asK [] Z) Z
 replace hm:=Qz hm bB
 refine wO Z (wO Z (wO Z (wP Z (wP Z (wO Z (wO Z (wO Z (wP Z (wP Z (Q3 ?_))))))))))
 have hE:=(Zi hm).symm
 refine Qs [] Z (H':=[]) Z ?_
 refine Q9 false hE [2] Z (asK [] Z) Z
 replace hm:=Qz hm bA
 refine wO Z (wO Z (wO Z (wP Z (wP Z (wO Z (wO Z (wO Z (wP Z (wP Z (wO Z (wO Z (wO Z (wP Z ?_)))))))))))))
 refine wP Z (Q3 ?_)
 have hE:=(Zi hm).symm
 refine Qs [] Z (H':=[]) Z ?_
 refine Q9 false hE [2] Z (asK [] Z) Z
 rintro aD hE
 try dsimp only
 have hm:=hLj_2
 rw [hE] at hm
 refine Qb (Qg (Q7 ?_))
 have hE:=(Zi hm).symm
 replace hE:=hE.symm
 subst hE
 refine Ql (Hr:=[]) [] Tryz.results207 (Qc Z) ⟨Z,Z,Z⟩ (asK [] Z) Z Z (.inl Z)
 replace hm:=Qz hm b9
 refine Q2 [26,3,1] (S':=V3 ..) Z (Q5 ?_)
 obtain ⟨bX,hm,hLj_3⟩:=Q6 hm
 refine QI (σ:=Bool) (fun a7=>bX = a7) (fun a7=>[(26,.int .u8 a0),(3,.int .i64 ((j.length:Nat):Int)),(1,.pointer (some ⟨g1,0,none⟩)),(68,.bool a7)]) (fun a7=>[.sli 5 Qi q s j]) (fun a7=>[.blk g1 [.int .u8 a0,.string a1,.int .i64 a2,.int .i64 a3,.slice q j.length s] 159]) ?_ ?_
 refine Q5 (Q1 (wP Z (wP Z (Q3 (Q4 (Q2 [68,26,3,1] (S':=V4 ..) Z ?_))))))
 refine Qj Z (fun aG=>?_) (fun aG=>?_)
 replace hm:=QA hm aG
 refine Qq ?_
 have hE:=(Zi hm).symm
 refine Q9 (a0 == 5) hE [26,3,1,68] Z (asK [0] Z) Z
 replace hm:=Qz hm aG
 refine Q2 [26,3,1] (S':=V3 ..) Z (Q1 (wP Z (wP Z (Q3 ?_))))
 have hE:=(Zi hm).symm
 refine Q9 (a0 == 6) hE [26,3,1,68] Z (asK [0] Z) Z
 rintro a7 hE
 try dsimp only
 have hm:=hLj_3
 rw [hE] at hm
 refine Qj Z (fun aG=>?_) (fun aG=>?_)
 replace hm:=QA hm aG
 refine Q2 [3,1] (S':=[_,_]) Z (Q5 (Q1 (wF Z Q1V (wD 0 1 Z Q27 Q2E Z ?_))))
 obtain ⟨cK,bY,hm⟩:=Q6 hm
 refine wC [] [0] Z fn_223 Z (Q3e N a1 _ bY) (asK [] Z) Z (H':=[_]) Z ?_
 rintro _ _ _ ⟨rfl,rfl,rfl⟩
 refine wP Z ?_
 refine Qt (d:=74) (S':=V5 ..) Z Z (fun bD=>?_) (fun bD=>?_)
 replace hm:=QA hm bD
 refine wF Z Q1s (wD 0 4 Z Q1U Q2b Z (wP Z (Qy Z Z Z Zq Z tE_254 Q34 tZ_156 Z (zs:=[.int .u8 0,.int .u8 0,.int .u8 0,.int .u8 0]) (by kernel_rfl) Z (out:=V4 ..) Z (fun cB=>(Q2f (sz:=1) (m:=4) R_u8 ([12,13,14,15]) 0 Z (fun F w hφ=>⟨[.int .u8 12],[.int .u8 13,.int .u8 14,.int .u8 15],Z,Z,⟨(),Z,Qr⟩,⟨[.int .u8 13],[.int .u8 14,.int .u8 15],Z,Z,⟨(),Z,Qr⟩,⟨[.int .u8 14],[.int .u8 15],Z,Z,⟨(),Z,Qr⟩,⟨[.int .u8 15],[],Z,Z,⟨(),Z,Qr⟩,Z⟩⟩⟩⟩) Z (by decide) (H':=[_,_]) Z ?_)))))
 obtain ⟨cL,bZ,hm⟩:=Q6 hm
 refine Q3g [] [0,1] [0] Z Z Z Zq Z Z fn_169 Z (ih q s j 0 ((j.length:Nat):Int) (some ⟨cB,0,none⟩) 4 [12,13,14,15] _ bZ) (fun F w hφ hh=>(QS (hφ _ (Q10 (k:=0) Z)) (QS (Q1K (hh _ (Q10 (k:=0) Z))) Qr))) (fun _ _ _ hR=>by obtain ⟨rfl,rfl,rfl⟩:=hR; exact ⟨Z,(fun _ h=>Q2A h)⟩) Z Z (H':=[_,_]) Z ?_
 rintro _ _ _ ⟨rfl,rfl,rfl⟩
 refine wP Z (wP Z (Q3 (Q4 (Q2 [2] (S':=[_]) Z (Qb (Qg (Q7 ?_)))))))
 have hE:=(Zi hm).symm
 replace hE:=hE.symm
 subst hE
 refine Ql (Hr:=[]) [] Tryz.results207 (Qc Z) ⟨Z,Z,Z⟩ (asK [] Z) Z Z (.inl Z)
 replace hm:=Qz hm bD
 refine wO Z (wO Z (wO Z (wO Z (wO Z (wP Z (wP Z (Q3 (Q4 (Q2 [2] (S':=[_]) Z (Qb (Qg (Q7 ?_))))))))))))
 have hE:=(Zi hm).symm
 replace hE:=hE.symm
 subst hE
 refine Ql (Hr:=[]) [] Tryz.results207 (Qc Z) ⟨Z,Z,Z⟩ (asK [] Z) Z Z (.inl Z)
 replace hm:=Qz hm aG
 refine Q2 [26,3,1] (S':=V3 ..) Z (Q5 (Q1 (wP Z (wP Z (Q3 (Q4 (Q2 [81,26,3,1] (S':=V4 ..) Z ?_)))))))
 refine Qj Z (fun bE=>?_) (fun bE=>?_)
 replace hm:=QA hm bE
 refine Q2 [3,1] (S':=[_,_]) Z (Q5 (Q1 (wF Z Q1V (wD 0 1 Z Q27 Q2E Z (wP Z (wP Z ?_))))))
 refine Qt (d:=86) (S':=V5 ..) Z Z (fun bF=>?_) (fun bF=>?_)
 replace hm:=QA hm bF
 refine wP Z (wP Z (QH (d:=88) (v':=.bool (j.length == 1)) (S':=V7 ..) Z Z (Q3c (a:=j.length) (b:=1)) (wP Z (wP Z ?_))))
 refine Qt (d:=90) (S':=V9 ..) Z Z (fun bG=>?_) (fun bG=>?_)
 replace hm:=QA hm bG
 refine wF Z Q1s (wD 0 4 Z Q1U Q2b Z ?_)
 obtain ⟨cM,c0,hm⟩:=Q6 hm
 refine wC [] [0] Z fn_225 Z (Q2e N rc ih q s j _ c0) (asK [0] Z) Z (H':=[_]) Z ?_
 rintro _ _ _ ⟨rfl,rfl,rfl⟩
 refine wP Z (wP Z (Q3 (Q4 (Q2 [2] (S':=[_]) Z (Qb (Qg (Q7 ?_)))))))
 have hE:=(Zi hm).symm
 replace hE:=hE.symm
 subst hE
 refine Ql (Hr:=[]) [] Tryz.results207 (Qc Z) ⟨Z,Z,Z⟩ (asK [] Z) Z Z (.inl Z)
 replace hm:=Qz hm bG
 refine wO Z (wO Z (wO Z (wP Z (wP Z (Q3 (Q4 (Q2 [2] (S':=[_]) Z (Qb (Qg (Q7 ?_))))))))))
 have hE:=(Zi hm).symm
 replace hE:=hE.symm
 subst hE
 refine Ql (Hr:=[]) [] Tryz.results207 (Qc Z) ⟨Z,Z,Z⟩ (asK [] Z) Z Z (.inl Z)
 replace hm:=Qz hm bF
 refine wO Z (wO Z (wP Z (wP Z (wO Z (wO Z (wO Z (wP Z (wP Z (Q3 (Q4 (Q2 [2] (S':=[_]) Z (Qb (Qg ?_)))))))))))))
 refine Q7 ?_
 have hE:=(Zi hm).symm
 replace hE:=hE.symm
 subst hE
 refine Ql (Hr:=[]) [] Tryz.results207 (Qc Z) ⟨Z,Z,Z⟩ (asK [] Z) Z Z (.inl Z)
 replace hm:=Qz hm bE
 refine Q2 [26,3,1] (S':=V3 ..) Z (Q5 (Q1 (wP Z (wP Z (Q3 (Q4 (Q2 [95,26,3,1] (S':=V4 ..) Z ?_)))))))
 refine Qj Z (fun bH=>?_) (fun bH=>?_)
 replace hm:=QA hm bH
 refine Q2 [1] (S':=[_]) Z (Q5 (Q1 (wF Z Q1V (wD 0 1 Z Q27 Q2E Z ?_))))
 obtain ⟨cN,c1,hm⟩:=Q6 hm
 refine wC [] [0] Z fn_223 Z (Q3e N a1 _ c1) (asK [] Z) Z (H':=[_]) Z ?_
 rintro _ _ _ ⟨rfl,rfl,rfl⟩
 refine wP Z ?_
 refine Qt (d:=100) (S':=V4 ..) Z Z (fun aK=>?_) (fun aK=>?_)
 replace hm:=QA hm aK
 refine wF Z Q1s (wD 0 4 Z Q1U Q2b Z ?_)
 obtain ⟨cC,bJ,hm⟩:=Q6 hm
 refine wC [] [0] Z fn_225 Z (Q2e N rc ih q s j _ bJ) (asK [0] Z) Z (H':=[_]) Z ?_
 rintro _ _ _ ⟨rfl,rfl,rfl⟩
 refine wP Z (wP Z (Q3 (Q4 (Q2 [2] (S':=[_]) Z (Qb (Qg (Q7 ?_)))))))
 have hE:=(Zi hm).symm
 replace hE:=hE.symm
 subst hE
 refine Ql (Hr:=[]) [] Tryz.results207 (Qc Z) ⟨Z,Z,Z⟩ (asK [] Z) Z Z (.inl Z)
 replace hm:=Qz hm aK
 refine wO Z (wO Z (wO Z (wP Z (wP Z (Q3 (Q4 (Q2 [2] (S':=[_]) Z (Qb (Qg (Q7 ?_))))))))))
 have hE:=(Zi hm).symm
 replace hE:=hE.symm
 subst hE
 refine Ql (Hr:=[]) [] Tryz.results207 (Qc Z) ⟨Z,Z,Z⟩ (asK [] Z) Z Z (.inl Z)
 replace hm:=Qz hm bH
 refine Q2 [26,3,1] (S':=V3 ..) Z (Q5 (Q1 (wP Z (wP Z (Q3 (Q4 (Q2 [105,26,3,1] (S':=V4 ..) Z ?_)))))))
 refine Qj Z (fun aL=>?_) (fun aL=>?_)
 replace hm:=QA hm aL
 refine Q2 [3,1] (S':=[_,_]) Z (Q5 ?_)
 obtain ⟨c2,hm,hLj_4⟩:=Q6 hm
 unfold Q6J at hm
 refine QI (σ:=Bool) (fun aE=>c2 = aE) (fun aE=>[(2,.bool aE)]) (fun aE=>[]) (fun aE=>[]) ?_ ?_
 refine Q1 (wF Z Q1V (wD 0 1 Z Q27 Q2E Z (wP Z (wP Z ?_))))
 refine Qt (d:=110) (S':=V5 ..) Z Z (fun aM=>?_) (fun aM=>?_)
 replace hm:=QA hm aM
 refine wF Z Q4q (wD 0 2 Z Q1A Q1N Z (wP Z (wP Z (wP Z ?_))))
 refine Qt (d:=115) (S':=V10 ..) Z Z (fun aN=>?_) (fun aN=>?_)
 replace hm:=QA hm aN
 refine wF Z Q4q (wD 0 2 Z Q1A Q1N Z (wP Z (wP Z (wP Z ?_))))
 refine Qt (d:=120) (S':=V15 ..) Z Z (fun aO=>?_) (fun aO=>?_)
 replace hm:=QA hm aO
 refine wP Z (wP Z (QH (d:=122) (v':=.bool (j.length == 0)) (S':=V17 ..) Z Z (Q3c (a:=j.length) (b:=0)) (wP Z (wP Z (Q3 ?_)))))
 have hE:=(Zi hm).symm
 refine Qs [] Z (H':=[]) Z ?_
 refine Q9 (j.length == 0) hE [2] Z (asK [] Z) Z
 replace hm:=Qz hm aO
 refine wO Z (wO Z (wP Z (wP Z (Q3 ?_))))
 have hE:=(Zi hm).symm
 refine Qs [] Z (H':=[]) Z ?_
 refine Q9 false hE [2] Z (asK [] Z) Z
 replace hm:=Qz hm aN
 refine wO Z (wO Z (wO Z (wP Z (wP Z (wO Z (wO Z (wP Z (wP Z (Q3 ?_)))))))))
 have hE:=(Zi hm).symm
 refine Qs [] Z (H':=[]) Z ?_
 refine Q9 false hE [2] Z (asK [] Z) Z
 replace hm:=Qz hm aM
 refine wO Z (wO Z (wO Z (wP Z (wP Z (wO Z (wO Z (wO Z (wP Z (wP Z (wO Z (wO Z (wP Z (wP Z ?_)))))))))))))
 refine Q3 ?_
 have hE:=(Zi hm).symm
 refine Qs [] Z (H':=[]) Z ?_
 refine Q9 false hE [2] Z (asK [] Z) Z
 rintro aE hE
 try dsimp only
 have hm:=hLj_4
 rw [hE] at hm
 refine Qb (Qg (Q7 ?_))
 have hE:=(Zi hm).symm
 replace hE:=hE.symm
 subst hE
 refine Ql (Hr:=[]) [] Tryz.results207 (Qc Z) ⟨Z,Z,Z⟩ (asK [] Z) Z Z (.inl Z)
 replace hm:=Qz hm aL
 refine Q2 [26,3,1] (S':=V3 ..) Z (Q5 (Q1 (wP Z (wP Z (Q3 (Q4 (Q2 [124,26,3,1] (S':=V4 ..) Z ?_)))))))
 refine Qj Z (fun aP=>?_) (fun aP=>?_)
 replace hm:=QA hm aP
 refine Q2 [3,1] (S':=[_,_]) Z (Q5 (Q1 (wF Z Q1V (wD 0 1 Z Q27 Q2E Z (wP Z (wP Z ?_))))))
 refine Qt (d:=129) (S':=V5 ..) Z Z (fun aQ=>?_) (fun aQ=>?_)
 replace hm:=QA hm aQ
 refine wP Z (wP Z (QH (d:=131) (v':=.bool (decide (1 ≤ j.length))) (S':=V7 ..) Z Z (natge (a:=j.length) (b:=1)) (wP Z (wP Z ?_))))
 refine Qt (d:=133) (S':=V9 ..) Z Z (fun aR=>?_) (fun aR=>?_)
 replace hm:=QA hm aR
 refine wF Z Q1s (wD 0 4 Z Q1U Q2b Z ?_)
 obtain ⟨cD,bK,hm⟩:=Q6 hm
 refine wC [] [0] Z fn_225 Z (Q2e N rc ih q s j _ bK) (asK [0] Z) Z (H':=[_]) Z ?_
 rintro _ _ _ ⟨rfl,rfl,rfl⟩
 refine wP Z (wP Z (Q3 (Q4 (Q2 [2] (S':=[_]) Z (Qb (Qg (Q7 ?_)))))))
 have hE:=(Zi hm).symm
 replace hE:=hE.symm
 subst hE
 refine Ql (Hr:=[]) [] Tryz.results207 (Qc Z) ⟨Z,Z,Z⟩ (asK [] Z) Z Z (.inl Z)
 replace hm:=Qz hm aR
 refine wO Z (wO Z (wO Z (wP Z (wP Z (Q3 (Q4 (Q2 [2] (S':=[_]) Z (Qb (Qg (Q7 ?_))))))))))
 have hE:=(Zi hm).symm
 replace hE:=hE.symm
 subst hE
 refine Ql (Hr:=[]) [] Tryz.results207 (Qc Z) ⟨Z,Z,Z⟩ (asK [] Z) Z Z (.inl Z)
 replace hm:=Qz hm aQ
 refine wO Z (wO Z (wP Z (wP Z (wO Z (wO Z (wO Z (wP Z (wP Z (Q3 (Q4 (Q2 [2] (S':=[_]) Z (Qb (Qg ?_)))))))))))))
 refine Q7 ?_
 have hE:=(Zi hm).symm
 replace hE:=hE.symm
 subst hE
 refine Ql (Hr:=[]) [] Tryz.results207 (Qc Z) ⟨Z,Z,Z⟩ (asK [] Z) Z Z (.inl Z)
 replace hm:=Qz hm aP
 refine Q2 [26,3,1] (S':=V3 ..) Z (Q5 ?_)
 obtain ⟨c3,hm,hLj_5⟩:=Q6 hm
 refine QI (σ:=Bool) (fun z=>c3 = z) (fun z=>[(26,.int .u8 a0),(3,.int .i64 ((j.length:Nat):Int)),(1,.pointer (some ⟨g1,0,none⟩)),(138,.bool z)]) (fun z=>[.sli 5 Qi q s j]) (fun z=>[.blk g1 [.int .u8 a0,.string a1,.int .i64 a2,.int .i64 a3,.slice q j.length s] 159]) ?_ ?_
 refine Q5 (Q1 (wP Z (wP Z (Q3 (Q4 (Q2 [138,26,3,1] (S':=V4 ..) Z ?_))))))
 refine Qj Z (fun a8=>?_) (fun a8=>?_)
 replace hm:=QA hm a8
 refine Qq ?_
 have hE:=(Zi hm).symm
 refine Q9 (a0 == 11) hE [26,3,1,138] Z (asK [0] Z) Z
 replace hm:=Qz hm a8
 refine Q2 [26,3,1] (S':=V3 ..) Z (Q1 (wP Z (wP Z (Q3 ?_))))
 have hE:=(Zi hm).symm
 refine Q9 (a0 == 12) hE [26,3,1,138] Z (asK [0] Z) Z
 rintro z hE
 try dsimp only
 have hm:=hLj_5
 rw [hE] at hm
 refine Qj Z (fun a8=>?_) (fun a8=>?_)
 replace hm:=QA hm a8
 refine Q2 [3,1] (S':=[_,_]) Z (Q5 (Q1 (wF Z Q1V (wD 0 1 Z Q27 Q2E Z (wP Z (wP Z ?_))))))
 refine Qt (d:=144) (S':=V5 ..) Z Z (fun aS=>?_) (fun aS=>?_)
 replace hm:=QA hm aS
 refine wP Z (wP Z (QH (d:=146) (v':=.bool (j.length == 0)) (S':=V7 ..) Z Z (Q3c (a:=j.length) (b:=0)) (wP Z (wP Z (Q3 (Q4 (Q2 [2] (S':=[_]) Z (Qb (Qg (Q7 ?_))))))))))
 have hE:=(Zi hm).symm
 replace hE:=hE.symm
 subst hE
 refine Ql (Hr:=[]) [] Tryz.results207 (Qc Z) ⟨Z,Z,Z⟩ (asK [] Z) Z Z (.inl Z)
 replace hm:=Qz hm aS
 refine wO Z (wO Z (wP Z (wP Z (Q3 (Q4 (Q2 [2] (S':=[_]) Z (Qb (Qg (Q7 ?_)))))))))
 have hE:=(Zi hm).symm
 replace hE:=hE.symm
 subst hE
 refine Ql (Hr:=[]) [] Tryz.results207 (Qc Z) ⟨Z,Z,Z⟩ (asK [] Z) Z Z (.inl Z)
 replace hm:=Qz hm a8
 refine Q2 [26,3,1] (S':=V3 ..) Z (Q5 ?_)
 obtain ⟨c4,hm,hLj_6⟩:=Q6 hm
 refine QI (σ:=Bool) (fun a5=>c4 = a5) (fun a5=>[(26,.int .u8 a0),(3,.int .i64 ((j.length:Nat):Int)),(1,.pointer (some ⟨g1,0,none⟩)),(148,.bool a5)]) (fun a5=>[.sli 5 Qi q s j]) (fun a5=>[.blk g1 [.int .u8 a0,.string a1,.int .i64 a2,.int .i64 a3,.slice q j.length s] 159]) ?_ ?_
 refine Q5 (Q1 (wP Z (wP Z (Q3 (Q4 (Q2 [148,26,3,1] (S':=V4 ..) Z ?_))))))
 refine Qj Z (fun a9=>?_) (fun a9=>?_)
 replace hm:=QA hm a9
 refine Qq ?_
 have hE:=(Zi hm).symm
 refine Q9 (a0 == 13) hE [26,3,1,148] Z (asK [0] Z) Z
 replace hm:=Qz hm a9
 refine Q2 [26,3,1] (S':=V3 ..) Z (Q1 (wP Z (wP Z (Q3 ?_))))
 have hE:=(Zi hm).symm
 refine Q9 (a0 == 15) hE [26,3,1,148] Z (asK [0] Z) Z
 rintro a5 hE
 try dsimp only
 have hm:=hLj_6
 rw [hE] at hm
 refine Qj Z (fun a9=>?_) (fun a9=>?_)
 replace hm:=QA hm a9
 refine Q2 [3,1] (S':=[_,_]) Z (Q5 (Q1 (wF Z Q1V (wD 0 1 Z Q27 Q2E Z ?_))))
 obtain ⟨cE,bL,hm⟩:=Q6 hm
 refine wC [] [0] Z fn_70 Z (Q5B N a1 _ bL) (asK [] Z) Z (H':=[_]) Z ?_
 rintro _ _ _ ⟨rfl,rfl,rfl⟩
 refine wP Z ?_
 refine Qt (d:=154) (S':=V5 ..) Z Z (fun aT=>?_) (fun aT=>?_)
 replace hm:=QA hm aT
 refine wP Z (wP Z (QH (d:=156) (v':=.bool (j.length == 0)) (S':=V7 ..) Z Z (Q3c (a:=j.length) (b:=0)) (wP Z (wP Z (Q3 (Q4 (Q2 [2] (S':=[_]) Z (Qb (Qg (Q7 ?_))))))))))
 have hE:=(Zi hm).symm
 replace hE:=hE.symm
 subst hE
 refine Ql (Hr:=[]) [] Tryz.results207 (Qc Z) ⟨Z,Z,Z⟩ (asK [] Z) Z Z (.inl Z)
 replace hm:=Qz hm aT
 refine wO Z (wO Z (wP Z (wP Z (Q3 (Q4 (Q2 [2] (S':=[_]) Z (Qb (Qg (Q7 ?_)))))))))
 have hE:=(Zi hm).symm
 replace hE:=hE.symm
 subst hE
 refine Ql (Hr:=[]) [] Tryz.results207 (Qc Z) ⟨Z,Z,Z⟩ (asK [] Z) Z Z (.inl Z)
 replace hm:=Qz hm a9
 refine Q2 [26,3,1] (S':=V3 ..) Z (Q5 (Q1 (wP Z (wP Z (Q3 (Q4 (Q2 [158,26,3,1] (S':=V4 ..) Z ?_)))))))
 refine Qj Z (fun aU=>?_) (fun aU=>?_)
 replace hm:=QA hm aU
 refine Q2 [3,1] (S':=[_,_]) Z (Q5 (Q1 (wF Z Q1V (wD 0 1 Z Q27 Q2E Z ?_))))
 obtain ⟨cF,bM,hm⟩:=Q6 hm
 refine wC [] [0] Z fn_226 Z (Qa8 N a1 _ bM) (asK [] Z) Z (H':=[_]) Z ?_
 rintro _ _ _ ⟨rfl,rfl,rfl⟩
 refine wP Z ?_
 refine Qt (d:=163) (S':=V5 ..) Z Z (fun aV=>?_) (fun aV=>?_)
 replace hm:=QA hm aV
 refine wP Z (wP Z (QH (d:=165) (v':=.bool (j.length == 0)) (S':=V7 ..) Z Z (Q3c (a:=j.length) (b:=0)) (wP Z (wP Z (Q3 (Q4 (Q2 [2] (S':=[_]) Z (Qb (Qg (Q7 ?_))))))))))
 have hE:=(Zi hm).symm
 replace hE:=hE.symm
 subst hE
 refine Ql (Hr:=[]) [] Tryz.results207 (Qc Z) ⟨Z,Z,Z⟩ (asK [] Z) Z Z (.inl Z)
 replace hm:=Qz hm aV
 refine wO Z (wO Z (wP Z (wP Z (Q3 (Q4 (Q2 [2] (S':=[_]) Z (Qb (Qg (Q7 ?_)))))))))
 have hE:=(Zi hm).symm
 replace hE:=hE.symm
 subst hE
 refine Ql (Hr:=[]) [] Tryz.results207 (Qc Z) ⟨Z,Z,Z⟩ (asK [] Z) Z Z (.inl Z)
 replace hm:=Qz hm aU
 refine Q2 [26,3,1] (S':=V3 ..) Z (Q5 (Q1 (wP Z (wP Z (Q3 (Q4 (Q2 [167,3,1] (S':=V3 ..) Z ?_)))))))
 refine Qj Z (fun aW=>?_) (fun aW=>?_)
 replace hm:=QA hm aW
 refine Q2 [3,1] (S':=[_,_]) Z (Q5 ?_)
 obtain ⟨c5,hm,hLj_7⟩:=Q6 hm
 unfold Q6K at hm
 refine QI (σ:=Bool) (fun aF=>c5 = aF) (fun aF=>[(2,.bool aF)]) (fun aF=>[]) (fun aF=>[]) ?_ ?_
 refine Q1 (wP Z (wP Z (QH (d:=170) (v':=.bool (j.length == 1)) (S':=V3 ..) Z Z (Q3c (a:=j.length) (b:=1)) (wP Z ?_))))
 refine Qt (d:=171) (S':=V4 ..) Z Z (fun aX=>?_) (fun aX=>?_)
 replace hm:=QA hm aX
 refine wF Z Q1V (wD 0 1 Z Q27 Q2E Z (wP Z (wP Z ?_)))
 refine Qt (d:=175) (S':=V8 ..) Z Z (fun aY=>?_) (fun aY=>?_)
 replace hm:=QA hm aY
 refine wO Z (wO Z (wO Z (wP Z (wP Z (wP Z (wO Z (wO Z (wO Z (wO Z (wO Z (wO Z (wO Z (wP Z ?_)))))))))))))
 refine wP Z (wF Z Q1s (wD 0 4 Z Q1U Q2b Z ?_))
 obtain ⟨aH,aA,hm⟩:=Q6 hm
 refine wC [] [0] Z fn_225 Z (Q2e N rc ih q s j _ aA) (asK [0] Z) Z (H':=[_]) Z ?_
 rintro _ _ _ ⟨rfl,rfl,rfl⟩
 refine wP Z (wP Z (Q3 ?_))
 have hE:=(Zi hm).symm
 refine Qs [] Z (H':=[]) Z ?_
 refine Q9 aH hE [2] Z (asK [] Z) Z
 replace hm:=Qz hm aY
 refine wF Z Q1V (wD 0 1 Z Q27 Q2E Z (wP Z (wP Z (wP Z (wP Z ?_)))))
 refine Qt (d:=181) (S':=V14 ..) Z Z (fun aZ=>?_) (fun aZ=>?_)
 replace hm:=QA hm aZ
 refine wO Z (wO Z (wO Z (wO Z (wO Z (wO Z (wO Z (wP Z (wP Z (wF Z Q1s (wD 0 4 Z Q1U Q2b Z ?_))))))))))
 obtain ⟨aH,aA,hm⟩:=Q6 hm
 refine wC [] [0] Z fn_225 Z (Q2e N rc ih q s j _ aA) (asK [0] Z) Z (H':=[_]) Z ?_
 rintro _ _ _ ⟨rfl,rfl,rfl⟩
 refine wP Z (wP Z (Q3 ?_))
 have hE:=(Zi hm).symm
 refine Qs [] Z (H':=[]) Z ?_
 refine Q9 aH hE [2] Z (asK [] Z) Z
 replace hm:=Qz hm aZ
 refine wP Z (wP Z (QH (d:=183) (v':=.bool (j.length == 2)) (S':=V16 ..) Z Z (Q3c (a:=j.length) (b:=2)) (wP Z ?_)))
 refine Qt (d:=184) (S':=V17 ..) Z Z (fun aB=>?_) (fun aB=>?_)
 replace hm:=QA hm aB
 refine wF Z Q1V (wD 0 1 Z Q27 Q2E Z ?_)
 obtain ⟨c6,b0,hm⟩:=Q6 hm
 refine wC [] [0] Z fn_227 Z (Q7Z N a1 _ b0) (asK [] Z) Z (H':=[_]) Z ?_
 rintro _ _ _ ⟨rfl,rfl,rfl⟩
 refine wP Z (wP Z (wP Z ?_))
 refine Qt (d:=190) (S':=V23 ..) Z Z (fun aC=>?_) (fun aC=>?_)
 replace hm:=QA hm aC
 refine wF Z Q1s (wD 0 4 Z Q1U Q2b Z ?_)
 obtain ⟨aH,aA,hm⟩:=Q6 hm
 refine wC [] [0] Z fn_225 Z (Q2e N rc ih q s j _ aA) (asK [0] Z) Z (H':=[_]) Z ?_
 rintro _ _ _ ⟨rfl,rfl,rfl⟩
 refine wP Z (wP Z (Q3 ?_))
 have hE:=(Zi hm).symm
 refine Qs [] Z (H':=[]) Z ?_
 refine Q9 aH hE [2] Z (asK [] Z) Z
 replace hm:=Qz hm aC
 refine wO Z (wO Z (wO Z (wP Z (wP Z (Q3 ?_)))))
 have hE:=(Zi hm).symm
 refine Qs [] Z (H':=[]) Z ?_
 refine Q9 false hE [2] Z (asK [] Z) Z
 replace hm:=Qz hm aB
 refine wO Z (wO Z (wO Z (wP Z (wP Z (wP Z (wO Z (wO Z (wO Z (wP Z (wP Z (Q3 ?_)))))))))))
 have hE:=(Zi hm).symm
 refine Qs [] Z (H':=[]) Z ?_
 refine Q9 false hE [2] Z (asK [] Z) Z
 replace hm:=Qz hm aX
 refine wO Z (wO Z (wO Z (wO Z (wO Z (wO Z (wO Z (wO Z (wP Z (wP Z (wP Z (wP Z (QH (d:=183) (v':=.bool (j.length == 2)) (S':=V16 ..) Z Z (Q3c (a:=j.length) (b:=2)) (wP Z ?_)))))))))))))
 refine Qt (d:=184) (S':=V17 ..) Z Z (fun aB=>?_) (fun aB=>?_)
 replace hm:=QA hm aB
 refine wF Z Q1V (wD 0 1 Z Q27 Q2E Z ?_)
 obtain ⟨c6,b0,hm⟩:=Q6 hm
 refine wC [] [0] Z fn_227 Z (Q7Z N a1 _ b0) (asK [] Z) Z (H':=[_]) Z ?_
 rintro _ _ _ ⟨rfl,rfl,rfl⟩
 refine wP Z (wP Z (wP Z ?_))
 refine Qt (d:=190) (S':=V23 ..) Z Z (fun aC=>?_) (fun aC=>?_)
 replace hm:=QA hm aC
 refine wF Z Q1s (wD 0 4 Z Q1U Q2b Z ?_)
 obtain ⟨aH,aA,hm⟩:=Q6 hm
 refine wC [] [0] Z fn_225 Z (Q2e N rc ih q s j _ aA) (asK [0] Z) Z (H':=[_]) Z ?_
 rintro _ _ _ ⟨rfl,rfl,rfl⟩
 refine wP Z (wP Z (Q3 ?_))
 have hE:=(Zi hm).symm
 refine Qs [] Z (H':=[]) Z ?_
 refine Q9 aH hE [2] Z (asK [] Z) Z
 replace hm:=Qz hm aC
 refine wO Z (wO Z (wO Z (wP Z (wP Z (Q3 ?_)))))
 have hE:=(Zi hm).symm
 refine Qs [] Z (H':=[]) Z ?_
 refine Q9 false hE [2] Z (asK [] Z) Z
 replace hm:=Qz hm aB
 refine wO Z (wO Z (wO Z (wP Z (wP Z (wP Z (wO Z (wO Z (wO Z (wP Z (wP Z (Q3 ?_)))))))))))
 have hE:=(Zi hm).symm
 refine Qs [] Z (H':=[]) Z ?_
 refine Q9 false hE [2] Z (asK [] Z) Z
 rintro aF hE
 try dsimp only
 have hm:=hLj_7
 rw [hE] at hm
 refine Qb (Qg (Q7 ?_))
 have hE:=(Zi hm).symm
 replace hE:=hE.symm
 subst hE
 refine Ql (Hr:=[]) [] Tryz.results207 (Qc Z) ⟨Z,Z,Z⟩ (asK [] Z) Z Z (.inl Z)
 replace hm:=Qz hm aW
 refine Q2 [] (S':=[]) Z (Qq (Qh (Q4 (Q5 (Q1 (wP Z (Q3 (Q4 (Qb ?_)))))))))
 have hE:=(Zi hm).symm
 replace hE:=hE.symm
 subst hE
 refine Ql (Hr:=[]) [] Tryz.results207 (Qc Z) ⟨Z,Z,Z⟩ (asK [] Z) Z Z (.inl Z)
theorem Qaw (N:Nat) (rc:(List Qa) → Int → Int → (List Int) → Option (Bool)) (ih : ∀ (a6:OA) (a7:Nat) (l0:List Qa) (a1:Int) (a2:Int) (a8:OA) (a9:Nat) (l3:List Int) (o0:Bool),rc l0 a1 a2 l3 = some o0 → Q1o Tryz.prog 169 [.slice a6 l0.length a7,.int .i64 a1,.int .i64 a2,.slice a8 l3.length a9] [.sli 5 Qi a6 a7 l0,.sli 1 R_u8 a8 a9 l3] [] (fun v Φr Hr=>v = .bool o0 ∧ Φr = [] ∧ Hr = [])) (a6:OA) (a7:Nat) (l0:List Qa) (a1:Int) (a2:Int) (a8:OA) (a9:Nat) (l3:List Int) (o0:Bool) (hm:Q6p N rc l0 a1 a2 l3 = some o0):Q1o Tryz.prog 169 [.slice a6 l0.length a7,.int .i64 a1,.int .i64 a2,.slice a8 l3.length a9] [.sli 5 Qi a6 a7 l0,.sli 1 R_u8 a8 a9 l3] [] (fun v Φr Hr=>v = .bool o0 ∧ Φr = [] ∧ Hr = []):=by
 unfold Q6p at hm
 refine QD Tryz.func169 Z Tryz.ntmps169 Z (S:=V4 ..) Z (fun C=>(Q5 (Q1 (wP Z (Q3 (Q4 (Q2 [0,1,2,3] (S':=V4 ..) Z (Q5 ?_))))))))
 obtain ⟨aK,hm,hLj_1⟩:=Q1w hm
 refine QI (σ:=Unit) (fun _=>aK = .inl ()) (fun _=>[]) (fun _=>[]) (fun _=>[]) ?_ ?_
 refine Q5 (Q1 (wP Z (wP Z (Q3 (Q4 (Q2 [9,0,2,3] (S':=V4 ..) Z (Qw (Q1E (σ:=Nat × Int) (fun (aC,q)=>Q1M (Q5U N a2 l3 l0 rc) aC q = some aK) (fun (aC,q)=>aC) (fun (aC,q)=>[(9,.int .i64 q),(0,.slice a6 l0.length a7),(2,.int .i64 a2),(3,.slice a8 l3.length a9)]) (fun (aC,q)=>[.sli 5 Qi a6 a7 l0,.sli 1 R_u8 a8 a9 l3]) (fun (aC,q)=>[]) (N,a1) hm [9,0,2,3] Z (asK [0,1] Z) Z (fun s_ hm=>?_)))))))))
 obtain ⟨aC,q⟩:=s_
 try dsimp only at hm ⊢
 obtain ⟨bD,bE,aO,hq,hLu1⟩:=Q1e hm
 clear hm
 subst aO
 replace hm:=hq
 clear hq
 unfold Q5U at hm
 try dsimp only at hm
 refine Q5 (Q5 (Q1 (wP Z (wP Z (wP Z (Q3 (Q4 (Q2 [15,9,0,2,3] (S':=V5 ..) Z ?_))))))))
 refine Qj Z (fun aE=>?_) (fun aE=>?_)
 replace hm:=QA hm aE
 refine Q2 [9,0,2,3] (S':=V4 ..) Z (Qq (Q4 (Q5 (Qw (Q5 (Q1 (wP Z (Q3 (Q4 (Q5 ?_))))))))))
 obtain ⟨aL,hm,hLj_2⟩:=Q6 hm
 refine QI (σ:=Bool) (fun a0=>aL = a0) (fun a0=>[(9,.int .i64 q),(0,.slice a6 l0.length a7),(2,.int .i64 a2),(3,.slice a8 l3.length a9),(10,.bool a0)]) (fun a0=>[.sli 5 Qi a6 a7 l0,.sli 1 R_u8 a8 a9 l3]) (fun a0=>[]) ?_ ?_
 refine Q5 (Q1 (wP Z (Q3 (Q4 (Qw (Q1E (σ:=Nat × Nat × Bool) (fun (aD,j,z)=>Q1M (Q5V N l3 q l0) aD (j,z) = some aL) (fun (aD,j,z)=>aD) (fun (aD,j,z)=>[(11,.int .i64 ((j:Nat):Int)),(10,.bool z),(9,.int .i64 q),(0,.slice a6 l0.length a7),(2,.int .i64 a2),(3,.slice a8 l3.length a9)]) (fun (aD,j,z)=>[.sli 5 Qi a6 a7 l0,.sli 1 R_u8 a8 a9 l3]) (fun (aD,j,z)=>[]) (N,0,false) hm [11,10,9,0,2,3] Z (asK [0,1] Z) Z (fun s_ hm=>?_)))))))
 obtain ⟨aD,j,z⟩:=s_
 try dsimp only at hm ⊢
 obtain ⟨bF,bG,aP,hq,hLu2⟩:=Q1e hm
 clear hm
 subst aP
 replace hm:=hq
 clear hq
 unfold Q5V at hm
 try dsimp only at hm
 refine Q5 (Q5 (Q1 (wP Z (wP Z (wN Z tE_254 (wP Z (QH (d:=21) (v':=.bool (decide (j < l3.length))) (S':=V9 ..) Z Z (Q2z (a:=j) (b:=l3.length)) (Q3 (Q4 (Q2 [21,11,10,9,0,2,3] (S':=V7 ..) Z ?_))))))))))
 refine Qj Z (fun aF=>?_) (fun aF=>?_)
 replace hm:=QA hm aF
 refine Q2 [11,10,9,0,2,3] (S':=V6 ..) Z (Qq (Q4 (Q5 ?_)))
 obtain ⟨aQ,hm,hLj_3⟩:=Q6 hm
 refine QI (σ:=Bool) (fun s=>aQ = s) (fun s=>[(11,.int .i64 ((j:Nat):Int)),(10,.bool s),(9,.int .i64 q),(0,.slice a6 l0.length a7),(2,.int .i64 a2),(3,.slice a8 l3.length a9)]) (fun s=>[.sli 5 Qi a6 a7 l0,.sli 1 R_u8 a8 a9 l3]) (fun s=>[]) ?_ ?_
 refine Qw ?_
 rcases QG hm with ⟨aG,hm⟩ | ⟨aG,hm⟩
 refine Q18 [0,1,2,3,4,5,6,7,8,9,10,11,12] Z Z (fun hok=>(xP hok 0 Z (xP hok 1 Z (Q1D (d:=25) (v':=.bool true) (S':=V7 ..) Z Z (Q1l aG) (xO hok 2 Z (xO hok 3 Z (xO hok 4 Z (xO hok 5 Z (xO hok 6 Z (xO hok 7 Z (xO hok 8 Z (xO hok 9 Z (xO hok 10 Z (xO hok 11 Z ?_))))))))))))))
 refine xP hok 12 Z (xS hok 13 Z (Q1b (S':=V18 ..) Z Z Z Z Z (Q3 (QV [0,1] [] Z Z (Q11 hok Z (Qh ?_))))))
 have hE:=(Zi hm).symm
 refine Q9 true hE [11,10,9,0,2,3] Z (asK [0,1] Z) Z
 obtain ⟨aR,hm⟩:=Qu hm
 obtain ⟨b4,aS,hm⟩:=Q6 hm
 obtain ⟨b5,aT,hm⟩:=Q6 hm
 refine Q18 [0,1,2,3,4,5,6,7,8,9,10,11,12] Z Z (fun hok=>(xP hok 0 Z (xP hok 1 Z (Q1D (d:=25) (v':=.bool false) (S':=V7 ..) Z Z (Q1l aG) (xP hok 2 Z (xP hok 3 Z (Q4L hok 4 0 q.toNat Z Z Z Zq Z Z Z Z Z (Q1G aR) aS Q1Q QQ (fun bH bI bA b6=>(Q6c Q1t 1 Z (fun bJ aU _=>?_))))))))))
 subst aU
 refine Q8 hok 5 Z Z Z Zq Z Z Z Q2F (Q7n hok 6 1 0 Z Z Z Zq Z Z Z Z (cs:=[_]) Z Q34 Q6O Z Z (xP hok 7 Z (xP hok 8 Z (Q4L hok 9 4 j Z Z Z Zq Z Z Z Z Z Z aT tE_254 Q34 (fun bK bL bB b7=>(Q6c R_u8_opens 1 Z (fun bM aV _=>?_)))))))
 subst aV
 refine Q7n hok 10 0 0 Z Z Z Zq Z Z Z Z (cs:=[_]) Z Q34 Q6O Z Z (xP hok 11 Z (xP hok 12 Z (xS hok 13 Z (Q1b (S':=V18 ..) Z Z Z Z Z (Q3 (QV [0,1,2,3,4,5,6] [] Z Z (Q11 hok Z (Qh ?_))))))))
 have hE:=(Zi hm).symm
 refine Q9 (b4.kind == b5) hE [11,10,9,0,2,3] Z (asK [5,6] Z) Z
 rintro s hE
 try dsimp only
 have hm:=hLj_3
 rw [hE] at hm
 refine Q1 (wP Z (wP Z ?_))
 obtain ⟨aW,hm⟩:=Qu hm
 refine QH (d:=23) (v':=.int .i64 ((j + 1:Nat):Int)) (S':=V7 ..) Z Z (Q1J (a:=j) (b:=1) aW) (Q1b (S':=V7 ..) Z Z Z Z Z (Q3 ?_))
 have hE:=(Zi hm).symm
 replace hE:=QO hLu2 hE
 refine Q1a (_,j + 1,s) (Nat.lt_succ_self _) hE [11,10,9,0,2,3] Z (asK [0,1] Z) Z
 replace hm:=Qz hm aF
 refine Q2 [10,9,0,2,3] (S':=V5 ..) Z (Q1x (Qk (Qk (QJ ?_))))
 have hE:=(Zi hm).symm
 replace hE:=Qv hLu2 hE
 refine Q9 z hE [9,0,2,3,10] Z (asK [0,1] Z) Z
 rintro a0 hE
 try dsimp only
 have hm:=hLj_2
 rw [hE] at hm
 refine Q5 ?_
 obtain ⟨aX,hm,hLj_4⟩:=Q6 hm
 refine QI (σ:=Bool) (fun a5=>aX = a5) (fun a5=>[(9,.int .i64 q),(0,.slice a6 l0.length a7),(2,.int .i64 a2),(3,.slice a8 l3.length a9),(46,.bool a5)]) (fun a5=>[.sli 5 Qi a6 a7 l0,.sli 1 R_u8 a8 a9 l3]) (fun a5=>[]) ?_ ?_
 refine Q1 (wP Z (wP Z (wP Z ?_)))
 refine Qt (d:=39) (S':=V7 ..) Z Z (fun aH=>?_) (fun aH=>?_)
 replace hm:=QA hm aH
 refine wO Z (wO Z (wO Z (wO Z (wO Z (wO Z (wP Z (Q3 ?_)))))))
 have hE:=(Zi hm).symm
 refine Q9 true hE [9,0,2,3,46] Z (asK [0,1] Z) Z
 replace hm:=Qz hm aH
 refine wP Z (wP Z ?_)
 obtain ⟨aY,hm⟩:=Qu hm
 obtain ⟨aI,aZ,hm⟩:=Q6 hm
 refine Q1F 0 q.toNat Z Z Z Zq Z Z Z Z (Q1G aY) aZ Q1Q QQ (fun bN bO bC b8=>(Q22 Q1t 1 Z (fun b0 b1 _=>?_)))
 subst b1
 refine Q21 1 0 Z Z Z Zq Z Z Z (cs:=V5 ..) Z QQ Q1z Z Z ?_
 obtain ⟨b9,b2,hm⟩:=Q6 hm
 refine wC [] [] Z fn_207 Z (Q9G N rc ih aI.kind aI.text aI.num aI.at_ b0.1 b0.2 aI.kids _ b2) (asK [0] Z) Z (H':=[]) Z ?_
 rintro _ _ _ ⟨rfl,rfl,rfl⟩
 refine wP Z (wP Z (Q3 ?_))
 have hE:=(Zi hm).symm
 refine Q9 (!b9) hE [9,0,2,3,46] Z (asK [3,4] Z) Z
 rintro a5 hE
 try dsimp only
 have hm:=hLj_4
 rw [hE] at hm
 refine Qj Z (fun aJ=>?_) (fun aJ=>?_)
 replace hm:=QA hm aJ
 refine Q2 [] (S':=[]) Z (Q5 (Q1 (wP Z (Q3 (Q4 (Qb (Qg (Q7 (Q7 (Qg (Q7 ?_)))))))))))
 have hE:=(Zi hm).symm
 replace hE:=Qv hLu1 hE
 replace hE:=Qv hLj_1 hE
 replace hE:=hE.symm
 subst hE
 refine Ql (Hr:=[]) [] Tryz.results169 (Qc Z) ⟨Z,Z,Z⟩ (asK [] Z) Z Z (.inl Z)
 replace hm:=Qz hm aJ
 refine Q2 [9,0,2,3] (S':=V4 ..) Z (Qq (Qh (Q4 (Q1 (wP Z (wP Z ?_))))))
 obtain ⟨b3,hm⟩:=Qu hm
 refine QH (d:=17) (v':=.int .i64 (q + 1)) (S':=V5 ..) Z Z (i64_in b3) (Q1b (S':=V5 ..) Z Z Z Z Z (Q3 ?_))
 have hE:=(Zi hm).symm
 replace hE:=QO hLu1 hE
 refine Q1a (_,q + 1) (Nat.lt_succ_self _) hE [9,0,2,3] Z (asK [0,1] Z) Z
 replace hm:=Qz hm aE
 refine Q2 [] (S':=[]) Z (Q1x (Qk (Qk (QJ ?_))))
 have hE:=(Zi hm).symm
 replace hE:=Qv hLu1 hE
 refine Q9 () hE [] Z (asK [] Z) Z
 rintro _ hE
 try dsimp only
 have hm:=QO hLj_1 hE
 try dsimp only at hm
 refine Q5 (Q1 (wP Z (Q3 (Q4 (Qb ?_)))))
 have hE:=(Zi hm).symm
 replace hE:=hE.symm
 subst hE
 refine Ql (Hr:=[]) [] Tryz.results169 (Qc Z) ⟨Z,Z,Z⟩ (asK [] Z) Z Z (.inl Z)
theorem Qbc : ∀ (N:Nat),∀ (qp0:OA) (qc1:Nat) (l0:List Qa) (a1:Int) (a2:Int) (qp2:OA) (qc3:Nat) (l3:List Int) (o0:Bool),Q5f N l0 a1 a2 l3 = some o0 → Q1o Tryz.prog 169 [.slice qp0 l0.length qc1,.int .i64 a1,.int .i64 a2,.slice qp2 l3.length qc3] [.sli 5 Qi qp0 qc1 l0,.sli 1 R_u8 qp2 qc3 l3] [] (fun v Φr Hr=>v = .bool o0 ∧ Φr = [] ∧ Hr = []):=by
 intro N
 induction N with
 | zero=>intro qp0 qc1 l0 a1 a2 qp2 qc3 l3 o0 hm; cases hm
 | succ N ih=>intro qp0 qc1 l0 a1 a2 qp2 qc3 l3 o0 hm; exact Qaw N (Q5f N) ih qp0 qc1 l0 a1 a2 qp2 qc3 l3 o0 hm
theorem Qa6 (N:Nat) (rc:Int → ByteArray → Int → Int → (List Qa) → Option (Nat)) (ih : ∀ (a0:Int) (a1:ByteArray) (a2:Int) (a3:Int) (z:OA) (a5:Nat) (l4:List Qa) (o0:Nat),rc a0 a1 a2 a3 l4 = some o0 → Q1o Tryz.prog 170 [.agg #[.int .u8 a0,.string a1,.int .i64 a2,.int .i64 a3,.slice z l4.length a5]] [.sli 5 Qi z a5 l4] [] (fun v Φr Hr=>v = .int .i64 ((o0:Nat):Int) ∧ Φr = [] ∧ Hr = [])) (a0:Int) (a1:ByteArray) (a2:Int) (a3:Int) (z:OA) (a5:Nat) (l4:List Qa) (o0:Nat) (hm:Q5S N rc a0 a1 a2 a3 l4 = some o0):Q1o Tryz.prog 170 [.agg #[.int .u8 a0,.string a1,.int .i64 a2,.int .i64 a3,.slice z l4.length a5]] [.sli 5 Qi z a5 l4] [] (fun v Φr Hr=>v = .int .i64 ((o0:Nat):Int) ∧ Φr = [] ∧ Hr = []):=by
 unfold Q5S at hm
 refine QD Tryz.func170 Z Tryz.ntmps170 Z (S:=[_]) Z (fun C=>(Q5 (Q1 (wB Z (fun g1=>(wP Z (Q3 (Q4 (Q2 [1] (S':=[_]) Z (Q5 (Q1 (wP Z (Q3 (Q4 (Q5 ?_)))))))))))))))
 obtain ⟨a9,hm,hLj_1⟩:=Q6 hm
 refine QI (σ:=Nat) (fun q=>a9 = q) (fun q=>[(3,.int .i64 ((q:Nat):Int))]) (fun q=>[]) (fun q=>[]) ?_ ?_
 refine Q5 (Q1 (wP Z (Q3 (Q4 (Qw (Q1E (σ:=Nat × Nat × Nat) (fun (a6,j,s)=>Q1M (Q5l N l4 rc) a6 (j,s) = some a9) (fun (a6,j,s)=>a6) (fun (a6,j,s)=>[(4,.int .i64 ((j:Nat):Int)),(3,.int .i64 ((s:Nat):Int)),(1,.pointer (some ⟨g1,0,none⟩))]) (fun (a6,j,s)=>[.sli 5 Qi z a5 l4]) (fun (a6,j,s)=>[.blk g1 [.int .u8 a0,.string a1,.int .i64 a2,.int .i64 a3,.slice z l4.length a5] 159]) (N,0,0) hm [4,3,1] Z (asK [0] Z) Z (fun s_ hm=>?_)))))))
 obtain ⟨a6,j,s⟩:=s_
 try dsimp only at hm ⊢
 obtain ⟨aP,aQ,aF,hq,hLu1⟩:=Q1e hm
 clear hm
 subst aF
 replace hm:=hq
 clear hq
 unfold Q5l at hm
 try dsimp only at hm
 refine Q5 (Q5 (Q1 (wP Z (wF Z Q1s (wD 0 4 Z Q1U Q2b Z (wN Z Q1Q (wP Z (QH (d:=9) (v':=.bool (decide (j < l4.length))) (S':=V7 ..) Z Z (Q2z (a:=j) (b:=l4.length)) (Q3 (Q4 (Q2 [9,4,3,1] (S':=V4 ..) Z ?_)))))))))))
 refine Qj Z (fun aA=>?_) (fun aA=>?_)
 replace hm:=QA hm aA
 refine Q2 [4,3,1] (S':=V3 ..) Z (Qq (Q4 (Q5 (Qw (Q1 (wP Z (wF Z Q1s (wD 0 4 Z Q1U Q2b Z (wP Z ?_)))))))))
 obtain ⟨a8,aG,hm⟩:=Q6 hm
 refine Q1F 0 j Z Z Z Zq Z Z Z Z Z aG Q1Q QQ (fun aR aS aO aM=>(Q22 Q1t 1 Z (fun aH aI _=>?_)))
 subst aI
 refine Q21 1 0 Z Z Z Zq Z Z Z (cs:=V5 ..) Z QQ Q1z Z Z ?_
 obtain ⟨aB,aJ,hm⟩:=Q6 hm
 refine wC [] [0] Z fn_170 Z (ih a8.kind a8.text a8.num a8.at_ aH.1 aH.2 a8.kids _ aJ) (asK [0] Z) Z (H':=[_]) Z ?_
 rintro _ _ _ ⟨rfl,rfl,rfl⟩
 refine Q1B Z Z Z Zq (rk_max Z Z Z) (QH (d:=19) (v':=.int .i64 ((max s aB:Nat):Int)) (S':=V10 ..) Z Z (maxI_nat (a:=s) (b:=aB)) (Q1b (S':=V10 ..) Z Z Z Z Z (Q3 (Qh (Q4 (Q2 [3,4,1] (S':=V3 ..) Z (Q1 (wP Z (wP Z ?_)))))))))
 obtain ⟨aK,hm⟩:=Qu hm
 refine QH (d:=11) (v':=.int .i64 ((j + 1:Nat):Int)) (S':=V4 ..) Z Z (Q1J (a:=j) (b:=1) aK) (Q1b (S':=V4 ..) Z Z Z Z Z (Q3 ?_))
 have hE:=(Zi hm).symm
 replace hE:=QO hLu1 hE
 refine Q1a (_,j + 1,max s aB) (Nat.lt_succ_self _) hE [4,3,1] Z (asK [3] Z) Z
 replace hm:=Qz hm aA
 refine Q2 [3] (S':=[_]) Z (Q1x (Qk (Qk (QJ ?_))))
 have hE:=(Zi hm).symm
 replace hE:=Qv hLu1 hE
 refine Qs [] Z (H':=[]) Z ?_
 refine Q9 s hE [3] Z (asK [] Z) Z
 rintro q hE
 try dsimp only
 have hm:=hLj_1
 rw [hE] at hm
 refine Q5 (Q1 (wP Z (wP Z ?_)))
 obtain ⟨aL,hm⟩:=Qu hm
 refine QH (d:=21) (v':=.int .i64 ((q + 1:Nat):Int)) (S':=[_,_]) Z Z (Q1J (a:=q) (b:=1) aL) (wP Z (Q3 (Q4 (Q2 [2] (S':=[_]) Z (Qb ?_)))))
 have hE:=(Zi hm).symm
 replace hE:=hE.symm
 subst hE
 refine Ql (Hr:=[]) [] Tryz.results170 (Qc Z) ⟨Z,Z,Z⟩ (asK [] Z) Z Z (.inl Z)
theorem QaY : ∀ (N:Nat),∀ (a0:Int) (a1:ByteArray) (a2:Int) (a3:Int) (qp0:OA) (qc1:Nat) (l4:List Qa) (o0:Nat),Q4P N a0 a1 a2 a3 l4 = some o0 → Q1o Tryz.prog 170 [.agg #[.int .u8 a0,.string a1,.int .i64 a2,.int .i64 a3,.slice qp0 l4.length qc1]] [.sli 5 Qi qp0 qc1 l4] [] (fun v Φr Hr=>v = .int .i64 ((o0:Nat):Int) ∧ Φr = [] ∧ Hr = []):=by
 intro N
 induction N with
 | zero=>intro a0 a1 a2 a3 qp0 qc1 l4 o0 hm; cases hm
 | succ N ih=>intro a0 a1 a2 a3 qp0 qc1 l4 o0 hm; exact Qa6 N (Q4P N) ih a0 a1 a2 a3 qp0 qc1 l4 o0 hm
theorem Qa7 (N:Nat) (rc:Int → ByteArray → Int → Int → (List Qa) → Option (Nat)) (ih : ∀ (a0:Int) (a1:ByteArray) (a2:Int) (a3:Int) (z:OA) (a5:Nat) (l4:List Qa) (o0:Nat),rc a0 a1 a2 a3 l4 = some o0 → Q1o Tryz.prog 171 [.agg #[.int .u8 a0,.string a1,.int .i64 a2,.int .i64 a3,.slice z l4.length a5]] [.sli 5 Qi z a5 l4] [] (fun v Φr Hr=>v = .int .i64 ((o0:Nat):Int) ∧ Φr = [] ∧ Hr = [])) (a0:Int) (a1:ByteArray) (a2:Int) (a3:Int) (z:OA) (a5:Nat) (l4:List Qa) (o0:Nat) (hm:Q5T N rc a0 a1 a2 a3 l4 = some o0):Q1o Tryz.prog 171 [.agg #[.int .u8 a0,.string a1,.int .i64 a2,.int .i64 a3,.slice z l4.length a5]] [.sli 5 Qi z a5 l4] [] (fun v Φr Hr=>v = .int .i64 ((o0:Nat):Int) ∧ Φr = [] ∧ Hr = []):=by
 unfold Q5T at hm
 refine QD Tryz.func171 Z Tryz.ntmps171 Z (S:=[_]) Z (fun C=>(Q5 (Q1 (wB Z (fun g1=>(wP Z (Q3 (Q4 (Q2 [1] (S':=[_]) Z (Q5 (Q1 (wP Z (Q3 (Q4 (Q5 ?_)))))))))))))))
 obtain ⟨a9,hm,hLj_1⟩:=Q6 hm
 refine QI (σ:=Nat) (fun s=>a9 = s) (fun s=>[(3,.int .i64 ((s:Nat):Int))]) (fun s=>[]) (fun s=>[]) ?_ ?_
 refine Q5 (Q1 (wP Z (Q3 (Q4 (Qw (Q1E (σ:=Nat × Nat × Nat) (fun (a6,j,q)=>Q1M (Q5m N l4 rc) a6 (j,q) = some a9) (fun (a6,j,q)=>a6) (fun (a6,j,q)=>[(4,.int .i64 ((j:Nat):Int)),(3,.int .i64 ((q:Nat):Int)),(1,.pointer (some ⟨g1,0,none⟩))]) (fun (a6,j,q)=>[.sli 5 Qi z a5 l4]) (fun (a6,j,q)=>[.blk g1 [.int .u8 a0,.string a1,.int .i64 a2,.int .i64 a3,.slice z l4.length a5] 159]) (N,0,1) hm [4,3,1] Z (asK [0] Z) Z (fun s_ hm=>?_)))))))
 obtain ⟨a6,j,q⟩:=s_
 try dsimp only at hm ⊢
 obtain ⟨aP,aQ,aF,hq,hLu1⟩:=Q1e hm
 clear hm
 subst aF
 replace hm:=hq
 clear hq
 unfold Q5m at hm
 try dsimp only at hm
 refine Q5 (Q5 (Q1 (wP Z (wF Z Q1s (wD 0 4 Z Q1U Q2b Z (wN Z Q1Q (wP Z (QH (d:=9) (v':=.bool (decide (j < l4.length))) (S':=V7 ..) Z Z (Q2z (a:=j) (b:=l4.length)) (Q3 (Q4 (Q2 [9,4,3,1] (S':=V4 ..) Z ?_)))))))))))
 refine Qj Z (fun aA=>?_) (fun aA=>?_)
 replace hm:=QA hm aA
 refine Q2 [4,3,1] (S':=V3 ..) Z (Qq (Q4 (Q5 (Qw (Q1 (wP Z (wF Z Q1s (wD 0 4 Z Q1U Q2b Z (wP Z ?_)))))))))
 obtain ⟨a8,aG,hm⟩:=Q6 hm
 refine Q1F 0 j Z Z Z Zq Z Z Z Z Z aG Q1Q QQ (fun aR aS aO aM=>(Q22 Q1t 1 Z (fun aH aI _=>?_)))
 subst aI
 refine Q21 1 0 Z Z Z Zq Z Z Z (cs:=V5 ..) Z QQ Q1z Z Z ?_
 obtain ⟨aB,aJ,hm⟩:=Q6 hm
 refine wC [] [0] Z fn_171 Z (ih a8.kind a8.text a8.num a8.at_ aH.1 aH.2 a8.kids _ aJ) (asK [0] Z) Z (H':=[_]) Z ?_
 rintro _ _ _ ⟨rfl,rfl,rfl⟩
 refine wP Z ?_
 obtain ⟨aK,hm⟩:=Qu hm
 refine QH (d:=19) (v':=.int .i64 ((q + aB:Nat):Int)) (S':=V10 ..) Z Z (Q1J (a:=q) (b:=aB) aK) (Q1b (S':=V10 ..) Z Z Z Z Z (Q3 (Qh (Q4 (Q2 [3,4,1] (S':=V3 ..) Z (Q1 (wP Z (wP Z ?_))))))))
 obtain ⟨aL,hm⟩:=Qu hm
 refine QH (d:=11) (v':=.int .i64 ((j + 1:Nat):Int)) (S':=V4 ..) Z Z (Q1J (a:=j) (b:=1) aL) (Q1b (S':=V4 ..) Z Z Z Z Z (Q3 ?_))
 have hE:=(Zi hm).symm
 replace hE:=QO hLu1 hE
 refine Q1a (_,j + 1,q + aB) (Nat.lt_succ_self _) hE [4,3,1] Z (asK [3] Z) Z
 replace hm:=Qz hm aA
 refine Q2 [3] (S':=[_]) Z (Q1x (Qk (Qk (QJ ?_))))
 have hE:=(Zi hm).symm
 replace hE:=Qv hLu1 hE
 refine Qs [] Z (H':=[]) Z ?_
 refine Q9 q hE [3] Z (asK [] Z) Z
 rintro s hE
 try dsimp only
 have hm:=hLj_1
 rw [hE] at hm
 refine Q5 (Q1 (wP Z (wP Z (Q3 (Q4 (Q2 [2] (S':=[_]) Z (Qb ?_)))))))
 have hE:=(Zi hm).symm
 replace hE:=hE.symm
 subst hE
 refine Ql (Hr:=[]) [] Tryz.results171 (Qc Z) ⟨Z,Z,Z⟩ (asK [] Z) Z Z (.inl Z)
theorem QaZ : ∀ (N:Nat),∀ (a0:Int) (a1:ByteArray) (a2:Int) (a3:Int) (qp0:OA) (qc1:Nat) (l4:List Qa) (o0:Nat),Q4Q N a0 a1 a2 a3 l4 = some o0 → Q1o Tryz.prog 171 [.agg #[.int .u8 a0,.string a1,.int .i64 a2,.int .i64 a3,.slice qp0 l4.length qc1]] [.sli 5 Qi qp0 qc1 l4] [] (fun v Φr Hr=>v = .int .i64 ((o0:Nat):Int) ∧ Φr = [] ∧ Hr = []):=by
 intro N
 induction N with
 | zero=>intro a0 a1 a2 a3 qp0 qc1 l4 o0 hm; cases hm
 | succ N ih=>intro a0 a1 a2 a3 qp0 qc1 l4 o0 hm; exact Qa7 N (Q4Q N) ih a0 a1 a2 a3 qp0 qc1 l4 o0 hm
theorem Qav (N:Nat) (a0:Int) (a1:ByteArray) (a2:Int) (a3:Int) (q:OA) (s:Nat) (l4:List Qa) (o0:Bool) (hm:Q6o N a0 a1 a2 a3 l4 = some o0):Q1o Tryz.prog 128 [.agg #[.int .u8 a0,.string a1,.int .i64 a2,.int .i64 a3,.slice q l4.length s]] [.sli 5 Qi q s l4] [] (fun v Φr Hr=>v = .bool o0 ∧ Φr = [] ∧ Hr = []):=by
 unfold Q6o at hm
 refine QD Tryz.func128 Z Tryz.ntmps128 Z (S:=[_]) Z (fun C=>(Q5 (Q1 (wB Z (fun g1=>(wP Z (Q3 (Q4 (Q2 [1] (S':=[_]) Z (Q5 (Q5 ?_)))))))))))
 obtain ⟨aD,hm,hLj_1⟩:=Q6 hm
 unfold Q7e at hm
 refine QI (σ:=Bool) (fun j=>aD = j) (fun j=>[(1,.pointer (some ⟨g1,0,none⟩)),(20,.bool j)]) (fun j=>[.sli 5 Qi q s l4]) (fun j=>[.blk g1 [.int .u8 a0,.string a1,.int .i64 a2,.int .i64 a3,.slice q l4.length s] 159]) ?_ ?_
 refine Q1 (wF Z Q2F (wD 0 0 Z Q34 Q6O Z (wP Z (wP Z ?_))))
 refine Qt (d:=6) (S':=V4 ..) Z Z (fun aA=>?_) (fun aA=>?_)
 replace hm:=QA hm aA
 refine wO Z (wO Z (wO Z (wP Z (wP Z (wO Z (wO Z (wO Z (wP Z (wP Z (wO Z (wO Z (wO Z (wP Z ?_)))))))))))))
 refine Q3 ?_
 have hE:=(Zi hm).symm
 refine Q9 true hE [1,20] Z (asK [0] Z) Z
 replace hm:=Qz hm aA
 refine wF Z Q1V (wD 0 1 Z Q27 Q2E Z (wP Z (wP Z (wP Z ?_))))
 refine Qt (d:=11) (S':=V9 ..) Z Z (fun z=>?_) (fun z=>?_)
 replace hm:=QA hm z
 refine wO Z (wO Z (wO Z (wP Z (wP Z (wO Z (wO Z (wO Z (wP Z (Q3 ?_)))))))))
 have hE:=(Zi hm).symm
 refine Q9 true hE [1,20] Z (asK [0] Z) Z
 replace hm:=Qz hm z
 refine wF Z Q4q (wD 0 2 Z Q1A Q1N Z (wP Z (wP Z (wP Z ?_))))
 refine Qt (d:=16) (S':=V14 ..) Z Z (fun a5=>?_) (fun a5=>?_)
 replace hm:=QA hm a5
 refine wO Z (wO Z (wO Z (wP Z (Q3 ?_))))
 have hE:=(Zi hm).symm
 refine Q9 true hE [1,20] Z (asK [0] Z) Z
 replace hm:=Qz hm a5
 refine wF Z Qan (wD 0 3 Z Q1A Q1N Z (wP Z (wP Z (Q3 ?_))))
 have hE:=(Zi hm).symm
 refine Q9 (decide (a3 < 0)) hE [1,20] Z (asK [0] Z) Z
 rintro j hE
 try dsimp only
 have hm:=hLj_1
 rw [hE] at hm
 refine Qj Z (fun a6=>?_) (fun a6=>?_)
 replace hm:=QA hm a6
 refine Q2 [] (S':=[]) Z (Q5 (Q1 (wP Z (Q3 (Q4 (Qb (Q7 ?_)))))))
 have hE:=(Zi hm).symm
 replace hE:=hE.symm
 subst hE
 refine Ql (Hr:=[]) [] Tryz.results128 (Qc Z) ⟨Z,Z,Z⟩ (asK [] Z) Z Z (.inl Z)
 replace hm:=Qz hm a6
 refine Q2 [1] (S':=[_]) Z (Qq (Q4 (Q5 (Q1 (wF Z Q1s (wD 0 4 Z Q1U Q2b Z (wF Z Q1s (wD 0 4 Z Q1U Q2b Z (wN Z Q1Q (Qy Z Z Z Zq Z tE_254 Q34 tZ_156 Z (zs:=[.int .u8 0,.int .u8 0]) (by kernel_rfl) Z (out:=[_,_]) Z (fun aJ=>(Q2f (sz:=1) (m:=2) R_u8 ([2,4]) 0 Z (fun F w hφ=>⟨[.int .u8 2],[.int .u8 4],Z,Z,⟨(),Z,Qr⟩,⟨[.int .u8 4],[],Z,Z,⟨(),Z,Qr⟩,Z⟩⟩) Z (by decide) (H':=[_,_]) Z ?_))))))))))))
 obtain ⟨aM,aE,hm⟩:=Q6 hm
 refine Q3g [] [0,1] [0] Z Z Z Zq Z Z fn_169 Z (Qbc N q s l4 0 ((l4.length:Nat):Int) (some ⟨aJ,0,none⟩) 2 [2,4] _ aE) (fun F w hφ hh=>(QS (hφ _ (Q10 (k:=0) Z)) (QS (Q1K (hh _ (Q10 (k:=0) Z))) Qr))) (fun _ _ _ hR=>by obtain ⟨rfl,rfl,rfl⟩:=hR; exact ⟨Z,(fun _ h=>Q2A h)⟩) Z Z (H':=[_,_]) Z ?_
 rintro _ _ _ ⟨rfl,rfl,rfl⟩
 refine wP Z ?_
 refine Qt (d:=28) (S':=V8 ..) Z Z (fun a7=>?_) (fun a7=>?_)
 replace hm:=QA hm a7
 refine QR 1 0 Z Z Z Zq Z Z Z (cs:=V5 ..) Z QQ Q1z Z Z ?_
 obtain ⟨aF,aG,hm⟩:=Q6 hm
 refine wC [] [0,1] Z fn_170 Z (QaY N a0 a1 a2 a3 q s l4 _ aG) (asK [0] Z) Z (H':=[_,_]) Z ?_
 rintro _ _ _ ⟨rfl,rfl,rfl⟩
 refine wP Z (QH (d:=31) (v':=.bool (decide (aF ≤ 30))) (S':=V11 ..) Z Z (natle (a:=aF) (b:=30)) (wP Z (wP Z ?_)))
 refine Qt (d:=33) (S':=V13 ..) Z Z (fun a8=>?_) (fun a8=>?_)
 replace hm:=QA hm a8
 refine QR 1 0 Z Z Z Zq Z Z Z (cs:=V5 ..) Z QQ Q1z Z Z ?_
 obtain ⟨aH,aI,hm⟩:=Q6 hm
 refine wC [] [0,1] Z fn_171 Z (QaZ N a0 a1 a2 a3 q s l4 _ aI) (asK [0] Z) Z (H':=[_,_]) Z ?_
 rintro _ _ _ ⟨rfl,rfl,rfl⟩
 refine wP Z (QH (d:=36) (v':=.bool (decide (aH ≤ 4096))) (S':=V16 ..) Z Z (natle (a:=aH) (b:=4096)) (wP Z (wP Z (Q3 (Q4 (Q2 [2] (S':=[_]) Z (Qb ?_)))))))
 have hE:=(Zi hm).symm
 replace hE:=hE.symm
 subst hE
 refine Ql (Hr:=[]) [] Tryz.results128 (Qc Z) ⟨Z,Z,Z⟩ (asK [] Z) Z Z (.inl Z)
 replace hm:=Qz hm a8
 refine wO Z (wO Z (wO Z (wP Z (wP Z (Q3 (Q4 (Q2 [2] (S':=[_]) Z (Qb ?_))))))))
 have hE:=(Zi hm).symm
 replace hE:=hE.symm
 subst hE
 refine Ql (Hr:=[]) [] Tryz.results128 (Qc Z) ⟨Z,Z,Z⟩ (asK [] Z) Z Z (.inl Z)
 replace hm:=Qz hm a7
 refine wO Z (wO Z (wO Z (wP Z (wP Z (wO Z (wO Z (wO Z (wP Z (wP Z (Q3 (Q4 (Q2 [2] (S':=[_]) Z (Qb ?_)))))))))))))
 have hE:=(Zi hm).symm
 replace hE:=hE.symm
 subst hE
 refine Ql (Hr:=[]) [] Tryz.results128 (Qc Z) ⟨Z,Z,Z⟩ (asK [] Z) Z Z (.inl Z)
theorem Q6b (N:Nat) (aC:Nat) (q:OA) (s:Nat) (z:Nat) (l0:List Qn) (a0:OA) (a1:Nat) (a7:Nat) (l1:List Qp) (a8:OA) (a9:Nat) (aA:Nat) (l2:List ByteArray) (a3:Int) (a4:Int) (a5:Int) (a6:ByteArray) (o0:Int) (hm:Q39 N l0 l1 l2 a3 a4 a5 a6 = some o0):Q1o Tryz.prog 173 [.pointer (some ⟨aC,0,none⟩),.string a6] [] [.blk aC [.slice q s z,.slice a0 a1 a7,.slice a8 a9 aA,.int .i64 a3,.int .i64 a4,.int .i64 a5] 206,.own 69 2 Qf (.slice q s z) l0,.own 52 5 Qe (.slice a0 a1 a7) l1,.own 9 1 Q1y (.slice a8 a9 aA) l2] (fun v Φr Hr=>v = .int .i64 o0 ∧ Φr = [] ∧ Hr = [.blk aC [.slice q s z,.slice a0 a1 a7,.slice a8 a9 aA,.int .i64 a3,.int .i64 a4,.int .i64 a5] 206,.own 69 2 Qf (.slice q s z) l0,.own 52 5 Qe (.slice a0 a1 a7) l1,.own 9 1 Q1y (.slice a8 a9 aA) l2]):=by
 unfold Q39 at hm
 refine QD Tryz.func173 Z Tryz.ntmps173 Z (S:=[_,_]) Z (fun C=>(Q5 (Q1 (wP Z (Q3 (Q4 (Q2 [0,1] (S':=[_,_]) Z (Q5 ?_))))))))
 obtain ⟨aG,hm,hLj_1⟩:=Q1w hm
 refine QI (σ:=Unit) (fun _=>aG = .inl ()) (fun _=>[]) (fun _=>[]) (fun _=>[.blk aC [.slice q s z,.slice a0 a1 a7,.slice a8 a9 aA,.int .i64 a3,.int .i64 a4,.int .i64 a5] 206,.own 69 2 Qf (.slice q s z) l0,.own 52 5 Qe (.slice a0 a1 a7) l1,.own 9 1 Q1y (.slice a8 a9 aA) l2]) ?_ ?_
 refine Q5 (Q1 (wP Z (Q3 (Q4 (Qw (Q1E (σ:=Nat × Nat) (fun (aB,j)=>Q1M (Q3H N l0 a6) aB j = some aG) (fun (aB,j)=>aB) (fun (aB,j)=>[(5,.int .i64 ((j:Nat):Int)),(0,.pointer (some ⟨aC,0,none⟩)),(1,.string a6)]) (fun (aB,j)=>[]) (fun (aB,j)=>[.blk aC [.slice q s z,.slice a0 a1 a7,.slice a8 a9 aA,.int .i64 a3,.int .i64 a4,.int .i64 a5] 206,.own 69 2 Qf (.slice q s z) l0,.own 52 5 Qe (.slice a0 a1 a7) l1,.own 9 1 Q1y (.slice a8 a9 aA) l2]) (N,0) hm [5,0,1] Z (asK [] Z) Z (fun s_ hm=>?_)))))))
 obtain ⟨aB,j⟩:=s_
 try dsimp only at hm ⊢
 obtain ⟨aS,aT,aL,hq,hLu1⟩:=Q1e hm
 clear hm
 subst aL
 replace hm:=hq
 clear hq
 unfold Q3H at hm
 try dsimp only at hm
 refine Q5 (Q5 (Q1 (wP Z (wP Z (wP Z (wF Z Q4r (wF Z Q4V (wD 0 0 Z Q8y Q91 Z (Q15 1 Z (fun aM _=>(wN Z Q7z (QH (d:=12) (v':=.int .i64 ((l0.length:Nat):Int)) (S':=V9 ..) Z Z (Q4Y aM) (wP Z (QH (d:=13) (v':=.bool (decide (j < l0.length))) (S':=V10 ..) Z Z (Q2z (a:=j) (b:=l0.length)) ?_))))))))))))))
 refine Q3 (Q4 (Q2 [13,5,0,1] (S':=V4 ..) Z ?_))
 refine Qj Z (fun aD=>?_) (fun aD=>?_)
 replace hm:=QA hm aD
 refine Q2 [5,0,1] (S':=V3 ..) Z (Qq (Q4 (Q5 (Qw (Q5 (Q1 (wP Z (wP Z (wF Z Q4r (wF Z Q4V (wD 0 0 Z Q8y Q91 Z (wP Z ?_))))))))))))
 obtain ⟨aQ,aH,hm⟩:=Q6 hm
 refine Q5D 1 j Z Z Z Zq Z Z Z Z Z (Q2t aH) Q7z tS_69 (fun aU aN=>?_)
 subst aN
 refine wF Z QaO (Q1T Q37 1 j 0 Z Z Z Zq Z Z Z aH Q27 Q2E (v:=fun _=>.string aQ.name) (fun _=>Z) (fun _=>Z) (fun _ _=>(wP Z (wP Z (Q3 (Q4 (Q2 [26,5,0,1] (S':=V4 ..) Z ?_)))))))
 refine Qj Z (fun aE=>?_) (fun aE=>?_)
 replace hm:=QA hm aE
 refine Q2 [5] (S':=[_]) Z (Q5 (Q1 (wP Z (wP Z (Q3 (Q4 (Q2 [4] (S':=[_]) Z (Qb (Qg (Q7 (Q7 (Qg (Q7 ?_)))))))))))))
 have hE:=(Zi hm).symm
 replace hE:=Qv hLu1 hE
 replace hE:=Qv hLj_1 hE
 replace hE:=hE.symm
 subst hE
 refine Ql (Hr:=V4 ..) [0,1,2,3] Tryz.results173 (Qc Z) ⟨Z,Z,Z⟩ (asK [] Z) Z Z (.inl Z)
 replace hm:=Qz hm aE
 refine Q2 [5,0,1] (S':=V3 ..) Z (Qq (Qh (Q4 (Q1 (wP Z (wP Z ?_))))))
 obtain ⟨aO,hm⟩:=Qu hm
 refine QH (d:=15) (v':=.int .i64 ((j + 1:Nat):Int)) (S':=V4 ..) Z Z (Q1J (a:=j) (b:=1) aO) (Q1b (S':=V4 ..) Z Z Z Z Z (Q3 ?_))
 have hE:=(Zi hm).symm
 replace hE:=QO hLu1 hE
 refine Q1a (_,j + 1) (Nat.lt_succ_self _) hE [5,0,1] Z (asK [] Z) Z
 replace hm:=Qz hm aD
 refine Q2 [] (S':=[]) Z (Q1x (Qk (Qk (QJ ?_))))
 have hE:=(Zi hm).symm
 replace hE:=Qv hLu1 hE
 refine Q9 () hE [] Z (asK [] Z) Z
 rintro _ hE
 try dsimp only
 have hm:=QO hLj_1 hE
 try dsimp only at hm
 refine Q5 (Q1 (wP Z (Q3 (Q4 (Qb ?_)))))
 have hE:=(Zi hm).symm
 replace hE:=hE.symm
 subst hE
 refine Ql (Hr:=V4 ..) [0,1,2,3] Tryz.results173 (Qc Z) ⟨Z,Z,Z⟩ (asK [] Z) Z Z (.inl Z)
theorem Q19 (N:Nat) (aG:Nat) (z:OA) (a0:Nat) (a1:Nat) (l0:List Qn) (aA:OA) (aB:Nat) (aC:Nat) (l1:List Qp) (aD:OA) (aE:Nat) (aF:Nat) (l2:List ByteArray) (a3:Int) (a4:Int) (a5:Int) (a6:Bool) (a7:Int) (a8:Int) (a9:ByteArray) (aJ:Int) (aK:Int) (q:OA) (s:Nat) (aH:List Qa) (o0:Int) (o1:Int) (hm:Q16 N l0 l1 l2 a3 a4 a5 a6 a7 a8 a9 aJ aK aH = some (o0,o1)):Q1o Tryz.prog 172 [.pointer (some ⟨aG,0,none⟩),.bool a6,.int .i64 a7,.agg #[.int .u8 a8,.string a9,.int .i64 aJ,.int .i64 aK,.slice q aH.length s]] [.sli 5 Qi q s aH] [.blk aG [.slice z a0 a1,.slice aA aB aC,.slice aD aE aF,.int .i64 a3,.int .i64 a4,.int .i64 a5] 206,.own 69 2 Qf (.slice z a0 a1) l0,.own 52 5 Qe (.slice aA aB aC) l1,.own 9 1 Q1y (.slice aD aE aF) l2] (fun v Φr Hr=>v = .tuple #[] ∧ Φr = [] ∧ Hr = [.blk aG [.slice z a0 a1,.slice aA aB aC,.slice aD aE aF,.int .i64 a3,.int .i64 o0,.int .i64 o1] 206,.own 69 2 Qf (.slice z a0 a1) l0,.own 52 5 Qe (.slice aA aB aC) l1,.own 9 1 Q1y (.slice aD aE aF) l2]):=by
 unfold Q16 at hm
 refine QD Tryz.func172 Z Tryz.ntmps172 Z (S:=V4 ..) Z (fun C=>(Q5 (Q1 (wB Z (fun g7=>(Q3 (Q4 (Q2 [7,0,1,2] (S':=V4 ..) Z (Q5 ?_)))))))))
 obtain ⟨aM,hm,hLj_1⟩:=Q6 hm
 refine QI (σ:=Bool) (fun j=>aM = j) (fun j=>[(7,.pointer (some ⟨g7,0,none⟩)),(0,.pointer (some ⟨aG,0,none⟩)),(2,.int .i64 a7),(16,.bool j)]) (fun j=>[.sli 5 Qi q s aH]) (fun j=>[.blk g7 [.int .u8 a8,.string a9,.int .i64 aJ,.int .i64 aK,.slice q aH.length s] 159,.blk aG [.slice z a0 a1,.slice aA aB aC,.slice aD aE aF,.int .i64 a3,.int .i64 a4,.int .i64 a5] 206,.own 69 2 Qf (.slice z a0 a1) l0,.own 52 5 Qe (.slice aA aB aC) l1,.own 9 1 Q1y (.slice aD aE aF) l2]) ?_ ?_
 refine Q1 (wP Z (wP Z ?_))
 refine Qt (d:=9) (S':=V5 ..) Z Z (fun aL=>?_) (fun aL=>?_)
 replace hm:=QA hm aL
 refine wP Z (wP Z (wF Z Q9x (wF Z Q9v (wD 1 4 Z tS_32 tA_32 Z (wP Z (wP Z (Q3 ?_)))))))
 have hE:=(Zi hm).symm
 refine Q9 (a4 == 0) hE [7,0,2,16] Z (asK [0] Z) Z
 replace hm:=Qz hm aL
 refine wO Z (wO Z (wO Z (wO Z (wO Z (wO Z (wP Z (Q3 ?_)))))))
 have hE:=(Zi hm).symm
 refine Q9 false hE [7,0,2,16] Z (asK [0] Z) Z
 rintro j hE
 try dsimp only
 have hm:=hLj_1
 rw [hE] at hm
 refine Qj Z (fun aI=>?_) (fun aI=>?_)
 replace hm:=QA hm aI
 refine Q2 [7,0,2] (S':=V3 ..) Z (Q1 (wP Z (wP Z (wF Z Qan (wD 0 3 Z Q1A Q1N Z (Q13 Z Z Z Zq Z Q6S Qa3 Z (out:=[_,_]) Z (wP Z (wF Z Q9x (wS 1 4 Z Q2H (all':=V6 ..) Z (H':=V5 ..) Z (Q3 ?_))))))))))
 have hE:=(Zi hm).symm
 obtain ⟨hE0,hE1⟩:=Prod.mk.inj hE
 clear hE
 replace hE0:=hE0.symm
 subst hE0
 replace hE1:=hE1.symm
 subst hE1
 refine Q4o (Hr:=V4 ..) [1,2,3,4] Tryz.results172 ⟨Z,Z,Z⟩ (asK [] Z) Z Z (.inr Z)
 replace hm:=Qz hm aI
 refine Q2 [] (S':=[]) Z (Qq ?_)
 have hE:=(Zi hm).symm
 obtain ⟨hE0,hE1⟩:=Prod.mk.inj hE
 clear hE
 replace hE0:=hE0.symm
 subst hE0
 replace hE1:=hE1.symm
 subst hE1
 refine Q4o (Hr:=V4 ..) [1,2,3,4] Tryz.results172 ⟨Z,Z,Z⟩ (asK [] Z) Z Z (.inr Z)
theorem Qb2 (N:Nat) (a0:Int) (a1:ByteArray) (a2:Int) (a3:Int) (qp0:OA) (qc1:Nat) (l4:List Qa) (o0:Bool) (hm:Q6M N a0 a1 a2 a3 l4 = some o0):Q1o Tryz.prog 174 [.agg #[.int .u8 a0,.string a1,.int .i64 a2,.int .i64 a3,.slice qp0 l4.length qc1]] [.sli 5 Qi qp0 qc1 l4] [] (fun v Φr Hr=>v = .bool o0 ∧ Φr = [] ∧ Hr = []):=by
 unfold Q6M at hm
 refine QD Tryz.func174 Z Tryz.ntmps174 Z (S:=[_]) Z (fun C=>(Q5 (Q1 (wB Z (fun g1=>(wP Z (Q3 (Q4 (Q2 [1] (S':=[_]) Z (Q5 (Q1 (wF Z Q2F (wD 0 0 Z Q34 Q6O Z (wP Z (wP Z ?_)))))))))))))))
 refine Qt (d:=6) (S':=V4 ..) Z Z (fun hs6=>?_) (fun hs6=>?_)
 replace hm:=QA hm hs6
 refine wO Z (wO Z (wO Z (wP Z (wP Z (wO Z (wO Z (wO Z (wP Z (wP Z (Q3 (Q4 (Q2 [2] (S':=[_]) Z (Qb ?_)))))))))))))
 have hE:=(Zi hm).symm
 replace hE:=hE.symm
 subst hE
 refine Ql (Hr:=[]) [] Tryz.results174 (Qc Z) ⟨Z,Z,Z⟩ (asK [] Z) Z Z (.inl Z)
 replace hm:=Qz hm hs6
 refine wF Z Q2F (wD 0 0 Z Q34 Q6O Z (wP Z (wP Z (wP Z ?_))))
 refine Qt (d:=11) (S':=V9 ..) Z Z (fun hs11=>?_) (fun hs11=>?_)
 replace hm:=QA hm hs11
 refine wO Z (wO Z (wO Z (wP Z (wP Z (Q3 (Q4 (Q2 [2] (S':=[_]) Z (Qb ?_))))))))
 have hE:=(Zi hm).symm
 replace hE:=hE.symm
 subst hE
 refine Ql (Hr:=[]) [] Tryz.results174 (Qc Z) ⟨Z,Z,Z⟩ (asK [] Z) Z Z (.inl Z)
 replace hm:=Qz hm hs11
 refine wF Z Q2F (wD 0 0 Z Q34 Q6O Z (wP Z (wP Z (wP Z (Q3 (Q4 (Q2 [2] (S':=[_]) Z (Qb ?_))))))))
 have hE:=(Zi hm).symm
 replace hE:=hE.symm
 subst hE
 refine Ql (Hr:=[]) [] Tryz.results174 (Qc Z) ⟨Z,Z,Z⟩ (asK [] Z) Z Z (.inl Z)
theorem Q3S (N:Nat) (aF:Nat) (aE:OA) (s:Nat) (z:Nat) (l0:List Qn) (a0:OA) (a1:Nat) (aA:Nat) (l1:List Qp) (aB:OA) (aC:Nat) (aD:Nat) (l2:List ByteArray) (a3:Int) (a4:Int) (a5:Int) (a6:Int) (a7:ByteArray) (a8:Int) (a9:Int) (aG:OA) (aH:Nat) (aI:List Qa) (o0:Int) (o1:Int) (o2:Int) (hm:Q2y N l0 l1 l2 a3 a4 a5 a6 a7 a8 a9 aI = some (o0,o1,o2)):Q1o Tryz.prog 208 [.pointer (some ⟨aF,0,none⟩),.agg #[.int .u8 a6,.string a7,.int .i64 a8,.int .i64 a9,.slice aG aI.length aH]] [.sli 5 Qi aG aH aI] [.blk aF [.slice aE s z,.slice a0 a1 aA,.slice aB aC aD,.int .i64 a3,.int .i64 a4,.int .i64 a5] 206,.own 69 2 Qf (.slice aE s z) l0,.own 52 5 Qe (.slice a0 a1 aA) l1,.own 9 1 Q1y (.slice aB aC aD) l2] (fun v Φr Hr=>v = .int .i64 o0 ∧ Φr = [] ∧ Hr = [.blk aF [.slice aE s z,.slice a0 a1 aA,.slice aB aC aD,.int .i64 a3,.int .i64 o1,.int .i64 o2] 206,.own 69 2 Qf (.slice aE s z) l0,.own 52 5 Qe (.slice a0 a1 aA) l1,.own 9 1 Q1y (.slice aB aC aD) l2]):=by
 unfold Q2y at hm
 refine QD Tryz.func208 Z Tryz.ntmps208 Z (S:=[_,_]) Z (fun C=>(Q5 (Q1 (wB Z (fun g3=>(wP Z (Q3 (Q4 (Q2 [3,0] (S':=[_,_]) Z (Q5 (Q1 (wP Z (wF Z Q1V (wD 0 1 Z Q27 Q2E Z ?_))))))))))))))
 obtain ⟨v9,b4,hm⟩:=Q6 hm
 refine wC [1,2,3,4] [0] Z fn_173 Z (Q6b N aF aE s z l0 a0 a1 aA l1 aB aC aD l2 a3 a4 a5 a7 _ b4) (asK [] Z) Z (H':=[_]) Z ?_
 rintro _ _ _ ⟨rfl,rfl,rfl⟩
 refine wP Z (Q3 (Q4 (Q2 [5,3,0] (S':=V3 ..) Z (Q5 (Q1 (wP Z (wP Z (wP Z (QR 4 0 Z Z Z Zq Z Z Z (cs:=V5 ..) Z QQ Q1z Z Z ?_)))))))))
 obtain ⟨⟨aJ,aK⟩,aT,hm⟩:=Q6 hm
 try dsimp only at hm
 refine wC [0,1,2,3] [4] Z Q6y Z (Q19 N aF aE s z l0 a0 a1 aA l1 aB aC aD l2 a3 a4 a5 (decide (v9 < 0)) 211 a6 a7 a8 a9 aG aH aI _ _ aT) (asK [0] Z) Z (H':=[_]) Z ?_
 rintro _ _ _ ⟨rfl,rfl,rfl⟩
 refine Q3 (Q4 (Q2 [5,3,0] (S':=V3 ..) Z (Q5 ?_)))
 obtain ⟨aU,hm,hLj_1⟩:=Q6 hm
 refine QI (σ:=Int × Int) (fun (j,q)=>aU = (j,q)) (fun (j,q)=>[(5,.int .i64 v9)]) (fun (j,q)=>[]) (fun (j,q)=>[.blk aF [.slice aE s z,.slice a0 a1 aA,.slice aB aC aD,.int .i64 a3,.int .i64 j,.int .i64 q] 206,.own 69 2 Qf (.slice aE s z) l0,.own 52 5 Qe (.slice a0 a1 aA) l1,.own 9 1 Q1y (.slice aB aC aD) l2]) ?_ ?_
 refine Q5 (Q1 (wP Z (wP Z (Q3 (Q4 (Q2 [16,5,3,0] (S':=V4 ..) Z ?_))))))
 refine Qj Z (fun aL=>?_) (fun aL=>?_)
 replace hm:=QA hm aL
 refine Q2 [5,3,0] (S':=V3 ..) Z ?_
 obtain ⟨aV,hm⟩:=Qu hm
 obtain ⟨aW,aM,hm⟩:=Q6 hm
 obtain ⟨⟨aQ,aR⟩,aX,hm⟩:=Q6 hm
 try dsimp only at hm
 refine Q18 [0,1,2,3,4,6,7,8,9,10,11,12,13,14] Z Z (fun hok=>(xP hok 0 Z (xP hok 1 Z (xP hok 2 Z (Q8 hok 3 Z Z Z Zq Z Z Z Q4r (Q8 hok 4 Z Z Z Zq Z Z Z Q4V (xP hok 6 Z (Q8 hok 10 Z Z Z Zq Z Z Z Q1s (Qm hok 11 4 4 Z Z Z Zq Z Z Z Z (cs:=[_]) Z Q1U Q2b Z Z (Q4u hok 12 Z Z Z Zq Z Z Z Q1Q (Qm hok 14 4 0 Z Z Z Zq Z Z Z Z (cs:=V5 ..) Z QQ Q1z Z Z (xS hok 5 Z (wD 0 0 Z Q8y Q91 Z (Q3 ?_))))))))))))))
 refine QV [0] [4,4] Z Z (Q4M hok 7 1 v9.toNat Z Z Z Zq Z Z Z Z Z (Q1G aV) (Q2t aM) Q7z tS_69 (fun b5 aY=>?_))
 subst aY
 refine Q8 hok 8 Z Z Z Zq Z Z Z Q97 (Q8i hok 9 Q37 1 v9.toNat 1 Z Z Z Zq Z Z Z Z aM Q1A Q1N (v:=.int .i64 (aW.fields)) Z Z (fun _=>(xP hok 13 Z (xS hok 15 Z (wC [0,1,2,3] [4] Z Q6y Z (Q19 N aF (some ⟨b5,0,none⟩) s z l0 a0 a1 aA l1 aB aC aD l2 a3 aJ aK (aW.fields != ((aI.length:Nat):Int)) 212 a6 a7 a8 a9 aG aH aI _ _ aX) (asK [0] Z) Z (H':=[_]) Z ?_)))))
 rintro _ _ _ ⟨rfl,rfl,rfl⟩
 refine Q3 (QV [0] [1,4] Z Z (Q11 hok Z ?_))
 have hE:=(Zi hm).symm
 refine Qs [0,1,2,3] Z (H':=V4 ..) Z ?_
 refine Q9 (aQ,aR) hE [5] Z (asK [] Z) Z
 replace hm:=Qz hm aL
 refine Q2 [5] (S':=[_]) Z (Qq ?_)
 have hE:=(Zi hm).symm
 refine Qs [0,1,2,3] Z (H':=V4 ..) Z ?_
 refine Q9 (aJ,aK) hE [5] Z (asK [] Z) Z
 rintro ⟨j,q⟩ hE
 try dsimp only
 have hm:=hLj_1
 rw [hE] at hm
 try dsimp only at hm
 refine Q5 (Q1 (wP Z (wP Z (Q3 (Q4 (Q2 [4] (S':=[_]) Z (Qb ?_)))))))
 have hE:=(Zi hm).symm
 obtain ⟨hE0,hF1⟩:=Prod.mk.inj hE
 obtain ⟨hE1,hE2⟩:=Prod.mk.inj hF1
 clear hE hF1
 replace hE0:=hE0.symm
 subst hE0
 replace hE1:=hE1.symm
 subst hE1
 replace hE2:=hE2.symm
 subst hE2
 refine Ql (Hr:=V4 ..) [0,1,2,3] Tryz.results208 (Qc Z) ⟨Z,Z,Z⟩ (asK [] Z) Z Z (.inl Z)
end Go.Proofs.YtbgodclhmgmcgaaGreatDoor
