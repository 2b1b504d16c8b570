import Derived.Test.YtgangmegcejllaaGreatDoorXW9
namespace Go.Proofs.YtgangmegcejllaaGreatDoor
open Go.RowKit
set_option maxRecDepth 100000
set_option maxHeartbeats 4000000
theorem Q8n (N:Nat)   (hm:Q4J N = some ()):Q1z Tryz.prog 4 [] [tF] [] (fun v Φr Hr=>v = .bool true ∧ Φr = [] ∧ Hr = []):=by
 unfold Q4J at hm
 refine Q12 Tryz.func4 Z Tryz.ntmps4 Z (S:=[]) Z (fun C=>(Q6 (Q3 (wP Z (Q2 (Q4 (Q5 [] (S':=[]) Z (Q6 (Q3 (Qq Z Z Z Zq Z Q1a Q1i Q3S Z (zs:=[.int .i64 0]) (by kernel_rfl) Z (out:=[_]) Z (fun g6=>(Qq Z Z Z Zq Z Q1a Q1i Q3S Z (zs:=[.int .i64 0]) (by kernel_rfl) Z (out:=[_]) Z (fun g7=>(Qq Z Z Z Zq Z Q1a Q1i Q3S Z (zs:=[.int .i64 0,.int .i64 0]) (by kernel_rfl) Z (out:=[_,_]) Z (fun g8=>(Qq Z Z Z Zq Z Q1a Q1i Q3S Z (zs:=[.int .i64 0,.int .i64 0]) (by kernel_rfl) Z (out:=[_,_]) Z (fun g9=>(Qq Z Z Z Zq Z Q1a Q1i Q3S Z (zs:=[.int .i64 0,.int .i64 0]) (by kernel_rfl) Z (out:=[_,_]) Z (fun y=>?_)))))))))))))))))))
 refine Qq Z Z Z Zq Z Q1a Q1i Q3S Z (zs:=[.int .i64 0,.int .i64 0]) (by kernel_rfl) Z (out:=[_,_]) Z (fun z=>(Qq Z Z Z Zq Z Q1a Q1i Q3S Z (zs:=[.int .i64 0,.int .i64 0,.int .i64 0]) (by kernel_rfl) Z (out:=V3 ..) Z (fun a0=>(Qq Z Z Z Zq Z Q1a Q1i Q3S Z (zs:=[.int .i64 0,.int .i64 0,.int .i64 0]) (by kernel_rfl) Z (out:=V3 ..) Z (fun a1=>(Qq Z Z Z Zq Z Q1a Q1i Q3S Z (zs:=[.int .i64 0,.int .i64 0,.int .i64 0]) (by kernel_rfl) Z (out:=V3 ..) Z (fun a2=>(Qq Z Z Z Zq Z Q1a Q1i Q3S Z (zs:=[.int .i64 0,.int .i64 0,.int .i64 0]) (by kernel_rfl) Z (out:=V3 ..) Z (fun a3=>(Qq Z Z Z Zq Z Q1a Q1i Q3S Z (zs:=[.int .i64 0]) (by kernel_rfl) Z (out:=[_]) Z (fun a4=>(Qq Z Z Z Zq Z Q1a Q1i Q3S Z (zs:=[.int .i64 0]) (by kernel_rfl) Z (out:=[_]) Z (fun a5=>(Qq Z Z Z Zq Z Q59 Q1T tZ_22 Z (zs:=[V1,V1,V1,V1,V1,V1,V1,V1,V1,V1,V1,V1,V1]) (by kernel_rfl) Z (out:=[V1,.slice (some ⟨g6,0,none⟩) 1 1,.slice (some ⟨g7,0,none⟩) 1 1,.slice (some ⟨g8,0,none⟩) 2 2,.slice (some ⟨g9,0,none⟩) 2 2,.slice (some ⟨y,0,none⟩) 2 2,.slice (some ⟨z,0,none⟩) 2 2,.slice (some ⟨a0,0,none⟩) 3 3,.slice (some ⟨a1,0,none⟩) 3 3,.slice (some ⟨a2,0,none⟩) 3 3,.slice (some ⟨a3,0,none⟩) 3 3,.slice (some ⟨a4,0,none⟩) 1 1,.slice (some ⟨a5,0,none⟩) 1 1]) (by kernel_rfl) (fun a7=>(wP Z (Q2 (Q4 (Q5 [1] (S':=[_]) Z (Q6 ?_))))))))))))))))))))
 obtain ⟨bB,hm,hLj_1⟩:=Q7 hm
 refine Q15 (σ:=Unit) (fun _=>bB = ()) (fun _=>[]) (fun _=>[tF]) (fun _=>[]) ?_ ?_
 refine Q6 (Q3 (wP Z (Q2 (Q4 (Qn (Q3K 3 1 Qh (Q8k (sz:=1) (m:=1) Qh [1] 13 Z (fun F w hφ=>⟨[.int .i64 1],[],Z,Z,⟨(),Z,Ql⟩,Z⟩) Z (by decide) (H':=V14 ..) Z (Q8k (sz:=1) (m:=1) Qh [2] 12 Z (fun F w hφ=>⟨[.int .i64 2],[],Z,Z,⟨(),Z,Ql⟩,Z⟩) Z (by decide) (H':=V14 ..) Z (Q8k (sz:=1) (m:=2) Qh ([1,1]) 11 Z (fun F w hφ=>⟨[.int .i64 1],[.int .i64 1],Z,Z,⟨(),Z,Ql⟩,⟨[.int .i64 1],[],Z,Z,⟨(),Z,Ql⟩,Z⟩⟩) Z (by decide) (H':=V14 ..) Z (Q8k (sz:=1) (m:=2) Qh ([1,2]) 10 Z (fun F w hφ=>⟨[.int .i64 1],[.int .i64 2],Z,Z,⟨(),Z,Ql⟩,⟨[.int .i64 2],[],Z,Z,⟨(),Z,Ql⟩,Z⟩⟩) Z (by decide) (H':=V14 ..) Z (Q8k (sz:=1) (m:=2) Qh ([2,1]) 9 Z (fun F w hφ=>⟨[.int .i64 2],[.int .i64 1],Z,Z,⟨(),Z,Ql⟩,⟨[.int .i64 1],[],Z,Z,⟨(),Z,Ql⟩,Z⟩⟩) Z (by decide) (H':=V14 ..) Z (Q8k (sz:=1) (m:=2) Qh ([2,2]) 8 Z (fun F w hφ=>⟨[.int .i64 2],[.int .i64 2],Z,Z,⟨(),Z,Ql⟩,⟨[.int .i64 2],[],Z,Z,⟨(),Z,Ql⟩,Z⟩⟩) Z (by decide) (H':=V14 ..) Z (Q8k (sz:=1) (m:=3) Qh ([3,1,2]) 7 Z (fun F w hφ=>⟨[.int .i64 3],[.int .i64 1,.int .i64 2],Z,Z,⟨(),Z,Ql⟩,⟨[.int .i64 1],[.int .i64 2],Z,Z,⟨(),Z,Ql⟩,⟨[.int .i64 2],[],Z,Z,⟨(),Z,Ql⟩,Z⟩⟩⟩) Z (by decide) (H':=V14 ..) Z ?_)))))))))))))
 refine Q8k (sz:=1) (m:=3) Qh ([1,2,3]) 6 Z (fun F w hφ=>⟨[.int .i64 1],[.int .i64 2,.int .i64 3],Z,Z,⟨(),Z,Ql⟩,⟨[.int .i64 2],[.int .i64 3],Z,Z,⟨(),Z,Ql⟩,⟨[.int .i64 3],[],Z,Z,⟨(),Z,Ql⟩,Z⟩⟩⟩) Z (by decide) (H':=V14 ..) Z (Q8k (sz:=1) (m:=3) Qh ([2,3,1]) 5 Z (fun F w hφ=>⟨[.int .i64 2],[.int .i64 3,.int .i64 1],Z,Z,⟨(),Z,Ql⟩,⟨[.int .i64 3],[.int .i64 1],Z,Z,⟨(),Z,Ql⟩,⟨[.int .i64 1],[],Z,Z,⟨(),Z,Ql⟩,Z⟩⟩⟩) Z (by decide) (H':=V14 ..) Z (Q8k (sz:=1) (m:=3) Qh ([3,3,1]) 4 Z (fun F w hφ=>⟨[.int .i64 3],[.int .i64 3,.int .i64 1],Z,Z,⟨(),Z,Ql⟩,⟨[.int .i64 3],[.int .i64 1],Z,Z,⟨(),Z,Ql⟩,⟨[.int .i64 1],[],Z,Z,⟨(),Z,Ql⟩,Z⟩⟩⟩) Z (by decide) (H':=V14 ..) Z (Q8k (sz:=1) (m:=1) Qh [9223372036854775807] 3 Z (fun F w hφ=>⟨[.int .i64 9223372036854775807],[],Z,Z,⟨(),Z,Ql⟩,Z⟩) Z (by decide) (H':=V14 ..) Z (Q8k (sz:=1) (m:=1) Qh [-9223372036854775808] 2 Z (fun F w hφ=>⟨[.int .i64 (-9223372036854775808)],[],Z,Z,⟨(),Z,Ql⟩,Z⟩) Z (by decide) (H':=V14 ..) Z (Q8k (sz:=1) (m:=13) Q2g.pair ([([],(none,0)),([1],(some (⟨g6,0,none⟩ : Addr),1)),([2],(some (⟨g7,0,none⟩ : Addr),1)),([1,1],(some (⟨g8,0,none⟩ : Addr),2)),([1,2],(some (⟨g9,0,none⟩ : Addr),2)),([2,1],(some (⟨y,0,none⟩ : Addr),2)),([2,2],(some (⟨z,0,none⟩ : Addr),2)),([3,1,2],(some (⟨a0,0,none⟩ : Addr),3)),([1,2,3],(some (⟨a1,0,none⟩ : Addr),3)),([2,3,1],(some (⟨a2,0,none⟩ : Addr),3)),([3,3,1],(some (⟨a3,0,none⟩ : Addr),3)),([9223372036854775807],(some (⟨a4,0,none⟩ : Addr),1)),([-9223372036854775808],(some (⟨a5,0,none⟩ : Addr),1))]) 1 Z (fun F w hφ=>⟨[V1],[.slice (some ⟨g6,0,none⟩) 1 1,.slice (some ⟨g7,0,none⟩) 1 1,.slice (some ⟨g8,0,none⟩) 2 2,.slice (some ⟨g9,0,none⟩) 2 2,.slice (some ⟨y,0,none⟩) 2 2,.slice (some ⟨z,0,none⟩) 2 2,.slice (some ⟨a0,0,none⟩) 3 3,.slice (some ⟨a1,0,none⟩) 3 3,.slice (some ⟨a2,0,none⟩) 3 3,.slice (some ⟨a3,0,none⟩) 3 3,.slice (some ⟨a4,0,none⟩) 1 1,.slice (some ⟨a5,0,none⟩) 1 1],Z,Z,Z,⟨[.slice (some ⟨g6,0,none⟩) 1 1],[.slice (some ⟨g7,0,none⟩) 1 1,.slice (some ⟨g8,0,none⟩) 2 2,.slice (some ⟨g9,0,none⟩) 2 2,.slice (some ⟨y,0,none⟩) 2 2,.slice (some ⟨z,0,none⟩) 2 2,.slice (some ⟨a0,0,none⟩) 3 3,.slice (some ⟨a1,0,none⟩) 3 3,.slice (some ⟨a2,0,none⟩) 3 3,.slice (some ⟨a3,0,none⟩) 3 3,.slice (some ⟨a4,0,none⟩) 1 1,.slice (some ⟨a5,0,none⟩) 1 1],Z,Z,Z,⟨[.slice (some ⟨g7,0,none⟩) 1 1],[.slice (some ⟨g8,0,none⟩) 2 2,.slice (some ⟨g9,0,none⟩) 2 2,.slice (some ⟨y,0,none⟩) 2 2,.slice (some ⟨z,0,none⟩) 2 2,.slice (some ⟨a0,0,none⟩) 3 3,.slice (some ⟨a1,0,none⟩) 3 3,.slice (some ⟨a2,0,none⟩) 3 3,.slice (some ⟨a3,0,none⟩) 3 3,.slice (some ⟨a4,0,none⟩) 1 1,.slice (some ⟨a5,0,none⟩) 1 1],Z,Z,Z,⟨[.slice (some ⟨g8,0,none⟩) 2 2],[.slice (some ⟨g9,0,none⟩) 2 2,.slice (some ⟨y,0,none⟩) 2 2,.slice (some ⟨z,0,none⟩) 2 2,.slice (some ⟨a0,0,none⟩) 3 3,.slice (some ⟨a1,0,none⟩) 3 3,.slice (some ⟨a2,0,none⟩) 3 3,.slice (some ⟨a3,0,none⟩) 3 3,.slice (some ⟨a4,0,none⟩) 1 1,.slice (some ⟨a5,0,none⟩) 1 1],Z,Z,Z,⟨[.slice (some ⟨g9,0,none⟩) 2 2],[.slice (some ⟨y,0,none⟩) 2 2,.slice (some ⟨z,0,none⟩) 2 2,.slice (some ⟨a0,0,none⟩) 3 3,.slice (some ⟨a1,0,none⟩) 3 3,.slice (some ⟨a2,0,none⟩) 3 3,.slice (some ⟨a3,0,none⟩) 3 3,.slice (some ⟨a4,0,none⟩) 1 1,.slice (some ⟨a5,0,none⟩) 1 1],Z,Z,Z,⟨[.slice (some ⟨y,0,none⟩) 2 2],[.slice (some ⟨z,0,none⟩) 2 2,.slice (some ⟨a0,0,none⟩) 3 3,.slice (some ⟨a1,0,none⟩) 3 3,.slice (some ⟨a2,0,none⟩) 3 3,.slice (some ⟨a3,0,none⟩) 3 3,.slice (some ⟨a4,0,none⟩) 1 1,.slice (some ⟨a5,0,none⟩) 1 1],Z,Z,Z,⟨[.slice (some ⟨z,0,none⟩) 2 2],[.slice (some ⟨a0,0,none⟩) 3 3,.slice (some ⟨a1,0,none⟩) 3 3,.slice (some ⟨a2,0,none⟩) 3 3,.slice (some ⟨a3,0,none⟩) 3 3,.slice (some ⟨a4,0,none⟩) 1 1,.slice (some ⟨a5,0,none⟩) 1 1],Z,Z,Z,⟨[.slice (some ⟨a0,0,none⟩) 3 3],[.slice (some ⟨a1,0,none⟩) 3 3,.slice (some ⟨a2,0,none⟩) 3 3,.slice (some ⟨a3,0,none⟩) 3 3,.slice (some ⟨a4,0,none⟩) 1 1,.slice (some ⟨a5,0,none⟩) 1 1],Z,Z,Z,⟨[.slice (some ⟨a1,0,none⟩) 3 3],[.slice (some ⟨a2,0,none⟩) 3 3,.slice (some ⟨a3,0,none⟩) 3 3,.slice (some ⟨a4,0,none⟩) 1 1,.slice (some ⟨a5,0,none⟩) 1 1],Z,Z,Z,⟨[.slice (some ⟨a2,0,none⟩) 3 3],[.slice (some ⟨a3,0,none⟩) 3 3,.slice (some ⟨a4,0,none⟩) 1 1,.slice (some ⟨a5,0,none⟩) 1 1],Z,Z,Z,⟨[.slice (some ⟨a3,0,none⟩) 3 3],[.slice (some ⟨a4,0,none⟩) 1 1,.slice (some ⟨a5,0,none⟩) 1 1],Z,Z,Z,⟨[.slice (some ⟨a4,0,none⟩) 1 1],[.slice (some ⟨a5,0,none⟩) 1 1],Z,Z,Z,⟨[.slice (some ⟨a5,0,none⟩) 1 1],[],Z,Z,Z,Z⟩⟩⟩⟩⟩⟩⟩⟩⟩⟩⟩⟩⟩) Z (by decide) (H':=V14 ..) Z (Q77 [Q1w Q2g [] none,_,_,_,_,_,_,_,_,_,_,_,_,_,_] (fun _ h=>h.bagNil Q2g) (Q3l [1,0,2,3,4,5,6,7,8,9,10,11,12,13,14] Z (H':=V15 ..) Z (Q77 [Q1w Q2g ([([],(none,0))]) none,_,_,_,_,_,_,_,_,_,_,_,_,_] (fun _ h=>QU.bagPush (T:=Q2g) (x:=[]) (r:=(none,0)) (zs:=[]) (H:=V14 ..) h 0 Z) (Q3l [13,0,1,2,3,4,5,6,7,8,9,10,11,12] Z (H':=V14 ..) Z (Q77 [Q1w Q2g (([([],(none,0))]) ++ [([1],(some (⟨g6,0,none⟩ : Addr),1))]) none,_,_,_,_,_,_,_,_,_,_,_,_] (fun _ h=>QU.bagPush (T:=Q2g) (x:=[1]) (r:=(some (⟨g6,0,none⟩ : Addr),1)) (zs:=[([],(none,0))]) (H:=V13 ..) h 0 Z) (Q3l [12,0,1,2,3,4,5,6,7,8,9,10,11] Z (H':=V13 ..) Z (Q77 [Q1w Q2g ((([([],(none,0))]) ++ [([1],(some (⟨g6,0,none⟩ : Addr),1))]) ++ [([2],(some (⟨g7,0,none⟩ : Addr),1))]) none,_,_,_,_,_,_,_,_,_,_,_] (fun _ h=>QU.bagPush (T:=Q2g) (x:=[2]) (r:=(some (⟨g7,0,none⟩ : Addr),1)) (zs:=([([],(none,0))]) ++ [([1],(some (⟨g6,0,none⟩ : Addr),1))]) (H:=V12 ..) h 0 Z) (Q3l [11,0,1,2,3,4,5,6,7,8,9,10] Z (H':=V12 ..) Z ?_)))))))))))))
 refine Q77 [Q1w Q2g (((([([],(none,0))]) ++ [([1],(some (⟨g6,0,none⟩ : Addr),1))]) ++ [([2],(some (⟨g7,0,none⟩ : Addr),1))]) ++ [([1,1],(some (⟨g8,0,none⟩ : Addr),2))]) none,_,_,_,_,_,_,_,_,_,_] (fun _ h=>QU.bagPush (T:=Q2g) (x:=[1,1]) (r:=(some (⟨g8,0,none⟩ : Addr),2)) (zs:=(([([],(none,0))]) ++ [([1],(some (⟨g6,0,none⟩ : Addr),1))]) ++ [([2],(some (⟨g7,0,none⟩ : Addr),1))]) (H:=V11 ..) h 0 Z) (Q3l [10,0,1,2,3,4,5,6,7,8,9] Z (H':=V11 ..) Z (Q77 [Q1w Q2g ((((([([],(none,0))]) ++ [([1],(some (⟨g6,0,none⟩ : Addr),1))]) ++ [([2],(some (⟨g7,0,none⟩ : Addr),1))]) ++ [([1,1],(some (⟨g8,0,none⟩ : Addr),2))]) ++ [([1,2],(some (⟨g9,0,none⟩ : Addr),2))]) none,_,_,_,_,_,_,_,_,_] (fun _ h=>QU.bagPush (T:=Q2g) (x:=[1,2]) (r:=(some (⟨g9,0,none⟩ : Addr),2)) (zs:=((([([],(none,0))]) ++ [([1],(some (⟨g6,0,none⟩ : Addr),1))]) ++ [([2],(some (⟨g7,0,none⟩ : Addr),1))]) ++ [([1,1],(some (⟨g8,0,none⟩ : Addr),2))]) (H:=V10 ..) h 0 Z) (Q3l [9,0,1,2,3,4,5,6,7,8] Z (H':=V10 ..) Z (Q77 [Q1w Q2g (((((([([],(none,0))]) ++ [([1],(some (⟨g6,0,none⟩ : Addr),1))]) ++ [([2],(some (⟨g7,0,none⟩ : Addr),1))]) ++ [([1,1],(some (⟨g8,0,none⟩ : Addr),2))]) ++ [([1,2],(some (⟨g9,0,none⟩ : Addr),2))]) ++ [([2,1],(some (⟨y,0,none⟩ : Addr),2))]) none,_,_,_,_,_,_,_,_] (fun _ h=>QU.bagPush (T:=Q2g) (x:=[2,1]) (r:=(some (⟨y,0,none⟩ : Addr),2)) (zs:=(((([([],(none,0))]) ++ [([1],(some (⟨g6,0,none⟩ : Addr),1))]) ++ [([2],(some (⟨g7,0,none⟩ : Addr),1))]) ++ [([1,1],(some (⟨g8,0,none⟩ : Addr),2))]) ++ [([1,2],(some (⟨g9,0,none⟩ : Addr),2))]) (H:=V9 ..) h 0 Z) (Q3l [8,0,1,2,3,4,5,6,7] Z (H':=V9 ..) Z (Q77 [Q1w Q2g ((((((([([],(none,0))]) ++ [([1],(some (⟨g6,0,none⟩ : Addr),1))]) ++ [([2],(some (⟨g7,0,none⟩ : Addr),1))]) ++ [([1,1],(some (⟨g8,0,none⟩ : Addr),2))]) ++ [([1,2],(some (⟨g9,0,none⟩ : Addr),2))]) ++ [([2,1],(some (⟨y,0,none⟩ : Addr),2))]) ++ [([2,2],(some (⟨z,0,none⟩ : Addr),2))]) none,_,_,_,_,_,_,_] (fun _ h=>QU.bagPush (T:=Q2g) (x:=[2,2]) (r:=(some (⟨z,0,none⟩ : Addr),2)) (zs:=((((([([],(none,0))]) ++ [([1],(some (⟨g6,0,none⟩ : Addr),1))]) ++ [([2],(some (⟨g7,0,none⟩ : Addr),1))]) ++ [([1,1],(some (⟨g8,0,none⟩ : Addr),2))]) ++ [([1,2],(some (⟨g9,0,none⟩ : Addr),2))]) ++ [([2,1],(some (⟨y,0,none⟩ : Addr),2))]) (H:=V8 ..) h 0 Z) (Q3l [7,0,1,2,3,4,5,6] Z (H':=V8 ..) Z (Q77 [Q1w Q2g (((((((([([],(none,0))]) ++ [([1],(some (⟨g6,0,none⟩ : Addr),1))]) ++ [([2],(some (⟨g7,0,none⟩ : Addr),1))]) ++ [([1,1],(some (⟨g8,0,none⟩ : Addr),2))]) ++ [([1,2],(some (⟨g9,0,none⟩ : Addr),2))]) ++ [([2,1],(some (⟨y,0,none⟩ : Addr),2))]) ++ [([2,2],(some (⟨z,0,none⟩ : Addr),2))]) ++ [([3,1,2],(some (⟨a0,0,none⟩ : Addr),3))]) none,_,_,_,_,_,_] (fun _ h=>QU.bagPush (T:=Q2g) (x:=[3,1,2]) (r:=(some (⟨a0,0,none⟩ : Addr),3)) (zs:=(((((([([],(none,0))]) ++ [([1],(some (⟨g6,0,none⟩ : Addr),1))]) ++ [([2],(some (⟨g7,0,none⟩ : Addr),1))]) ++ [([1,1],(some (⟨g8,0,none⟩ : Addr),2))]) ++ [([1,2],(some (⟨g9,0,none⟩ : Addr),2))]) ++ [([2,1],(some (⟨y,0,none⟩ : Addr),2))]) ++ [([2,2],(some (⟨z,0,none⟩ : Addr),2))]) (H:=V7 ..) h 0 Z) (Q3l [6,0,1,2,3,4,5] Z (H':=V7 ..) Z (Q77 [Q1w Q2g ((((((((([([],(none,0))]) ++ [([1],(some (⟨g6,0,none⟩ : Addr),1))]) ++ [([2],(some (⟨g7,0,none⟩ : Addr),1))]) ++ [([1,1],(some (⟨g8,0,none⟩ : Addr),2))]) ++ [([1,2],(some (⟨g9,0,none⟩ : Addr),2))]) ++ [([2,1],(some (⟨y,0,none⟩ : Addr),2))]) ++ [([2,2],(some (⟨z,0,none⟩ : Addr),2))]) ++ [([3,1,2],(some (⟨a0,0,none⟩ : Addr),3))]) ++ [([1,2,3],(some (⟨a1,0,none⟩ : Addr),3))]) none,_,_,_,_,_] (fun _ h=>QU.bagPush (T:=Q2g) (x:=[1,2,3]) (r:=(some (⟨a1,0,none⟩ : Addr),3)) (zs:=((((((([([],(none,0))]) ++ [([1],(some (⟨g6,0,none⟩ : Addr),1))]) ++ [([2],(some (⟨g7,0,none⟩ : Addr),1))]) ++ [([1,1],(some (⟨g8,0,none⟩ : Addr),2))]) ++ [([1,2],(some (⟨g9,0,none⟩ : Addr),2))]) ++ [([2,1],(some (⟨y,0,none⟩ : Addr),2))]) ++ [([2,2],(some (⟨z,0,none⟩ : Addr),2))]) ++ [([3,1,2],(some (⟨a0,0,none⟩ : Addr),3))]) (H:=V6 ..) h 0 Z) (Q3l [5,0,1,2,3,4] Z (H':=V6 ..) Z (Q77 [Q1w Q2g (((((((((([([],(none,0))]) ++ [([1],(some (⟨g6,0,none⟩ : Addr),1))]) ++ [([2],(some (⟨g7,0,none⟩ : Addr),1))]) ++ [([1,1],(some (⟨g8,0,none⟩ : Addr),2))]) ++ [([1,2],(some (⟨g9,0,none⟩ : Addr),2))]) ++ [([2,1],(some (⟨y,0,none⟩ : Addr),2))]) ++ [([2,2],(some (⟨z,0,none⟩ : Addr),2))]) ++ [([3,1,2],(some (⟨a0,0,none⟩ : Addr),3))]) ++ [([1,2,3],(some (⟨a1,0,none⟩ : Addr),3))]) ++ [([2,3,1],(some (⟨a2,0,none⟩ : Addr),3))]) none,_,_,_,_] (fun _ h=>QU.bagPush (T:=Q2g) (x:=[2,3,1]) (r:=(some (⟨a2,0,none⟩ : Addr),3)) (zs:=(((((((([([],(none,0))]) ++ [([1],(some (⟨g6,0,none⟩ : Addr),1))]) ++ [([2],(some (⟨g7,0,none⟩ : Addr),1))]) ++ [([1,1],(some (⟨g8,0,none⟩ : Addr),2))]) ++ [([1,2],(some (⟨g9,0,none⟩ : Addr),2))]) ++ [([2,1],(some (⟨y,0,none⟩ : Addr),2))]) ++ [([2,2],(some (⟨z,0,none⟩ : Addr),2))]) ++ [([3,1,2],(some (⟨a0,0,none⟩ : Addr),3))]) ++ [([1,2,3],(some (⟨a1,0,none⟩ : Addr),3))]) (H:=V5 ..) h 0 Z) (Q3l [4,0,1,2,3] Z (H':=V5 ..) Z ?_)))))))))))))
 refine Q77 [Q1w Q2g ((((((((((([([],(none,0))]) ++ [([1],(some (⟨g6,0,none⟩ : Addr),1))]) ++ [([2],(some (⟨g7,0,none⟩ : Addr),1))]) ++ [([1,1],(some (⟨g8,0,none⟩ : Addr),2))]) ++ [([1,2],(some (⟨g9,0,none⟩ : Addr),2))]) ++ [([2,1],(some (⟨y,0,none⟩ : Addr),2))]) ++ [([2,2],(some (⟨z,0,none⟩ : Addr),2))]) ++ [([3,1,2],(some (⟨a0,0,none⟩ : Addr),3))]) ++ [([1,2,3],(some (⟨a1,0,none⟩ : Addr),3))]) ++ [([2,3,1],(some (⟨a2,0,none⟩ : Addr),3))]) ++ [([3,3,1],(some (⟨a3,0,none⟩ : Addr),3))]) none,_,_,_] (fun _ h=>QU.bagPush (T:=Q2g) (x:=[3,3,1]) (r:=(some (⟨a3,0,none⟩ : Addr),3)) (zs:=((((((((([([],(none,0))]) ++ [([1],(some (⟨g6,0,none⟩ : Addr),1))]) ++ [([2],(some (⟨g7,0,none⟩ : Addr),1))]) ++ [([1,1],(some (⟨g8,0,none⟩ : Addr),2))]) ++ [([1,2],(some (⟨g9,0,none⟩ : Addr),2))]) ++ [([2,1],(some (⟨y,0,none⟩ : Addr),2))]) ++ [([2,2],(some (⟨z,0,none⟩ : Addr),2))]) ++ [([3,1,2],(some (⟨a0,0,none⟩ : Addr),3))]) ++ [([1,2,3],(some (⟨a1,0,none⟩ : Addr),3))]) ++ [([2,3,1],(some (⟨a2,0,none⟩ : Addr),3))]) (H:=V4 ..) h 0 Z) (Q3l [3,0,1,2] Z (H':=V4 ..) Z (Q77 [Q1w Q2g (((((((((((([([],(none,0))]) ++ [([1],(some (⟨g6,0,none⟩ : Addr),1))]) ++ [([2],(some (⟨g7,0,none⟩ : Addr),1))]) ++ [([1,1],(some (⟨g8,0,none⟩ : Addr),2))]) ++ [([1,2],(some (⟨g9,0,none⟩ : Addr),2))]) ++ [([2,1],(some (⟨y,0,none⟩ : Addr),2))]) ++ [([2,2],(some (⟨z,0,none⟩ : Addr),2))]) ++ [([3,1,2],(some (⟨a0,0,none⟩ : Addr),3))]) ++ [([1,2,3],(some (⟨a1,0,none⟩ : Addr),3))]) ++ [([2,3,1],(some (⟨a2,0,none⟩ : Addr),3))]) ++ [([3,3,1],(some (⟨a3,0,none⟩ : Addr),3))]) ++ [([9223372036854775807],(some (⟨a4,0,none⟩ : Addr),1))]) none,_,_] (fun _ h=>QU.bagPush (T:=Q2g) (x:=[9223372036854775807]) (r:=(some (⟨a4,0,none⟩ : Addr),1)) (zs:=(((((((((([([],(none,0))]) ++ [([1],(some (⟨g6,0,none⟩ : Addr),1))]) ++ [([2],(some (⟨g7,0,none⟩ : Addr),1))]) ++ [([1,1],(some (⟨g8,0,none⟩ : Addr),2))]) ++ [([1,2],(some (⟨g9,0,none⟩ : Addr),2))]) ++ [([2,1],(some (⟨y,0,none⟩ : Addr),2))]) ++ [([2,2],(some (⟨z,0,none⟩ : Addr),2))]) ++ [([3,1,2],(some (⟨a0,0,none⟩ : Addr),3))]) ++ [([1,2,3],(some (⟨a1,0,none⟩ : Addr),3))]) ++ [([2,3,1],(some (⟨a2,0,none⟩ : Addr),3))]) ++ [([3,3,1],(some (⟨a3,0,none⟩ : Addr),3))]) (H:=V3 ..) h 0 Z) (Q3l [2,0,1] Z (H':=V3 ..) Z (Q77 [Q1w Q2g ((((((((((((([([],(none,0))]) ++ [([1],(some (⟨g6,0,none⟩ : Addr),1))]) ++ [([2],(some (⟨g7,0,none⟩ : Addr),1))]) ++ [([1,1],(some (⟨g8,0,none⟩ : Addr),2))]) ++ [([1,2],(some (⟨g9,0,none⟩ : Addr),2))]) ++ [([2,1],(some (⟨y,0,none⟩ : Addr),2))]) ++ [([2,2],(some (⟨z,0,none⟩ : Addr),2))]) ++ [([3,1,2],(some (⟨a0,0,none⟩ : Addr),3))]) ++ [([1,2,3],(some (⟨a1,0,none⟩ : Addr),3))]) ++ [([2,3,1],(some (⟨a2,0,none⟩ : Addr),3))]) ++ [([3,3,1],(some (⟨a3,0,none⟩ : Addr),3))]) ++ [([9223372036854775807],(some (⟨a4,0,none⟩ : Addr),1))]) ++ [([-9223372036854775808],(some (⟨a5,0,none⟩ : Addr),1))]) none,_] (fun _ h=>QU.bagPush (T:=Q2g) (x:=[-9223372036854775808]) (r:=(some (⟨a5,0,none⟩ : Addr),1)) (zs:=((((((((((([([],(none,0))]) ++ [([1],(some (⟨g6,0,none⟩ : Addr),1))]) ++ [([2],(some (⟨g7,0,none⟩ : Addr),1))]) ++ [([1,1],(some (⟨g8,0,none⟩ : Addr),2))]) ++ [([1,2],(some (⟨g9,0,none⟩ : Addr),2))]) ++ [([2,1],(some (⟨y,0,none⟩ : Addr),2))]) ++ [([2,2],(some (⟨z,0,none⟩ : Addr),2))]) ++ [([3,1,2],(some (⟨a0,0,none⟩ : Addr),3))]) ++ [([1,2,3],(some (⟨a1,0,none⟩ : Addr),3))]) ++ [([2,3,1],(some (⟨a2,0,none⟩ : Addr),3))]) ++ [([3,3,1],(some (⟨a3,0,none⟩ : Addr),3))]) ++ [([9223372036854775807],(some (⟨a4,0,none⟩ : Addr),1))]) (H:=[_,_]) h 0 Z) (wc_hAs 0 (φ':=Q1w Q2g ([([],(none,0)),([1],(some (⟨g6,0,none⟩ : Addr),1)),([2],(some (⟨g7,0,none⟩ : Addr),1)),([1,1],(some (⟨g8,0,none⟩ : Addr),2)),([1,2],(some (⟨g9,0,none⟩ : Addr),2)),([2,1],(some (⟨y,0,none⟩ : Addr),2)),([2,2],(some (⟨z,0,none⟩ : Addr),2)),([3,1,2],(some (⟨a0,0,none⟩ : Addr),3)),([1,2,3],(some (⟨a1,0,none⟩ : Addr),3)),([2,3,1],(some (⟨a2,0,none⟩ : Addr),3)),([3,3,1],(some (⟨a3,0,none⟩ : Addr),3)),([9223372036854775807],(some (⟨a4,0,none⟩ : Addr),1)),([-9223372036854775808],(some (⟨a5,0,none⟩ : Addr),1))]) none) Z Z (H':=[Q1w Q2g ([([],(none,0)),([1],(some (⟨g6,0,none⟩ : Addr),1)),([2],(some (⟨g7,0,none⟩ : Addr),1)),([1,1],(some (⟨g8,0,none⟩ : Addr),2)),([1,2],(some (⟨g9,0,none⟩ : Addr),2)),([2,1],(some (⟨y,0,none⟩ : Addr),2)),([2,2],(some (⟨z,0,none⟩ : Addr),2)),([3,1,2],(some (⟨a0,0,none⟩ : Addr),3)),([1,2,3],(some (⟨a1,0,none⟩ : Addr),3)),([2,3,1],(some (⟨a2,0,none⟩ : Addr),3)),([3,3,1],(some (⟨a3,0,none⟩ : Addr),3)),([9223372036854775807],(some (⟨a4,0,none⟩ : Addr),1)),([-9223372036854775808],(some (⟨a5,0,none⟩ : Addr),1))]) none,.own 22 1 Q2g.pair (.slice (some ⟨a7,0,none⟩) 13 13) ([([],(none,0)),([1],(some (⟨g6,0,none⟩ : Addr),1)),([2],(some (⟨g7,0,none⟩ : Addr),1)),([1,1],(some (⟨g8,0,none⟩ : Addr),2)),([1,2],(some (⟨g9,0,none⟩ : Addr),2)),([2,1],(some (⟨y,0,none⟩ : Addr),2)),([2,2],(some (⟨z,0,none⟩ : Addr),2)),([3,1,2],(some (⟨a0,0,none⟩ : Addr),3)),([1,2,3],(some (⟨a1,0,none⟩ : Addr),3)),([2,3,1],(some (⟨a2,0,none⟩ : Addr),3)),([3,3,1],(some (⟨a3,0,none⟩ : Addr),3)),([9223372036854775807],(some (⟨a4,0,none⟩ : Addr),1)),([-9223372036854775808],(some (⟨a5,0,none⟩ : Addr),1))])]) Z (Q77 [Q1e Q2g 22 1 (.slice (some ⟨a7,0,none⟩) 13 13) ([[],[1],[2],[1,1],[1,2],[2,1],[2,2],[3,1,2],[1,2,3],[2,3,1],[3,3,1],[9223372036854775807],[-9223372036854775808]])] (fun _ h=>h.treeIn 1 0 Z Z Z Z) (wc_treeLen 0 Z (fun bC _=>(wc_at 1 (v':=.slice (some ⟨a7,0,none⟩) ([[],[1],[2],[1,1],[1,2],[2,1],[2,2],[3,1,2],[1,2,3],[2,3,1],[3,3,1],[9223372036854775807],[-9223372036854775808]].length) 13) Z (by rw [bC]) (wc_hAs 0 (φ':=Q1e Q2g 22 1 (.slice (some ⟨a7,0,none⟩) ([[],[1],[2],[1,1],[1,2],[2,1],[2,2],[3,1,2],[1,2,3],[2,3,1],[3,3,1],[9223372036854775807],[-9223372036854775808]].length) 13) ([[],[1],[2],[1,1],[1,2],[2,1],[2,2],[3,1,2],[1,2,3],[2,3,1],[3,3,1],[9223372036854775807],[-9223372036854775808]])) Z (by rw [bC]) (H':=[Q1e Q2g 22 1 (.slice (some ⟨a7,0,none⟩) ([[],[1],[2],[1,1],[1,2],[2,1],[2,2],[3,1,2],[1,2,3],[2,3,1],[3,3,1],[9223372036854775807],[-9223372036854775808]].length) 13) ([[],[1],[2],[1,1],[1,2],[2,1],[2,2],[3,1,2],[1,2,3],[2,3,1],[3,3,1],[9223372036854775807],[-9223372036854775808]])]) Z (wc_freeze 0 Z (H':=[]) Z (wc_fact (.sli 1 Q91 (some ⟨a7,0,none⟩) 13 ([[],[1],[2],[1,1],[1,2],[2,1],[2,2],[3,1,2],[1,2,3],[2,3,1],[3,3,1],[9223372036854775807],[-9223372036854775808]])) (fun F w hφ=>Q8I T_l_i64_lend (hφ _ (Qo (k:=0) Z)) (fun _ h=>h) (fun _ h=>h)) (Q1b (σ:=Nat × Nat) (fun (aN,o)=>Q1B (Q44 N) aN o = some bB) (fun (aN,o)=>aN) (fun (aN,o)=>[(2,.int .i64 ((o:Nat):Int)),(1,.slice (some ⟨a7,0,none⟩) (([[],[1],[2],[1,1],[1,2],[2,1],[2,2],[3,1,2],[1,2,3],[2,3,1],[3,3,1],[9223372036854775807],[-9223372036854775808]]).length) 13)]) (fun (aN,o)=>[.sli 1 Q91 (some ⟨a7,0,none⟩) 13 ([[],[1],[2],[1,1],[1,2],[2,1],[2,2],[3,1,2],[1,2,3],[2,3,1],[3,3,1],[9223372036854775807],[-9223372036854775808]]),tF]) (fun (aN,o)=>[]) (N,0) hm [2,1] Z (asK [0,2] Z) Z (fun s_ hm=>?_))))))))))))))
 obtain ⟨aN,o⟩:=s_
 try dsimp only at hm ⊢
 obtain ⟨dL,dM,cB,hq,hLu1⟩:=Q18 hm
 clear hm
 subst cB
 replace hm:=hq
 clear hq
 unfold Q44 at hm
 try dsimp only at hm
 refine Q6 (Q6 (Q3 (wP Z (wP Z (wN Z Q59 (wP Z (Qx (d:=22) (v':=.bool (decide (o < (([[],[1],[2],[1,1],[1,2],[2,1],[2,2],[3,1,2],[1,2,3],[2,3,1],[3,3,1],[9223372036854775807],[-9223372036854775808]]).length)))) (S':=V5 ..) Z Z (Q20 (a:=o) (b:=([[],[1],[2],[1,1],[1,2],[2,1],[2,2],[3,1,2],[1,2,3],[2,3,1],[3,3,1],[9223372036854775807],[-9223372036854775808]]).length)) (Q2 (Q4 (Q5 [22,2,1] (S':=V3 ..) Z ?_))))))))))
 refine Qv Z (fun aX=>?_) (fun aX=>?_)
 replace hm:=Q1m hm aX
 refine Q5 [2,1] (S':=[_,_]) Z (Qt (Q4 (Q6 ?_)))
 obtain ⟨bD,hm,hLj_2⟩:=Q7 hm
 refine Q15 (σ:=Unit) (fun _=>bD = ()) (fun _=>[(2,.int .i64 ((o:Nat):Int)),(1,.slice (some ⟨a7,0,none⟩) (([[],[1],[2],[1,1],[1,2],[2,1],[2,2],[3,1,2],[1,2,3],[2,3,1],[3,3,1],[9223372036854775807],[-9223372036854775808]]).length) 13)]) (fun _=>[.sli 1 Q91 (some ⟨a7,0,none⟩) 13 ([[],[1],[2],[1,1],[1,2],[2,1],[2,2],[3,1,2],[1,2,3],[2,3,1],[3,3,1],[9223372036854775807],[-9223372036854775808]]),tF]) (fun _=>[]) ?_ ?_
 refine Qn (Q6 (Q3 (wP Z (Q2 (Q4 (Qn (Q1b (σ:=Nat × Nat) (fun (aO,q)=>Q1B (Q45 N o) aO q = some bD) (fun (aO,q)=>aO) (fun (aO,q)=>[(3,.int .i64 ((q:Nat):Int)),(2,.int .i64 ((o:Nat):Int)),(1,.slice (some ⟨a7,0,none⟩) (([[],[1],[2],[1,1],[1,2],[2,1],[2,2],[3,1,2],[1,2,3],[2,3,1],[3,3,1],[9223372036854775807],[-9223372036854775808]]).length) 13)]) (fun (aO,q)=>[.sli 1 Q91 (some ⟨a7,0,none⟩) 13 ([[],[1],[2],[1,1],[1,2],[2,1],[2,2],[3,1,2],[1,2,3],[2,3,1],[3,3,1],[9223372036854775807],[-9223372036854775808]]),tF]) (fun (aO,q)=>[]) (N,0) hm [3,2,1] Z (asK [0,1] Z) Z (fun s_ hm=>?_))))))))
 obtain ⟨aO,q⟩:=s_
 try dsimp only at hm ⊢
 obtain ⟨dN,dO,cC,hq,hLu2⟩:=Q18 hm
 clear hm
 subst cC
 replace hm:=hq
 clear hq
 unfold Q45 at hm
 try dsimp only at hm
 refine Q6 (Q6 (Q3 (wP Z (wP Z (wN Z Q59 (wP Z (Qx (d:=28) (v':=.bool (decide (q < (([[],[1],[2],[1,1],[1,2],[2,1],[2,2],[3,1,2],[1,2,3],[2,3,1],[3,3,1],[9223372036854775807],[-9223372036854775808]]).length)))) (S':=V6 ..) Z Z (Q20 (a:=q) (b:=([[],[1],[2],[1,1],[1,2],[2,1],[2,2],[3,1,2],[1,2,3],[2,3,1],[3,3,1],[9223372036854775807],[-9223372036854775808]]).length)) (Q2 (Q4 (Q5 [28,3,2,1] (S':=V4 ..) Z ?_))))))))))
 refine Qv Z (fun aY=>?_) (fun aY=>?_)
 replace hm:=Q1m hm aY
 refine Q5 [3,2,1] (S':=V3 ..) Z (Qt (Q4 (Q6 ?_)))
 obtain ⟨bE,hm,hLj_3⟩:=Q7 hm
 refine Q15 (σ:=Unit) (fun _=>bE = ()) (fun _=>[(3,.int .i64 ((q:Nat):Int)),(2,.int .i64 ((o:Nat):Int)),(1,.slice (some ⟨a7,0,none⟩) (([[],[1],[2],[1,1],[1,2],[2,1],[2,2],[3,1,2],[1,2,3],[2,3,1],[3,3,1],[9223372036854775807],[-9223372036854775808]]).length) 13)]) (fun _=>[.sli 1 Q91 (some ⟨a7,0,none⟩) 13 ([[],[1],[2],[1,1],[1,2],[2,1],[2,2],[3,1,2],[1,2,3],[2,3,1],[3,3,1],[9223372036854775807],[-9223372036854775808]]),tF]) (fun _=>[]) ?_ ?_
 refine Qn (Q6 (Q3 (wP Z (Q2 (Q4 (Qn (Q1b (σ:=Nat × Nat) (fun (aP,j)=>Q1B (Q46 N o q) aP j = some bE) (fun (aP,j)=>aP) (fun (aP,j)=>[(4,.int .i64 ((j:Nat):Int)),(3,.int .i64 ((q:Nat):Int)),(2,.int .i64 ((o:Nat):Int)),(1,.slice (some ⟨a7,0,none⟩) (([[],[1],[2],[1,1],[1,2],[2,1],[2,2],[3,1,2],[1,2,3],[2,3,1],[3,3,1],[9223372036854775807],[-9223372036854775808]]).length) 13)]) (fun (aP,j)=>[.sli 1 Q91 (some ⟨a7,0,none⟩) 13 ([[],[1],[2],[1,1],[1,2],[2,1],[2,2],[3,1,2],[1,2,3],[2,3,1],[3,3,1],[9223372036854775807],[-9223372036854775808]]),tF]) (fun (aP,j)=>[]) (N,0) hm [4,3,2,1] Z (asK [0,1] Z) Z (fun s_ hm=>?_))))))))
 obtain ⟨aP,j⟩:=s_
 try dsimp only at hm ⊢
 obtain ⟨dP,dQ,cD,hq,hLu3⟩:=Q18 hm
 clear hm
 subst cD
 replace hm:=hq
 clear hq
 unfold Q46 at hm
 try dsimp only at hm
 refine Q6 (Q6 (Q3 (wP Z (wP Z (Qx (d:=32) (v':=.bool (decide (j < 4))) (S':=V5 ..) Z Z (Q20 (a:=j) (b:=4)) (Q2 (Q4 (Q5 [32,4,3,2,1] (S':=V5 ..) Z ?_))))))))
 refine Qv Z (fun aZ=>?_) (fun aZ=>?_)
 replace hm:=Q1m hm aZ
 refine Q5 [4,3,2,1] (S':=V4 ..) Z (Qt (Q4 (Q6 (Qn (Q6 ?_)))))
 obtain ⟨bT,cE,hm⟩:=Q7 hm
 obtain ⟨_,bF,hm⟩:=Q7 hm
 try dsimp only at hm
 obtain ⟨b5,cF,hm⟩:=Q7 hm
 obtain ⟨_,b0,hm⟩:=Q7 hm
 try dsimp only at hm
 obtain ⟨_,cG,hm⟩:=Q7 hm
 try dsimp only at hm
 obtain ⟨bU,cH,hm⟩:=Q7 hm
 obtain ⟨_,bG,hm⟩:=Q7 hm
 try dsimp only at hm
 obtain ⟨b6,cI,hm⟩:=Q7 hm
 obtain ⟨_,b1,hm⟩:=Q7 hm
 try dsimp only at hm
 obtain ⟨_,cJ,hm⟩:=Q7 hm
 try dsimp only at hm
 obtain ⟨cK,hm⟩:=Qd hm
 obtain ⟨bV,cL,hm⟩:=Q7 hm
 obtain ⟨_,bH,hm⟩:=Q7 hm
 try dsimp only at hm
 obtain ⟨b7,cM,hm⟩:=Q7 hm
 obtain ⟨_,b2,hm⟩:=Q7 hm
 try dsimp only at hm
 obtain ⟨_,cN,hm⟩:=Q7 hm
 try dsimp only at hm
 refine Q15 (σ:=Unit) (fun _=>True) (fun _=>[(87,.bool false),(4,.int .i64 ((j:Nat):Int)),(3,.int .i64 ((q:Nat):Int)),(2,.int .i64 ((o:Nat):Int)),(1,.slice (some ⟨a7,0,none⟩) (([[],[1],[2],[1,1],[1,2],[2,1],[2,2],[3,1,2],[1,2,3],[2,3,1],[3,3,1],[9223372036854775807],[-9223372036854775808]]).length) 13)]) (fun _=>[.sli 1 Q91 (some ⟨a7,0,none⟩) 13 ([[],[1],[2],[1,1],[1,2],[2,1],[2,2],[3,1,2],[1,2,3],[2,3,1],[3,3,1],[9223372036854775807],[-9223372036854775808]]),tF]) (fun _=>[]) ?_ ?_
 ·
  refine QV [1,2,3,4,5,6,8,9,10,11,12,13,16,17,19,20,21,22,23,24,26,27,28,29,30,31,34,35,36,38,39,40,41,42,43,45,46,47,48,51,52] Z Z (fun hok=>(xP hok 1 Z (Q8m hok 2 Z Z Z Zq Z Z Z Z (run_rem (by decide)) (xP hok 3 Z (xP hok 4 Z (Q1o hok 5 0 o Z Z Z Zq Z Z Z Z Z Z cE Q59 Q1T (fun dR dS dC d6=>(Q1u Q78 1 Z (fun aU cO _=>?_)))))))))
  subst cO
  refine Q1I hok 6 1 0 Z Z Z Zq Z Z Z Z (cs:=[_]) Z Q1T Q2Q Z Z (xP hok 8 Z (Q8m hok 9 Z Z Z Zq Z Z Z Z (Q95 (by decide)) (xP hok 10 Z (xP hok 11 Z (Q1o hok 12 3 q Z Z Z Zq Z Z Z Z Z Z cF Q59 Q1T (fun dT dU dD d7=>(Q1u Q78 1 Z (fun aI cP _=>?_))))))))
  subst cP
  refine Q1I hok 13 1 0 Z Z Z Zq Z Z Z Z (cs:=[_]) Z Q1T Q2Q Z Z ?_
  refine Q1v hok 0 7 Z Z Z Z Z Z ?_ ?_
  rotate_left
  focus
   refine wC [] [] Z Q32 Z (Q1p N (Int.tmod ((j:Nat):Int) 2) aU.1 aU.2 bT bF) (asK [3,7] Z) Z (H':=[]) Z ?_
   rintro _ _ _ ⟨rfl,rfl,rfl⟩
   refine Q2 (Qs [1,2,3,0,5,6,7,8] [] Z Z ?_)
   refine Q1v hok 0 14 Z Z Z Z Z Z ?_ ?_
   rotate_left
   focus
    refine wC [] [] Z Q32 Z (Q1p N (IntKind.wrap .i64 (Int.tdiv ((j:Nat):Int) 2)) aI.1 aI.2 b5 b0) (asK [1,8] Z) Z (H':=[]) Z ?_
    rintro _ _ _ ⟨rfl,rfl,rfl⟩
    refine Q2 (Qs [1,0,3,4,1,6,7,8,9] [] Z Z (xS hok 0 Z (Qq Z Z Z Zq Z Q1a Q1i Q3S Z (zs:=[.int .i64 0,.int .i64 0]) (by kernel_rfl) Z (out:=[_,_]) Z (fun bW=>(Q2 (Qs [0,1,0,3,4,1,6,7,8,9] [] Z Z ?_))))))
   rotate_right
   focus
    refine Qq Z Z Z Zq Z Q1a Q1i Q3S Z (zs:=[.int .i64 0,.int .i64 0]) (by kernel_rfl) Z (out:=[_,_]) Z (fun bW=>(Q2 (Qs [0,1,2,3,0,5,6,7,8] [] Z Z (xS hok 14 Z (wC [] [0] Z Q32 Z (Q1p N (IntKind.wrap .i64 (Int.tdiv ((j:Nat):Int) 2)) aI.1 aI.2 b5 b0) (asK [1,8] Z) Z (H':=[_]) Z ?_)))))
    rintro _ _ _ ⟨rfl,rfl,rfl⟩
    refine Q2 (Qs [1,0,3,4,1,6,7,8,9] [] Z Z ?_)
  rotate_right
  focus
   refine Qq Z Z Z Zq Z Q1a Q1i Q3S Z (zs:=[.int .i64 0,.int .i64 0]) (by kernel_rfl) Z (out:=[_,_]) Z (fun bW=>(Q2 (Qs [0,1,2,3,4,5,6,7] [] Z Z (xS hok 7 Z (wC [] [0] Z Q32 Z (Q1p N (Int.tmod ((j:Nat):Int) 2) aU.1 aU.2 bT bF) (asK [3,7] Z) Z (H':=[_]) Z ?_)))))
   rintro _ _ _ ⟨rfl,rfl,rfl⟩
   refine Q2 (Qs [1,2,3,0,5,6,7,8] [] Z Z (xS hok 14 Z (wC [] [0] Z Q32 Z (Q1p N (IntKind.wrap .i64 (Int.tdiv ((j:Nat):Int) 2)) aI.1 aI.2 b5 b0) (asK [1,8] Z) Z (H':=[_]) Z ?_)))
   rintro _ _ _ ⟨rfl,rfl,rfl⟩
   refine Q2 (Qs [1,0,3,4,1,6,7,8,9] [] Z Z ?_)
  all_goals
   refine xS hok 15 Z (Q1U (sz:=1) (m:=2) Qh ([0,0]) 0 Z (fun F w hφ=>⟨[.int .i64 0],[.int .i64 0],Z,Z,⟨(),Z,Ql⟩,⟨[.int .i64 0],[],Z,Z,⟨(),Z,Ql⟩,Z⟩⟩) Z (by decide) (H':=[_]) Z (Q1y [] [0] [0] Z Z Z Zq Z Z fn_18 Z (Q4x N (some ⟨bW,0,none⟩) 2 [0,0] (Int.tmod ((j:Nat):Int) 2) aU.1 aU.2 bT (IntKind.wrap .i64 (Int.tdiv ((j:Nat):Int) 2)) aI.1 aI.2 b5 cG) (fun F w hφ hh=>(Qe (Q1d (hh _ (Qo (k:=0) Z))) (Qe (hφ _ (Qo (k:=1) Z)) (Qe (hφ _ (Qo (k:=0) Z)) (Qe (hφ _ (Qo (k:=9) Z)) Ql))))) (fun _ _ _ hR=>by obtain ⟨rfl,rfl,rfl⟩:=hR; exact ⟨Z,(fun _ h=>Q1q h)⟩) Z Z (H':=[_]) Z ?_))
   rintro _ _ _ ⟨rfl,rfl,rfl⟩
   refine Q2 (Qs [0,1,0,3,4,1,6,7,8,9] [] Z Z (xP hok 16 Z (xP hok 17 Z (xP hok 19 Z (Q8m hok 20 Z Z Z Zq Z Z Z Z (run_rem (by decide)) (xP hok 21 Z (xP hok 22 Z (Q1o hok 23 8 o Z Z Z Zq Z Z Z Z Z Z cH Q59 Q1T (fun dV dW dE d8=>(Q1u Q78 1 Z (fun aV cQ _=>?_)))))))))))
   subst cQ
   refine Q1I hok 24 1 0 Z Z Z Zq Z Z Z Z (cs:=[_]) Z Q1T Q2Q Z Z (xP hok 26 Z (Q8m hok 27 Z Z Z Zq Z Z Z Z (Q95 (by decide)) (xP hok 28 Z (xP hok 29 Z (Q1o hok 30 11 q Z Z Z Zq Z Z Z Z Z Z cI Q59 Q1T (fun dX dY dF d9=>(Q1u Q78 1 Z (fun aJ cR _=>?_))))))))
   subst cR
   refine Q1I hok 31 1 0 Z Z Z Zq Z Z Z Z (cs:=[_]) Z Q1T Q2Q Z Z ?_
   refine Q1v hok 18 25 Z Z Z Z Z Z ?_ ?_
   rotate_left
   focus
    refine wC [] [0] Z Q32 Z (Q1p N (Int.tmod ((j:Nat):Int) 2) aV.1 aV.2 bU bG) (asK [3,15] Z) Z (H':=[_]) Z ?_
    rintro _ _ _ ⟨rfl,rfl,rfl⟩
    refine Q2 (Qs [1,2,3,0,5,6,7,8,7,10,11,8,13,14,15,16] [] Z Z ?_)
    refine Q1v hok 18 32 Z Z Z Z Z Z ?_ ?_
    rotate_left
    focus
     refine wC [] [0] Z Q32 Z (Q1p N (IntKind.wrap .i64 (Int.tdiv ((j:Nat):Int) 2)) aJ.1 aJ.2 b6 b1) (asK [1,16] Z) Z (H':=[_]) Z ?_
     rintro _ _ _ ⟨rfl,rfl,rfl⟩
     refine Q2 (Qs [1,0,3,4,1,6,7,8,9,8,11,12,9,14,15,16,17] [] Z Z (xS hok 18 Z (Qq Z Z Z Zq Z Q1a Q1i Q3S Z (zs:=[.int .i64 0,.int .i64 0]) (by kernel_rfl) Z (out:=[_,_]) Z (fun bX=>(Q2 (Qs [0,1,0,3,4,1,6,7,8,9,8,11,12,9,14,15,16,17] [] Z Z ?_))))))
    rotate_right
    focus
     refine Qq Z Z Z Zq Z Q1a Q1i Q3S Z (zs:=[.int .i64 0,.int .i64 0]) (by kernel_rfl) Z (out:=[_,_]) Z (fun bX=>(Q2 (Qs [0,1,2,3,0,5,6,7,8,7,10,11,8,13,14,15,16] [] Z Z (xS hok 32 Z (wC [] [0,1] Z Q32 Z (Q1p N (IntKind.wrap .i64 (Int.tdiv ((j:Nat):Int) 2)) aJ.1 aJ.2 b6 b1) (asK [1,16] Z) Z (H':=[_,_]) Z ?_)))))
     rintro _ _ _ ⟨rfl,rfl,rfl⟩
     refine Q2 (Qs [1,0,3,4,1,6,7,8,9,8,11,12,9,14,15,16,17] [] Z Z ?_)
   rotate_right
   focus
    refine Qq Z Z Z Zq Z Q1a Q1i Q3S Z (zs:=[.int .i64 0,.int .i64 0]) (by kernel_rfl) Z (out:=[_,_]) Z (fun bX=>(Q2 (Qs [0,1,2,3,4,5,6,7,6,9,10,7,12,13,14,15] [] Z Z (xS hok 25 Z (wC [] [0,1] Z Q32 Z (Q1p N (Int.tmod ((j:Nat):Int) 2) aV.1 aV.2 bU bG) (asK [3,15] Z) Z (H':=[_,_]) Z ?_)))))
    rintro _ _ _ ⟨rfl,rfl,rfl⟩
    refine Q2 (Qs [1,2,3,0,5,6,7,8,7,10,11,8,13,14,15,16] [] Z Z (xS hok 32 Z (wC [] [0,1] Z Q32 Z (Q1p N (IntKind.wrap .i64 (Int.tdiv ((j:Nat):Int) 2)) aJ.1 aJ.2 b6 b1) (asK [1,16] Z) Z (H':=[_,_]) Z ?_)))
    rintro _ _ _ ⟨rfl,rfl,rfl⟩
    refine Q2 (Qs [1,0,3,4,1,6,7,8,9,8,11,12,9,14,15,16,17] [] Z Z ?_)
   all_goals
    refine xS hok 33 Z (Q1U (sz:=1) (m:=2) Qh ([-1,7]) 0 Z (fun F w hφ=>⟨[.int .i64 (-1)],[.int .i64 7],Z,Z,⟨(),Z,Ql⟩,⟨[.int .i64 7],[],Z,Z,⟨(),Z,Ql⟩,Z⟩⟩) Z (by decide) (H':=[_,_]) Z (Q1y [] [0,1] [0] Z Z Z Zq Z Z fn_18 Z (Q4x N (some ⟨bX,0,none⟩) 2 [-1,7] (Int.tmod ((j:Nat):Int) 2) aV.1 aV.2 bU (IntKind.wrap .i64 (Int.tdiv ((j:Nat):Int) 2)) aJ.1 aJ.2 b6 cJ) (fun F w hφ hh=>(Qe (Q1d (hh _ (Qo (k:=0) Z))) (Qe (hφ _ (Qo (k:=1) Z)) (Qe (hφ _ (Qo (k:=0) Z)) (Qe (hφ _ (Qo (k:=17) Z)) Ql))))) (fun _ _ _ hR=>by obtain ⟨rfl,rfl,rfl⟩:=hR; exact ⟨Z,(fun _ h=>Q1q h)⟩) Z Z (H':=[_,_]) Z ?_))
    rintro _ _ _ ⟨rfl,rfl,rfl⟩
    refine Q2 (Qs [0,1,0,3,4,1,6,7,8,9,8,11,12,9,14,15,16,17] [] Z Z (xP hok 34 Z (xP hok 35 Z (xP hok 36 Z (xP hok 38 Z (xP hok 39 Z (Q1g (d:=74) (v':=.int .i64 (((j:Nat):Int) - 1)) (S':=V42 ..) Z Z (i64_in cK) (xP hok 40 Z (xP hok 41 Z (Q1o hok 42 16 o Z Z Z Zq Z Z Z Z Z Z cL Q59 Q1T (fun dZ e0 dG dA=>(Q1u Q78 1 Z (fun aW cS _=>?_)))))))))))))
    subst cS
    refine Q1I hok 43 1 0 Z Z Z Zq Z Z Z Z (cs:=[_]) Z Q1T Q2Q Z Z (xP hok 45 Z (xP hok 46 Z (Q1o hok 47 19 q Z Z Z Zq Z Z Z Z Z Z cM Q59 Q1T (fun e1 e2 dH dB=>(Q1u Q78 1 Z (fun aK cT _=>?_))))))
    subst cT
    refine Q1I hok 48 1 0 Z Z Z Zq Z Z Z Z (cs:=[_]) Z Q1T Q2Q Z Z ?_
    refine Q1v hok 37 44 Z Z Z Z Z Z ?_ ?_
    rotate_left
    focus
     refine wC [] [0,1] Z Q32 Z (Q1p N (((j:Nat):Int) - 1) aW.1 aW.2 bV bH) (asK [3,23] Z) Z (H':=[_,_]) Z ?_
     rintro _ _ _ ⟨rfl,rfl,rfl⟩
     refine Q2 (Qs [1,2,3,0,5,6,7,8,7,10,11,8,13,14,15,16,15,18,19,16,21,22,23,24] [] Z Z ?_)
     refine Q1v hok 37 49 Z Z Z Z Z Z ?_ ?_
     rotate_left
     focus
      refine wC [] [0,1] Z Q32 Z (Q1p N 0 aK.1 aK.2 b7 b2) (asK [1,24] Z) Z (H':=[_,_]) Z ?_
      rintro _ _ _ ⟨rfl,rfl,rfl⟩
      refine Q2 (Qs [1,0,3,4,1,6,7,8,9,8,11,12,9,14,15,16,17,16,19,20,17,22,23,24,25] [] Z Z (xS hok 37 Z (Qq Z Z Z Zq Z Q1a Q1i Q3S Z (zs:=[.int .i64 0]) (by kernel_rfl) Z (out:=[_]) Z (fun bY=>(Q2 (Qs [0,1,0,3,4,1,6,7,8,9,8,11,12,9,14,15,16,17,16,19,20,17,22,23,24,25] [] Z Z ?_))))))
     rotate_right
     focus
      refine Qq Z Z Z Zq Z Q1a Q1i Q3S Z (zs:=[.int .i64 0]) (by kernel_rfl) Z (out:=[_]) Z (fun bY=>(Q2 (Qs [0,1,2,3,0,5,6,7,8,7,10,11,8,13,14,15,16,15,18,19,16,21,22,23,24] [] Z Z (xS hok 49 Z (wC [] [0,1,2] Z Q32 Z (Q1p N 0 aK.1 aK.2 b7 b2) (asK [1,24] Z) Z (H':=V3 ..) Z ?_)))))
      rintro _ _ _ ⟨rfl,rfl,rfl⟩
      refine Q2 (Qs [1,0,3,4,1,6,7,8,9,8,11,12,9,14,15,16,17,16,19,20,17,22,23,24,25] [] Z Z ?_)
    rotate_right
    focus
     refine Qq Z Z Z Zq Z Q1a Q1i Q3S Z (zs:=[.int .i64 0]) (by kernel_rfl) Z (out:=[_]) Z (fun bY=>(Q2 (Qs [0,1,2,3,4,5,6,7,6,9,10,7,12,13,14,15,14,17,18,15,20,21,22,23] [] Z Z (xS hok 44 Z (wC [] [0,1,2] Z Q32 Z (Q1p N (((j:Nat):Int) - 1) aW.1 aW.2 bV bH) (asK [3,23] Z) Z (H':=V3 ..) Z ?_)))))
     rintro _ _ _ ⟨rfl,rfl,rfl⟩
     refine Q2 (Qs [1,2,3,0,5,6,7,8,7,10,11,8,13,14,15,16,15,18,19,16,21,22,23,24] [] Z Z (xS hok 49 Z (wC [] [0,1,2] Z Q32 Z (Q1p N 0 aK.1 aK.2 b7 b2) (asK [1,24] Z) Z (H':=V3 ..) Z ?_)))
     rintro _ _ _ ⟨rfl,rfl,rfl⟩
     refine Q2 (Qs [1,0,3,4,1,6,7,8,9,8,11,12,9,14,15,16,17,16,19,20,17,22,23,24,25] [] Z Z ?_)
    all_goals
     refine xS hok 50 Z (Q1U (sz:=1) (m:=1) Qh [-1] 0 Z (fun F w hφ=>⟨[.int .i64 (-1)],[],Z,Z,⟨(),Z,Ql⟩,Z⟩) Z (by decide) (H':=V3 ..) Z (Q1y [] [0,1,2] [0] Z Z Z Zq Z Z fn_18 Z (Q4x N (some ⟨bY,0,none⟩) 1 [-1] (((j:Nat):Int) - 1) aW.1 aW.2 bV 0 aK.1 aK.2 b7 cN) (fun F w hφ hh=>(Qe (Q1d (hh _ (Qo (k:=0) Z))) (Qe (hφ _ (Qo (k:=1) Z)) (Qe (hφ _ (Qo (k:=0) Z)) (Qe (hφ _ (Qo (k:=25) Z)) Ql))))) (fun _ _ _ hR=>by obtain ⟨rfl,rfl,rfl⟩:=hR; exact ⟨Z,(fun _ h=>Q1q h)⟩) Z Z (H':=V3 ..) Z ?_))
     rintro _ _ _ ⟨rfl,rfl,rfl⟩
     refine Q2 (Qs [0,1,0,3,4,1,6,7,8,9,8,11,12,9,14,15,16,17,16,19,20,17,22,23,24,25] [] Z Z (xP hok 51 Z (xP hok 52 Z (QI hok Z (Q17 [] Z (H':=[]) Z ?_)))))
     refine Qp () trivial [87,4,3,2,1] Z (asK [24,25] Z) Z
 rintro _ _
 try dsimp only
 refine Q2X Z (Q5 [4,3,2,1] (S':=V4 ..) Z (Qt (Qi (Q4 (Q3 (wP Z (wP Z ?_)))))))
 obtain ⟨cU,hm⟩:=Qd hm
 refine Qx (d:=34) (v':=.int .i64 ((j + 1:Nat):Int)) (S':=V5 ..) Z Z (Q1f (a:=j) (b:=1) cU) (QM (S':=V5 ..) Z Z Z Z Z (Q2 ?_))
 have hE:=(Zi hm).symm
 replace hE:=Q11 hLu3 hE
 refine Q14 (_,j + 1) (Nat.lt_succ_self _) hE [4,3,2,1] Z (asK [0,1] Z) Z
 replace hm:=Q1l hm aZ
 refine Q5 [3,2,1] (S':=V3 ..) Z (Q19 (Qc (Qc (Qu (Qi ?_)))))
 have hE:=(Zi hm).symm
 replace hE:=QE hLu3 hE
 refine Qp () hE [3,2,1] Z (asK [0,1] Z) Z
 rintro _ hE
 try dsimp only
 have hm:=hLj_3
 try rw [hE] at hm
 try dsimp only at hm
 refine Q3 (wP Z (wP Z ?_))
 obtain ⟨cV,hm⟩:=Qd hm
 refine Qx (d:=30) (v':=.int .i64 ((q + 1:Nat):Int)) (S':=V4 ..) Z Z (Q1f (a:=q) (b:=1) cV) (QM (S':=V4 ..) Z Z Z Z Z (Q2 ?_))
 have hE:=(Zi hm).symm
 replace hE:=Q11 hLu2 hE
 refine Q14 (_,q + 1) (Nat.lt_succ_self _) hE [3,2,1] Z (asK [0,1] Z) Z
 replace hm:=Q1l hm aY
 refine Q5 [2,1] (S':=[_,_]) Z (Q19 (Qc (Qc (Qu (Qi ?_)))))
 have hE:=(Zi hm).symm
 replace hE:=QE hLu2 hE
 refine Qp () hE [2,1] Z (asK [0,1] Z) Z
 rintro _ hE
 try dsimp only
 have hm:=hLj_2
 try rw [hE] at hm
 try dsimp only at hm
 refine Q3 (wP Z (wP Z ?_))
 obtain ⟨cW,hm⟩:=Qd hm
 refine Qx (d:=24) (v':=.int .i64 ((o + 1:Nat):Int)) (S':=V3 ..) Z Z (Q1f (a:=o) (b:=1) cW) (QM (S':=V3 ..) Z Z Z Z Z (Q2 ?_))
 have hE:=(Zi hm).symm
 replace hE:=Q11 hLu1 hE
 refine Q14 (_,o + 1) (Nat.lt_succ_self _) hE [2,1] Z (asK [0,1] Z) Z
 replace hm:=Q1l hm aX
 refine Q5 [] (S':=[]) Z (Q19 (Qc (Qc (Qu ?_))))
 have hE:=(Zi hm).symm
 replace hE:=QE hLu1 hE
 refine Qp () hE [] Z (asK [1] Z) Z
 rintro _ hE
 try dsimp only
 have hm:=hLj_1
 try rw [hE] at hm
 try dsimp only at hm
 refine Q6 ?_
 obtain ⟨bI,hm,hLj_5⟩:=Q7 hm
 refine Q15 (σ:=Unit) (fun _=>bI = ()) (fun _=>[]) (fun _=>[tF]) (fun _=>[]) ?_ ?_
 refine Q6 (Q3 (wP Z (Q2 (Q4 (Qn (Q1b (σ:=Nat × Nat) (fun (aQ,f)=>Q1B (Q47 N) aQ f = some bI) (fun (aQ,f)=>aQ) (fun (aQ,f)=>[(5,.int .i64 ((f:Nat):Int))]) (fun (aQ,f)=>[tF]) (fun (aQ,f)=>[]) (N,63) hm [5] Z (asK [0] Z) Z (fun s_ hm=>?_)))))))
 obtain ⟨aQ,f⟩:=s_
 try dsimp only at hm ⊢
 obtain ⟨e3,e4,cX,hq,hLu4⟩:=Q18 hm
 clear hm
 subst cX
 replace hm:=hq
 clear hq
 unfold Q47 at hm
 try dsimp only at hm
 refine Q6 (Q6 (Q3 (wP Z (wP Z (Qx (d:=89) (v':=.bool (decide (f < 66))) (S':=[_,_]) Z Z (Q20 (a:=f) (b:=66)) (Q2 (Q4 (Q5 [89,5] (S':=[_,_]) Z ?_))))))))
 refine Qv Z (fun b3=>?_) (fun b3=>?_)
 replace hm:=Q1m hm b3
 refine Q5 [5] (S':=[_]) Z (Qt (Q4 (Q6 (Qn (Q6 ?_)))))
 obtain ⟨bJ,hm⟩:=Qd hm
 obtain ⟨cY,hm⟩:=Qd hm
 obtain ⟨_,cZ,hm⟩:=Q7 hm
 try dsimp only at hm
 obtain ⟨_,d0,hm⟩:=Q7 hm
 try dsimp only at hm
 obtain ⟨_,bZ,hm⟩:=Q7 hm
 try dsimp only at hm
 obtain ⟨_,c0,hm⟩:=Q7 hm
 try dsimp only at hm
 obtain ⟨_,c1,hm⟩:=Q7 hm
 try dsimp only at hm
 obtain ⟨_,c2,hm⟩:=Q7 hm
 try dsimp only at hm
 obtain ⟨dI,c3,hm⟩:=Q7 hm
 obtain ⟨b8,hm⟩:=Qd hm
 refine wc_flow (Y:=Nat) (H0:=[]) [⟨92,[0],[],30,[],fun _=>.int .i64 ((f:Nat):Int),fun _=>[],fun _=>[]⟩,⟨93,[0,1],[0],28,[],fun E=>.slice (some ⟨(E 1),0,none⟩) f f,fun _=>[],fun E=>[.own 3 1 Qh (.slice (some ⟨(E 1),0,none⟩) f f) (List.replicate f 0)]⟩,⟨94,[2],[],30,[],fun _=>.int .i64 ((f:Nat):Int),fun _=>[],fun _=>[]⟩,⟨95,[2,3],[2],30,[],fun _=>.int .i64 (((f:Nat):Int) - 1),fun _=>[],fun _=>[]⟩,⟨96,[4],[],5,[],fun E=>.slice (some ⟨(E 4),0,none⟩) 1 1,fun _=>[],fun E=>[.blk (E 4) [.int .i64 1] 3]⟩,⟨97,[2,3,4,5],[3,4],28,[],fun E=>.agg #[.int .i64 (((f:Nat):Int) - 1),.slice (some ⟨(E 4),0,none⟩) [1].length 1],fun _=>[],fun E=>[.own 3 1 Qh (.slice (some ⟨(E 4),0,none⟩) [1].length 1) [1]]⟩,⟨98,[6],[],7,[],fun E=>.slice (some ⟨(E 6),0,none⟩) 1 1,fun _=>[],fun E=>[.blk (E 6) [.int .i64 1] 3]⟩,⟨99,[2,3,4,5,6,7],[6],28,[],fun E=>.agg #[.int .i64 0,.slice (some ⟨(E 6),0,none⟩) [1].length 1],fun _=>[],fun E=>[.own 3 1 Qh (.slice (some ⟨(E 6),0,none⟩) [1].length 1) [1]]⟩,⟨100,[2,3,4,5,6,7,8],[5,7],28,[],fun E=>.slice (some ⟨(E 8),0,none⟩) 2 2,fun _=>[],fun E=>[.blk (E 8) [.int .i64 (((f:Nat):Int) - 1),.slice (some ⟨(E 4),0,none⟩) [1].length 1,.int .i64 0,.slice (some ⟨(E 6),0,none⟩) [1].length 1] 45]⟩,⟨101,[2,3,4,5,6,7,8,9],[8],30,[],fun E=>.agg #[.int .i64 0,.int .i64 0,.slice (some ⟨(E 8),0,none⟩) 2 2],fun _=>[],fun _=>[]⟩,⟨102,[10],[],30,[],fun _=>.agg #[.int .i64 1,.int .i64 0,V1],fun _=>[],fun _=>[]⟩,⟨103,[11],[],30,[],fun _=>.int .i64 ((f:Nat):Int),fun _=>[],fun _=>[]⟩,⟨104,[12],[],13,[],fun E=>.slice (some ⟨(E 12),0,none⟩) 1 1,fun _=>[],fun E=>[.blk (E 12) [.int .i64 1] 3]⟩,⟨105,[2,3,4,5,6,7,11,12,13],[11,12],28,[],fun E=>.agg #[.int .i64 ((f:Nat):Int),.slice (some ⟨(E 12),0,none⟩) [1].length 1],fun _=>[],fun E=>[.own 3 1 Qh (.slice (some ⟨(E 12),0,none⟩) [1].length 1) [1]]⟩,⟨106,[2,3,4,5,6,7,11,12,13,14],[13],28,[],fun E=>.slice (some ⟨(E 14),0,none⟩) 1 1,fun _=>[],fun E=>[.blk (E 14) [.int .i64 ((f:Nat):Int),.slice (some ⟨(E 12),0,none⟩) [1].length 1] 45]⟩,⟨107,[2,3,4,5,6,7,11,12,13,14,15],[14],30,[],fun E=>.agg #[.int .i64 0,.int .i64 0,.slice (some ⟨(E 14),0,none⟩) 1 1],fun _=>[],fun _=>[]⟩,⟨108,[16],[],17,[],fun E=>.slice (some ⟨(E 16),0,none⟩) 1 1,fun _=>[],fun E=>[.blk (E 16) [.int .i64 1] 3]⟩,⟨109,[2,3,4,5,6,7,11,12,13,16,17],[16],28,[],fun E=>.agg #[.int .i64 (-1),.slice (some ⟨(E 16),0,none⟩) [1].length 1],fun _=>[],fun E=>[.own 3 1 Qh (.slice (some ⟨(E 16),0,none⟩) [1].length 1) [1]]⟩,⟨110,[2,3,4,5,6,7,11,12,13,16,17,18],[17],28,[],fun E=>.slice (some ⟨(E 18),0,none⟩) 1 1,fun _=>[],fun E=>[.blk (E 18) [.int .i64 (-1),.slice (some ⟨(E 16),0,none⟩) [1].length 1] 45]⟩,⟨111,[2,3,4,5,6,7,11,12,13,16,17,18,19],[18],30,[],fun E=>.agg #[.int .i64 0,.int .i64 0,.slice (some ⟨(E 18),0,none⟩) 1 1],fun _=>[],fun _=>[]⟩,⟨112,[20],[],21,[],fun E=>.slice (some ⟨(E 20),0,none⟩) 1 1,fun _=>[],fun E=>[.blk (E 20) [.int .i64 1] 3]⟩,⟨113,[2,3,4,5,6,7,11,12,13,16,17,20,21],[20],28,[],fun E=>.agg #[.int .i64 0,.slice (some ⟨(E 20),0,none⟩) [1].length 1],fun _=>[],fun E=>[.own 3 1 Qh (.slice (some ⟨(E 20),0,none⟩) [1].length 1) [1]]⟩,⟨114,[22],[],23,[],fun E=>.slice (some ⟨(E 22),0,none⟩) 1 1,fun _=>[],fun E=>[.blk (E 22) [.int .i64 1] 3]⟩,⟨115,[2,3,4,5,6,7,11,12,13,16,17,20,21,22,23],[22],28,[],fun E=>.agg #[.int .i64 0,.slice (some ⟨(E 22),0,none⟩) [1].length 1],fun _=>[],fun E=>[.own 3 1 Qh (.slice (some ⟨(E 22),0,none⟩) [1].length 1) [1]]⟩,⟨116,[2,3,4,5,6,7,11,12,13,16,17,20,21,22,23,24],[21,23],28,[],fun E=>.slice (some ⟨(E 24),0,none⟩) 2 2,fun _=>[],fun E=>[.blk (E 24) [.int .i64 0,.slice (some ⟨(E 20),0,none⟩) [1].length 1,.int .i64 0,.slice (some ⟨(E 22),0,none⟩) [1].length 1] 45]⟩,⟨117,[2,3,4,5,6,7,11,12,13,16,17,20,21,22,23,24,25],[24],30,[],fun E=>.agg #[.int .i64 0,.int .i64 0,.slice (some ⟨(E 24),0,none⟩) 2 2],fun _=>[],fun _=>[]⟩,⟨118,[26],[],30,[],fun _=>.agg #[.int .i64 1,.int .i64 0,V1],fun _=>[],fun _=>[]⟩,⟨119,[2,3,4,5,6,7,8,9,10,11,12,13,14,15,16,17,18,19,20,21,22,23,24,25,26,27],[9,10,15,19,25,26],28,[],fun E=>.slice (some ⟨(E 27),0,none⟩) 6 6,fun _=>[],fun E=>[.blk (E 27) [.int .i64 0,.int .i64 0,.slice (some ⟨(E 8),0,none⟩) 2 2,.int .i64 1,.int .i64 0,V1,.int .i64 0,.int .i64 0,.slice (some ⟨(E 14),0,none⟩) 1 1,.int .i64 0,.int .i64 0,.slice (some ⟨(E 18),0,none⟩) 1 1,.int .i64 0,.int .i64 0,.slice (some ⟨(E 24),0,none⟩) 2 2,.int .i64 1,.int .i64 0,V1] 42]⟩,⟨120,[0,1,2,3,4,5,6,7,8,9,10,11,12,13,14,15,16,17,18,19,20,21,22,23,24,25,26,27,28],[1,5,7,8,13,14,17,18,21,23,24,27],30,[],fun _=>.bool true,fun _=>[],fun _=>[]⟩,⟨121,[0,1,2,3,4,5,6,7,8,9,10,11,12,13,14,15,16,17,18,19,20,21,22,23,24,25,26,27,28,29],[28],30,[],fun _=>.bool false,fun _=>[],fun _=>[]⟩] Z Z (by kernel_rfl) (by kernel_rfl) ⟨?_,?_,?_,?_,?_,?_,?_,?_,?_,?_,?_,?_,?_,?_,?_,?_,?_,?_,?_,?_,?_,?_,?_,?_,?_,?_,?_,?_,?_,?_,trivial⟩ (fun E=>?_)
 intro E C
 show WL _ C _ _ [_] [] [_] _ [_]
 refine wP Z (Q2 ?_)
 exact Q1j (k:=0) default [] [] Z Z Z Z
 intro E C
 show WL _ C _ _ [_] [] [(92,.int .i64 ((f:Nat):Int)),_] _ [_]
 refine Q7y (m:=f) Qh 0 Z Z Z Zq Z Z Z Z Z Q1a tR_3 Z Z (fun _ _=>⟨(),Z,Ql⟩) (Nat.le_trans (Nat.mul_le_mul_left _ bJ) (by decide)) (Nat.le_trans bJ (by decide)) (fun d1=>(Q2 ?_))
 exact Q1j (k:=1) d1 [] [0] Z Z Z Z
 intro E C
 show WL _ C _ _ [_] [] [_] _ [_]
 refine wP Z (Q2 ?_)
 exact Q1j (k:=2) default [] [] Z Z Z Z
 intro E C
 show WL _ C _ _ [_] [] [(94,.int .i64 ((f:Nat):Int)),_] _ [_]
 refine wP Z (Qx (d:=95) (v':=.int .i64 (((f:Nat):Int) - 1)) (S':=[_,_]) Z Z (i64_in cY) (Q2 ?_))
 exact Q1j (k:=3) default [] [] Z Z Z Z
 intro E C
 show WL _ C _ _ [_] [] [_] _ [_]
 refine Qq Z Z Z Zq Z Q1a Q1i Q3S Z (zs:=[.int .i64 0]) (by kernel_rfl) Z (out:=[_]) Z (fun d2=>(Q2 ?_))
 exact Q1j (k:=4) d2 [] [0] Z Z Z Z
 intro E C
 show WL _ C _ _ [_] [.blk (E 4) [.int .i64 1] 3] [(95,.int .i64 (((f:Nat):Int) - 1)),(96,.slice (some ⟨(E 4),0,none⟩) 1 1),_] _ [_]
 refine Q1U (sz:=1) (m:=1) Qh [1] 0 Z (fun F w hφ=>⟨[.int .i64 1],[],Z,Z,⟨(),Z,Ql⟩,Z⟩) Z (by decide) (H':=[_]) Z (wC [0] [] Z Q32 Z (QY N (((f:Nat):Int) - 1) ⟨(E 4),0,none⟩ ([1].length) 1 [1] cZ) (asK [0] Z) Z (H':=[]) Z ?_)
 rintro _ _ _ ⟨rfl,rfl,rfl⟩
 refine Q2 ?_
 exact Q1j (k:=5) default [] [0] Z Z Z Z
 intro E C
 show WL _ C _ _ [_] [] [_] _ [_]
 refine Qq Z Z Z Zq Z Q1a Q1i Q3S Z (zs:=[.int .i64 0]) (by kernel_rfl) Z (out:=[_]) Z (fun d3=>(Q2 ?_))
 exact Q1j (k:=6) d3 [] [0] Z Z Z Z
 intro E C
 show WL _ C _ _ [_] [.blk (E 6) [.int .i64 1] 3] [(98,.slice (some ⟨(E 6),0,none⟩) 1 1),_] _ [_]
 refine Q1U (sz:=1) (m:=1) Qh [1] 0 Z (fun F w hφ=>⟨[.int .i64 1],[],Z,Z,⟨(),Z,Ql⟩,Z⟩) Z (by decide) (H':=[_]) Z (wC [0] [] Z Q32 Z (QY N 0 ⟨(E 6),0,none⟩ ([1].length) 1 [1] d0) (asK [0] Z) Z (H':=[]) Z ?_)
 rintro _ _ _ ⟨rfl,rfl,rfl⟩
 refine Q2 ?_
 exact Q1j (k:=7) default [] [0] Z Z Z Z
 intro E C
 show WL _ C _ _ [_] [] [(97,.agg #[.int .i64 (((f:Nat):Int) - 1),.slice (some ⟨(E 4),0,none⟩) [1].length 1]),(99,.agg #[.int .i64 0,.slice (some ⟨(E 6),0,none⟩) [1].length 1]),_] _ [_]
 refine Qq Z Z Z Zq Z QG Qg Q1X Z (zs:=[.int .i64 0,V1,.int .i64 0,V1]) (by kernel_rfl) Z (out:=V4 ..) Z (fun bK=>(Q2 ?_))
 exact Q1j (k:=8) bK [] [0] Z Z Z Z
 intro E C
 show WL _ C _ _ [_] [] [(100,.slice (some ⟨(E 8),0,none⟩) 2 2),_] _ [_]
 refine Q3h Z Z Z Zq Z Q8H Q9M Z (out:=V3 ..) Z (Q2 ?_)
 exact Q1j (k:=9) default [] [] Z Z Z Z
 intro E C
 show WL _ C _ _ [_] [] [_] _ [_]
 refine Q3h Z Z Z Zq Z Q8H Q9M Z (out:=V3 ..) Z (Q2 ?_)
 exact Q1j (k:=10) default [] [] Z Z Z Z
 intro E C
 show WL _ C _ _ [_] [] [_] _ [_]
 refine wP Z (Q2 ?_)
 exact Q1j (k:=11) default [] [] Z Z Z Z
 intro E C
 show WL _ C _ _ [_] [] [_] _ [_]
 refine Qq Z Z Z Zq Z Q1a Q1i Q3S Z (zs:=[.int .i64 0]) (by kernel_rfl) Z (out:=[_]) Z (fun bL=>(Q2 ?_))
 exact Q1j (k:=12) bL [] [0] Z Z Z Z
 intro E C
 show WL _ C _ _ [_] [.blk (E 12) [.int .i64 1] 3] [(103,.int .i64 ((f:Nat):Int)),(104,.slice (some ⟨(E 12),0,none⟩) 1 1),_] _ [_]
 refine Q1U (sz:=1) (m:=1) Qh [1] 0 Z (fun F w hφ=>⟨[.int .i64 1],[],Z,Z,⟨(),Z,Ql⟩,Z⟩) Z (by decide) (H':=[_]) Z (wC [0] [] Z Q32 Z (QY N ((f:Nat):Int) ⟨(E 12),0,none⟩ ([1].length) 1 [1] bZ) (asK [0] Z) Z (H':=[]) Z ?_)
 rintro _ _ _ ⟨rfl,rfl,rfl⟩
 refine Q2 ?_
 exact Q1j (k:=13) default [] [0] Z Z Z Z
 intro E C
 show WL _ C _ _ [_] [] [(105,.agg #[.int .i64 ((f:Nat):Int),.slice (some ⟨(E 12),0,none⟩) [1].length 1]),_] _ [_]
 refine Qq Z Z Z Zq Z QG Qg Q1X Z (zs:=[.int .i64 0,V1]) (by kernel_rfl) Z (out:=[_,_]) Z (fun bM=>(Q2 ?_))
 exact Q1j (k:=14) bM [] [0] Z Z Z Z
 intro E C
 show WL _ C _ _ [_] [] [(106,.slice (some ⟨(E 14),0,none⟩) 1 1),_] _ [_]
 refine Q3h Z Z Z Zq Z Q8H Q9M Z (out:=V3 ..) Z (Q2 ?_)
 exact Q1j (k:=15) default [] [] Z Z Z Z
 intro E C
 show WL _ C _ _ [_] [] [_] _ [_]
 refine Qq Z Z Z Zq Z Q1a Q1i Q3S Z (zs:=[.int .i64 0]) (by kernel_rfl) Z (out:=[_]) Z (fun bN=>(Q2 ?_))
 exact Q1j (k:=16) bN [] [0] Z Z Z Z
 intro E C
 show WL _ C _ _ [_] [.blk (E 16) [.int .i64 1] 3] [(108,.slice (some ⟨(E 16),0,none⟩) 1 1),_] _ [_]
 refine Q1U (sz:=1) (m:=1) Qh [1] 0 Z (fun F w hφ=>⟨[.int .i64 1],[],Z,Z,⟨(),Z,Ql⟩,Z⟩) Z (by decide) (H':=[_]) Z (wC [0] [] Z Q32 Z (QY N (-1) ⟨(E 16),0,none⟩ ([1].length) 1 [1] c0) (asK [0] Z) Z (H':=[]) Z ?_)
 rintro _ _ _ ⟨rfl,rfl,rfl⟩
 refine Q2 ?_
 exact Q1j (k:=17) default [] [0] Z Z Z Z
 intro E C
 show WL _ C _ _ [_] [] [(109,.agg #[.int .i64 (-1),.slice (some ⟨(E 16),0,none⟩) [1].length 1]),_] _ [_]
 refine Qq Z Z Z Zq Z QG Qg Q1X Z (zs:=[.int .i64 0,V1]) (by kernel_rfl) Z (out:=[_,_]) Z (fun bO=>(Q2 ?_))
 exact Q1j (k:=18) bO [] [0] Z Z Z Z
 intro E C
 show WL _ C _ _ [_] [] [(110,.slice (some ⟨(E 18),0,none⟩) 1 1),_] _ [_]
 refine Q3h Z Z Z Zq Z Q8H Q9M Z (out:=V3 ..) Z (Q2 ?_)
 exact Q1j (k:=19) default [] [] Z Z Z Z
 intro E C
 show WL _ C _ _ [_] [] [_] _ [_]
 refine Qq Z Z Z Zq Z Q1a Q1i Q3S Z (zs:=[.int .i64 0]) (by kernel_rfl) Z (out:=[_]) Z (fun bP=>(Q2 ?_))
 exact Q1j (k:=20) bP [] [0] Z Z Z Z
 intro E C
 show WL _ C _ _ [_] [.blk (E 20) [.int .i64 1] 3] [(112,.slice (some ⟨(E 20),0,none⟩) 1 1),_] _ [_]
 refine Q1U (sz:=1) (m:=1) Qh [1] 0 Z (fun F w hφ=>⟨[.int .i64 1],[],Z,Z,⟨(),Z,Ql⟩,Z⟩) Z (by decide) (H':=[_]) Z (wC [0] [] Z Q32 Z (QY N 0 ⟨(E 20),0,none⟩ ([1].length) 1 [1] c1) (asK [0] Z) Z (H':=[]) Z ?_)
 rintro _ _ _ ⟨rfl,rfl,rfl⟩
 refine Q2 ?_
 exact Q1j (k:=21) default [] [0] Z Z Z Z
 intro E C
 show WL _ C _ _ [_] [] [_] _ [_]
 refine Qq Z Z Z Zq Z Q1a Q1i Q3S Z (zs:=[.int .i64 0]) (by kernel_rfl) Z (out:=[_]) Z (fun bQ=>(Q2 ?_))
 exact Q1j (k:=22) bQ [] [0] Z Z Z Z
 intro E C
 show WL _ C _ _ [_] [.blk (E 22) [.int .i64 1] 3] [(114,.slice (some ⟨(E 22),0,none⟩) 1 1),_] _ [_]
 refine Q1U (sz:=1) (m:=1) Qh [1] 0 Z (fun F w hφ=>⟨[.int .i64 1],[],Z,Z,⟨(),Z,Ql⟩,Z⟩) Z (by decide) (H':=[_]) Z (wC [0] [] Z Q32 Z (QY N 0 ⟨(E 22),0,none⟩ ([1].length) 1 [1] c2) (asK [0] Z) Z (H':=[]) Z ?_)
 rintro _ _ _ ⟨rfl,rfl,rfl⟩
 refine Q2 ?_
 exact Q1j (k:=23) default [] [0] Z Z Z Z
 intro E C
 show WL _ C _ _ [_] [] [(113,.agg #[.int .i64 0,.slice (some ⟨(E 20),0,none⟩) [1].length 1]),(115,.agg #[.int .i64 0,.slice (some ⟨(E 22),0,none⟩) [1].length 1]),_] _ [_]
 refine Qq Z Z Z Zq Z QG Qg Q1X Z (zs:=[.int .i64 0,V1,.int .i64 0,V1]) (by kernel_rfl) Z (out:=V4 ..) Z (fun bR=>(Q2 ?_))
 exact Q1j (k:=24) bR [] [0] Z Z Z Z
 intro E C
 show WL _ C _ _ [_] [] [(116,.slice (some ⟨(E 24),0,none⟩) 2 2),_] _ [_]
 refine Q3h Z Z Z Zq Z Q8H Q9M Z (out:=V3 ..) Z (Q2 ?_)
 exact Q1j (k:=25) default [] [] Z Z Z Z
 intro E C
 show WL _ C _ _ [_] [] [_] _ [_]
 refine Q3h Z Z Z Zq Z Q8H Q9M Z (out:=V3 ..) Z (Q2 ?_)
 exact Q1j (k:=26) default [] [] Z Z Z Z
 intro E C
 show WL _ C _ _ [_] [] [(101,.agg #[.int .i64 0,.int .i64 0,.slice (some ⟨(E 8),0,none⟩) 2 2]),(102,.agg #[.int .i64 1,.int .i64 0,V1]),(107,.agg #[.int .i64 0,.int .i64 0,.slice (some ⟨(E 14),0,none⟩) 1 1]),(111,.agg #[.int .i64 0,.int .i64 0,.slice (some ⟨(E 18),0,none⟩) 1 1]),(117,.agg #[.int .i64 0,.int .i64 0,.slice (some ⟨(E 24),0,none⟩) 2 2]),(118,.agg #[.int .i64 1,.int .i64 0,V1]),_] _ [_]
 refine Qq Z Z Z Zq Z tE_23 tS_42 Q8H Z (zs:=[.int .i64 0,.int .i64 0,V1,.int .i64 0,.int .i64 0,V1,.int .i64 0,.int .i64 0,V1,.int .i64 0,.int .i64 0,V1,.int .i64 0,.int .i64 0,V1,.int .i64 0,.int .i64 0,V1]) (by kernel_rfl) Z (out:=V18 ..) Z (fun bS=>(Q2 ?_))
 exact Q1j (k:=27) bS [] [0] Z Z Z Z
 intro E C
 show WL _ C _ _ [_] [.own 3 1 Qh (.slice (some ⟨(E 1),0,none⟩) f f) (List.replicate f 0),.own 3 1 Qh (.slice (some ⟨(E 4),0,none⟩) [1].length 1) [1],.own 3 1 Qh (.slice (some ⟨(E 6),0,none⟩) [1].length 1) [1],.blk (E 8) [.int .i64 (((f:Nat):Int) - 1),.slice (some ⟨(E 4),0,none⟩) [1].length 1,.int .i64 0,.slice (some ⟨(E 6),0,none⟩) [1].length 1] 45,.own 3 1 Qh (.slice (some ⟨(E 12),0,none⟩) [1].length 1) [1],.blk (E 14) [.int .i64 ((f:Nat):Int),.slice (some ⟨(E 12),0,none⟩) [1].length 1] 45,.own 3 1 Qh (.slice (some ⟨(E 16),0,none⟩) [1].length 1) [1],.blk (E 18) [.int .i64 (-1),.slice (some ⟨(E 16),0,none⟩) [1].length 1] 45,.own 3 1 Qh (.slice (some ⟨(E 20),0,none⟩) [1].length 1) [1],.own 3 1 Qh (.slice (some ⟨(E 22),0,none⟩) [1].length 1) [1],.blk (E 24) [.int .i64 0,.slice (some ⟨(E 20),0,none⟩) [1].length 1,.int .i64 0,.slice (some ⟨(E 22),0,none⟩) [1].length 1] 45,.blk (E 27) [.int .i64 0,.int .i64 0,.slice (some ⟨(E 8),0,none⟩) 2 2,.int .i64 1,.int .i64 0,V1,.int .i64 0,.int .i64 0,.slice (some ⟨(E 14),0,none⟩) 1 1,.int .i64 0,.int .i64 0,.slice (some ⟨(E 18),0,none⟩) 1 1,.int .i64 0,.int .i64 0,.slice (some ⟨(E 24),0,none⟩) 2 2,.int .i64 1,.int .i64 0,V1] 42] [(93,.slice (some ⟨(E 1),0,none⟩) f f),(97,.agg #[.int .i64 (((f:Nat):Int) - 1),.slice (some ⟨(E 4),0,none⟩) [1].length 1]),(99,.agg #[.int .i64 0,.slice (some ⟨(E 6),0,none⟩) [1].length 1]),(100,.slice (some ⟨(E 8),0,none⟩) 2 2),(105,.agg #[.int .i64 ((f:Nat):Int),.slice (some ⟨(E 12),0,none⟩) [1].length 1]),(106,.slice (some ⟨(E 14),0,none⟩) 1 1),(109,.agg #[.int .i64 (-1),.slice (some ⟨(E 16),0,none⟩) [1].length 1]),(110,.slice (some ⟨(E 18),0,none⟩) 1 1),(113,.agg #[.int .i64 0,.slice (some ⟨(E 20),0,none⟩) [1].length 1]),(115,.agg #[.int .i64 0,.slice (some ⟨(E 22),0,none⟩) [1].length 1]),(116,.slice (some ⟨(E 24),0,none⟩) 2 2),(119,.slice (some ⟨(E 27),0,none⟩) 6 6),_] _ [_]
 refine Q1U (sz:=2) (m:=2) Qa.pair ([((⟨(((f:Nat):Int) - 1),[1]⟩ : Q1),(some (⟨(E 4),0,none⟩ : Addr),1)),((⟨0,[1]⟩ : Q1),(some (⟨(E 6),0,none⟩ : Addr),1))]) 3 Z (fun F w hφ=>⟨[.int .i64 (((f:Nat):Int) - 1),.slice (some ⟨(E 4),0,none⟩) [1].length 1],[.int .i64 0,.slice (some ⟨(E 6),0,none⟩) [1].length 1],Z,Z,Z,⟨[.int .i64 0,.slice (some ⟨(E 6),0,none⟩) [1].length 1],[],Z,Z,Z,Z⟩⟩) Z (by decide) (H':=V12 ..) Z (Q1t [Q1w Qa [] none,_,_,_,_,_,_,_,_,_,_,_,_] (fun _ h=>h.bagNil Qa) (Q1S [2,0,1,3,4,5,6,7,8,9,10,11,12] Z (H':=V13 ..) Z (Q1t [Q1w Qa ([((⟨(((f:Nat):Int) - 1),[1]⟩ : Q1),(some (⟨(E 4),0,none⟩ : Addr),1))]) none,_,_,_,_,_,_,_,_,_,_,_] (fun _ h=>QU.bagPush (T:=Qa) (x:=(⟨(((f:Nat):Int) - 1),[1]⟩ : Q1)) (r:=(some (⟨(E 4),0,none⟩ : Addr),1)) (zs:=[]) (H:=V12 ..) h 0 Z) (Q1S [2,0,1,3,4,5,6,7,8,9,10,11] Z (H':=V12 ..) Z (Q1t [Q1w Qa (([((⟨(((f:Nat):Int) - 1),[1]⟩ : Q1),(some (⟨(E 4),0,none⟩ : Addr),1))]) ++ [((⟨0,[1]⟩ : Q1),(some (⟨(E 6),0,none⟩ : Addr),1))]) none,_,_,_,_,_,_,_,_,_,_] (fun _ h=>QU.bagPush (T:=Qa) (x:=(⟨0,[1]⟩ : Q1)) (r:=(some (⟨(E 6),0,none⟩ : Addr),1)) (zs:=[((⟨(((f:Nat):Int) - 1),[1]⟩ : Q1),(some (⟨(E 4),0,none⟩ : Addr),1))]) (H:=V11 ..) h 0 Z) (Q1r 0 (φ':=Q1w Qa ([((⟨(((f:Nat):Int) - 1),[1]⟩ : Q1),(some (⟨(E 4),0,none⟩ : Addr),1)),((⟨0,[1]⟩ : Q1),(some (⟨(E 6),0,none⟩ : Addr),1))]) none) Z Z (H':=V11 ..) Z (Q1t [_,Q1e Qa 45 2 (.slice (some ⟨(E 8),0,none⟩) 2 2) ([(⟨(((f:Nat):Int) - 1),[1]⟩ : Q1),(⟨0,[1]⟩ : Q1)]),_,_,_,_,_,_,_,_] (fun _ h=>h.treeIn 2 0 Z Z Z Z) (Q1J 1 Z (fun aE _=>(Q23 3 (v':=.slice (some ⟨(E 8),0,none⟩) ([(⟨(((f:Nat):Int) - 1),[1]⟩ : Q1),(⟨0,[1]⟩ : Q1)].length) 2) Z (by rw [aE]) (Q1r 9 (φ':=.blk (E 27) [.int .i64 0,.int .i64 0,.slice (some ⟨(E 8),0,none⟩) ([(⟨(((f:Nat):Int) - 1),[1]⟩ : Q1),(⟨0,[1]⟩ : Q1)].length) 2,.int .i64 1,.int .i64 0,V1,.int .i64 0,.int .i64 0,.slice (some ⟨(E 14),0,none⟩) 1 1,.int .i64 0,.int .i64 0,.slice (some ⟨(E 18),0,none⟩) 1 1,.int .i64 0,.int .i64 0,.slice (some ⟨(E 24),0,none⟩) 2 2,.int .i64 1,.int .i64 0,V1] 42) Z (by rw [aE]) (H':=V10 ..) Z (Q1r 1 (φ':=Q1e Qa 45 2 (.slice (some ⟨(E 8),0,none⟩) ([(⟨(((f:Nat):Int) - 1),[1]⟩ : Q1),(⟨0,[1]⟩ : Q1)].length) 2) ([(⟨(((f:Nat):Int) - 1),[1]⟩ : Q1),(⟨0,[1]⟩ : Q1)])) Z (by rw [aE]) (H':=V10 ..) Z (Q1t [Q1e Qa 45 2 (V1) [],_,_,_,_,_,_,_,_,_,_] (fun _ h=>h.treeNil Qa 45 2) (Q1U (sz:=2) (m:=1) Qa.pair ([((⟨(((f:Nat):Int)),[1]⟩ : Q1),(some (⟨(E 12),0,none⟩ : Addr),1))]) 4 Z (fun F w hφ=>⟨[.int .i64 ((f:Nat):Int),.slice (some ⟨(E 12),0,none⟩) [1].length 1],[],Z,Z,Z,Z⟩) Z (by decide) (H':=V11 ..) Z ?_))))))))))))))
 refine Q1t [Q1w Qa [] none,_,_,_,_,_,_,_,_,_,_,_] (fun _ h=>h.bagNil Qa) (Q1S [4,0,1,2,3,5,6,7,8,9,10,11] Z (H':=V12 ..) Z (Q1t [Q1w Qa ([((⟨(((f:Nat):Int)),[1]⟩ : Q1),(some (⟨(E 12),0,none⟩ : Addr),1))]) none,_,_,_,_,_,_,_,_,_,_] (fun _ h=>QU.bagPush (T:=Qa) (x:=(⟨(((f:Nat):Int)),[1]⟩ : Q1)) (r:=(some (⟨(E 12),0,none⟩ : Addr),1)) (zs:=[]) (H:=V11 ..) h 0 Z) (Q1t [_,_,_,Q1e Qa 45 2 (.slice (some ⟨(E 14),0,none⟩) 1 1) ([(⟨(((f:Nat):Int)),[1]⟩ : Q1)]),_,_,_,_,_,_] (fun _ h=>h.treeIn 4 0 Z Z Z Z) (Q1J 3 Z (fun aF _=>(Q23 5 (v':=.slice (some ⟨(E 14),0,none⟩) ([(⟨(((f:Nat):Int)),[1]⟩ : Q1)].length) 1) Z (by rw [aF]) (Q1r 9 (φ':=.blk (E 27) [.int .i64 0,.int .i64 0,.slice (some ⟨(E 8),0,none⟩) ([(⟨(((f:Nat):Int) - 1),[1]⟩ : Q1),(⟨0,[1]⟩ : Q1)].length) 2,.int .i64 1,.int .i64 0,V1,.int .i64 0,.int .i64 0,.slice (some ⟨(E 14),0,none⟩) ([(⟨(((f:Nat):Int)),[1]⟩ : Q1)].length) 1,.int .i64 0,.int .i64 0,.slice (some ⟨(E 18),0,none⟩) 1 1,.int .i64 0,.int .i64 0,.slice (some ⟨(E 24),0,none⟩) 2 2,.int .i64 1,.int .i64 0,V1] 42) Z (by rw [aF]) (H':=V10 ..) Z (Q1r 3 (φ':=Q1e Qa 45 2 (.slice (some ⟨(E 14),0,none⟩) ([(⟨(((f:Nat):Int)),[1]⟩ : Q1)].length) 1) ([(⟨(((f:Nat):Int)),[1]⟩ : Q1)])) Z (by rw [aF]) (H':=V10 ..) Z (Q1U (sz:=2) (m:=1) Qa.pair ([((⟨-1,[1]⟩ : Q1),(some (⟨(E 16),0,none⟩ : Addr),1))]) 5 Z (fun F w hφ=>⟨[.int .i64 (-1),.slice (some ⟨(E 16),0,none⟩) [1].length 1],[],Z,Z,Z,Z⟩) Z (by decide) (H':=V10 ..) Z (Q1t [Q1w Qa [] none,_,_,_,_,_,_,_,_,_,_] (fun _ h=>h.bagNil Qa) (Q1S [5,0,1,2,3,4,6,7,8,9,10] Z (H':=V11 ..) Z (Q1t [Q1w Qa ([((⟨-1,[1]⟩ : Q1),(some (⟨(E 16),0,none⟩ : Addr),1))]) none,_,_,_,_,_,_,_,_,_] (fun _ h=>QU.bagPush (T:=Qa) (x:=(⟨-1,[1]⟩ : Q1)) (r:=(some (⟨(E 16),0,none⟩ : Addr),1)) (zs:=[]) (H:=V10 ..) h 0 Z) (Q1t [_,_,_,_,Q1e Qa 45 2 (.slice (some ⟨(E 18),0,none⟩) 1 1) ([(⟨-1,[1]⟩ : Q1)]),_,_,_,_] (fun _ h=>h.treeIn 5 0 Z Z Z Z) (Q1J 4 Z (fun aG _=>?_)))))))))))))))
 refine Q23 7 (v':=.slice (some ⟨(E 18),0,none⟩) ([(⟨-1,[1]⟩ : Q1)].length) 1) Z (by rw [aG]) (Q1r 8 (φ':=.blk (E 27) [.int .i64 0,.int .i64 0,.slice (some ⟨(E 8),0,none⟩) ([(⟨(((f:Nat):Int) - 1),[1]⟩ : Q1),(⟨0,[1]⟩ : Q1)].length) 2,.int .i64 1,.int .i64 0,V1,.int .i64 0,.int .i64 0,.slice (some ⟨(E 14),0,none⟩) ([(⟨(((f:Nat):Int)),[1]⟩ : Q1)].length) 1,.int .i64 0,.int .i64 0,.slice (some ⟨(E 18),0,none⟩) ([(⟨-1,[1]⟩ : Q1)].length) 1,.int .i64 0,.int .i64 0,.slice (some ⟨(E 24),0,none⟩) 2 2,.int .i64 1,.int .i64 0,V1] 42) Z (by rw [aG]) (H':=V9 ..) Z (Q1r 4 (φ':=Q1e Qa 45 2 (.slice (some ⟨(E 18),0,none⟩) ([(⟨-1,[1]⟩ : Q1)].length) 1) ([(⟨-1,[1]⟩ : Q1)])) Z (by rw [aG]) (H':=V9 ..) Z (Q1U (sz:=2) (m:=2) Qa.pair ([((⟨0,[1]⟩ : Q1),(some (⟨(E 20),0,none⟩ : Addr),1)),((⟨0,[1]⟩ : Q1),(some (⟨(E 22),0,none⟩ : Addr),1))]) 7 Z (fun F w hφ=>⟨[.int .i64 0,.slice (some ⟨(E 20),0,none⟩) [1].length 1],[.int .i64 0,.slice (some ⟨(E 22),0,none⟩) [1].length 1],Z,Z,Z,⟨[.int .i64 0,.slice (some ⟨(E 22),0,none⟩) [1].length 1],[],Z,Z,Z,Z⟩⟩) Z (by decide) (H':=V9 ..) Z (Q1t [Q1w Qa [] none,_,_,_,_,_,_,_,_,_] (fun _ h=>h.bagNil Qa) (Q1S [6,0,1,2,3,4,5,7,8,9] Z (H':=V10 ..) Z (Q1t [Q1w Qa ([((⟨0,[1]⟩ : Q1),(some (⟨(E 20),0,none⟩ : Addr),1))]) none,_,_,_,_,_,_,_,_] (fun _ h=>QU.bagPush (T:=Qa) (x:=(⟨0,[1]⟩ : Q1)) (r:=(some (⟨(E 20),0,none⟩ : Addr),1)) (zs:=[]) (H:=V9 ..) h 0 Z) (Q1S [6,0,1,2,3,4,5,7,8] Z (H':=V9 ..) Z (Q1t [Q1w Qa (([((⟨0,[1]⟩ : Q1),(some (⟨(E 20),0,none⟩ : Addr),1))]) ++ [((⟨0,[1]⟩ : Q1),(some (⟨(E 22),0,none⟩ : Addr),1))]) none,_,_,_,_,_,_,_] (fun _ h=>QU.bagPush (T:=Qa) (x:=(⟨0,[1]⟩ : Q1)) (r:=(some (⟨(E 22),0,none⟩ : Addr),1)) (zs:=[((⟨0,[1]⟩ : Q1),(some (⟨(E 20),0,none⟩ : Addr),1))]) (H:=V8 ..) h 0 Z) (Q1r 0 (φ':=Q1w Qa ([((⟨0,[1]⟩ : Q1),(some (⟨(E 20),0,none⟩ : Addr),1)),((⟨0,[1]⟩ : Q1),(some (⟨(E 22),0,none⟩ : Addr),1))]) none) Z Z (H':=V8 ..) Z (Q1t [_,_,_,_,_,Q1e Qa 45 2 (.slice (some ⟨(E 24),0,none⟩) 2 2) ([(⟨0,[1]⟩ : Q1),(⟨0,[1]⟩ : Q1)]),_] (fun _ h=>h.treeIn 6 0 Z Z Z Z) (Q1J 5 Z (fun aH _=>(Q23 10 (v':=.slice (some ⟨(E 24),0,none⟩) ([(⟨0,[1]⟩ : Q1),(⟨0,[1]⟩ : Q1)].length) 2) Z (by rw [aH]) (Q1r 6 (φ':=.blk (E 27) [.int .i64 0,.int .i64 0,.slice (some ⟨(E 8),0,none⟩) ([(⟨(((f:Nat):Int) - 1),[1]⟩ : Q1),(⟨0,[1]⟩ : Q1)].length) 2,.int .i64 1,.int .i64 0,V1,.int .i64 0,.int .i64 0,.slice (some ⟨(E 14),0,none⟩) ([(⟨(((f:Nat):Int)),[1]⟩ : Q1)].length) 1,.int .i64 0,.int .i64 0,.slice (some ⟨(E 18),0,none⟩) ([(⟨-1,[1]⟩ : Q1)].length) 1,.int .i64 0,.int .i64 0,.slice (some ⟨(E 24),0,none⟩) ([(⟨0,[1]⟩ : Q1),(⟨0,[1]⟩ : Q1)].length) 2,.int .i64 1,.int .i64 0,V1] 42) Z (by rw [aH]) (H':=V7 ..) Z ?_))))))))))))))
 refine Q1r 5 (φ':=Q1e Qa 45 2 (.slice (some ⟨(E 24),0,none⟩) ([(⟨0,[1]⟩ : Q1),(⟨0,[1]⟩ : Q1)].length) 2) ([(⟨0,[1]⟩ : Q1),(⟨0,[1]⟩ : Q1)])) Z (by rw [aH]) (H':=V7 ..) Z (Q1t [Q1e Qa 45 2 (V1) [],_,_,_,_,_,_,_] (fun _ h=>h.treeNil Qa 45 2) (Q1U (sz:=3) (m:=6) QH.pair ([((⟨0,0,[(⟨(((f:Nat):Int) - 1),[1]⟩ : Q1),(⟨0,[1]⟩ : Q1)]⟩ : Q9),(some (⟨(E 8),0,none⟩ : Addr),2)),((⟨1,0,[]⟩ : Q9),(none,0)),((⟨0,0,[(⟨(((f:Nat):Int)),[1]⟩ : Q1)]⟩ : Q9),(some (⟨(E 14),0,none⟩ : Addr),1)),((⟨0,0,[(⟨-1,[1]⟩ : Q1)]⟩ : Q9),(some (⟨(E 18),0,none⟩ : Addr),1)),((⟨0,0,[(⟨0,[1]⟩ : Q1),(⟨0,[1]⟩ : Q1)]⟩ : Q9),(some (⟨(E 24),0,none⟩ : Addr),2)),((⟨1,0,[]⟩ : Q9),(none,0))]) 7 Z (fun F w hφ=>⟨[.int .i64 0,.int .i64 0,.slice (some ⟨(E 8),0,none⟩) ([(⟨(((f:Nat):Int) - 1),[1]⟩ : Q1),(⟨0,[1]⟩ : Q1)].length) 2],[.int .i64 1,.int .i64 0,V1,.int .i64 0,.int .i64 0,.slice (some ⟨(E 14),0,none⟩) ([(⟨(((f:Nat):Int)),[1]⟩ : Q1)].length) 1,.int .i64 0,.int .i64 0,.slice (some ⟨(E 18),0,none⟩) ([(⟨-1,[1]⟩ : Q1)].length) 1,.int .i64 0,.int .i64 0,.slice (some ⟨(E 24),0,none⟩) ([(⟨0,[1]⟩ : Q1),(⟨0,[1]⟩ : Q1)].length) 2,.int .i64 1,.int .i64 0,V1],Z,Z,Z,⟨[.int .i64 1,.int .i64 0,V1],[.int .i64 0,.int .i64 0,.slice (some ⟨(E 14),0,none⟩) ([(⟨(((f:Nat):Int)),[1]⟩ : Q1)].length) 1,.int .i64 0,.int .i64 0,.slice (some ⟨(E 18),0,none⟩) ([(⟨-1,[1]⟩ : Q1)].length) 1,.int .i64 0,.int .i64 0,.slice (some ⟨(E 24),0,none⟩) ([(⟨0,[1]⟩ : Q1),(⟨0,[1]⟩ : Q1)].length) 2,.int .i64 1,.int .i64 0,V1],Z,Z,Z,⟨[.int .i64 0,.int .i64 0,.slice (some ⟨(E 14),0,none⟩) ([(⟨(((f:Nat):Int)),[1]⟩ : Q1)].length) 1],[.int .i64 0,.int .i64 0,.slice (some ⟨(E 18),0,none⟩) ([(⟨-1,[1]⟩ : Q1)].length) 1,.int .i64 0,.int .i64 0,.slice (some ⟨(E 24),0,none⟩) ([(⟨0,[1]⟩ : Q1),(⟨0,[1]⟩ : Q1)].length) 2,.int .i64 1,.int .i64 0,V1],Z,Z,Z,⟨[.int .i64 0,.int .i64 0,.slice (some ⟨(E 18),0,none⟩) ([(⟨-1,[1]⟩ : Q1)].length) 1],[.int .i64 0,.int .i64 0,.slice (some ⟨(E 24),0,none⟩) ([(⟨0,[1]⟩ : Q1),(⟨0,[1]⟩ : Q1)].length) 2,.int .i64 1,.int .i64 0,V1],Z,Z,Z,⟨[.int .i64 0,.int .i64 0,.slice (some ⟨(E 24),0,none⟩) ([(⟨0,[1]⟩ : Q1),(⟨0,[1]⟩ : Q1)].length) 2],[.int .i64 1,.int .i64 0,V1],Z,Z,Z,⟨[.int .i64 1,.int .i64 0,V1],[],Z,Z,Z,Z⟩⟩⟩⟩⟩⟩) Z (by decide) (H':=V8 ..) Z (Q1t [Q1w QH [] none,_,_,_,_,_,_,_,_] (fun _ h=>h.bagNil QH) (Q1S [4,0,1,2,3,5,6,7,8] Z (H':=V9 ..) Z (Q1t [Q1w QH ([((⟨0,0,[(⟨(((f:Nat):Int) - 1),[1]⟩ : Q1),(⟨0,[1]⟩ : Q1)]⟩ : Q9),(some (⟨(E 8),0,none⟩ : Addr),2))]) none,_,_,_,_,_,_,_] (fun _ h=>QU.bagPush (T:=QH) (x:=(⟨0,0,[(⟨(((f:Nat):Int) - 1),[1]⟩ : Q1),(⟨0,[1]⟩ : Q1)]⟩ : Q9)) (r:=(some (⟨(E 8),0,none⟩ : Addr),2)) (zs:=[]) (H:=V8 ..) h 0 Z) (Q1S [2,0,1,3,4,5,6,7] Z (H':=V8 ..) Z (Q1t [Q1w QH (([((⟨0,0,[(⟨(((f:Nat):Int) - 1),[1]⟩ : Q1),(⟨0,[1]⟩ : Q1)]⟩ : Q9),(some (⟨(E 8),0,none⟩ : Addr),2))]) ++ [((⟨1,0,[]⟩ : Q9),(none,0))]) none,_,_,_,_,_,_] (fun _ h=>QU.bagPush (T:=QH) (x:=(⟨1,0,[]⟩ : Q9)) (r:=(none,0)) (zs:=[((⟨0,0,[(⟨(((f:Nat):Int) - 1),[1]⟩ : Q1),(⟨0,[1]⟩ : Q1)]⟩ : Q9),(some (⟨(E 8),0,none⟩ : Addr),2))]) (H:=V7 ..) h 0 Z) (Q1S [3,0,1,2,4,5,6] Z (H':=V7 ..) Z (Q1t [Q1w QH ((([((⟨0,0,[(⟨(((f:Nat):Int) - 1),[1]⟩ : Q1),(⟨0,[1]⟩ : Q1)]⟩ : Q9),(some (⟨(E 8),0,none⟩ : Addr),2))]) ++ [((⟨1,0,[]⟩ : Q9),(none,0))]) ++ [((⟨0,0,[(⟨(((f:Nat):Int)),[1]⟩ : Q1)]⟩ : Q9),(some (⟨(E 14),0,none⟩ : Addr),1))]) none,_,_,_,_,_] (fun _ h=>QU.bagPush (T:=QH) (x:=(⟨0,0,[(⟨(((f:Nat):Int)),[1]⟩ : Q1)]⟩ : Q9)) (r:=(some (⟨(E 14),0,none⟩ : Addr),1)) (zs:=([((⟨0,0,[(⟨(((f:Nat):Int) - 1),[1]⟩ : Q1),(⟨0,[1]⟩ : Q1)]⟩ : Q9),(some (⟨(E 8),0,none⟩ : Addr),2))]) ++ [((⟨1,0,[]⟩ : Q9),(none,0))]) (H:=V6 ..) h 0 Z) (Q1S [3,0,1,2,4,5] Z (H':=V6 ..) Z (Q1t [Q1w QH (((([((⟨0,0,[(⟨(((f:Nat):Int) - 1),[1]⟩ : Q1),(⟨0,[1]⟩ : Q1)]⟩ : Q9),(some (⟨(E 8),0,none⟩ : Addr),2))]) ++ [((⟨1,0,[]⟩ : Q9),(none,0))]) ++ [((⟨0,0,[(⟨(((f:Nat):Int)),[1]⟩ : Q1)]⟩ : Q9),(some (⟨(E 14),0,none⟩ : Addr),1))]) ++ [((⟨0,0,[(⟨-1,[1]⟩ : Q1)]⟩ : Q9),(some (⟨(E 18),0,none⟩ : Addr),1))]) none,_,_,_,_] (fun _ h=>QU.bagPush (T:=QH) (x:=(⟨0,0,[(⟨-1,[1]⟩ : Q1)]⟩ : Q9)) (r:=(some (⟨(E 18),0,none⟩ : Addr),1)) (zs:=(([((⟨0,0,[(⟨(((f:Nat):Int) - 1),[1]⟩ : Q1),(⟨0,[1]⟩ : Q1)]⟩ : Q9),(some (⟨(E 8),0,none⟩ : Addr),2))]) ++ [((⟨1,0,[]⟩ : Q9),(none,0))]) ++ [((⟨0,0,[(⟨(((f:Nat):Int)),[1]⟩ : Q1)]⟩ : Q9),(some (⟨(E 14),0,none⟩ : Addr),1))]) (H:=V5 ..) h 0 Z) (Q1S [3,0,1,2,4] Z (H':=V5 ..) Z (Q1t [Q1w QH ((((([((⟨0,0,[(⟨(((f:Nat):Int) - 1),[1]⟩ : Q1),(⟨0,[1]⟩ : Q1)]⟩ : Q9),(some (⟨(E 8),0,none⟩ : Addr),2))]) ++ [((⟨1,0,[]⟩ : Q9),(none,0))]) ++ [((⟨0,0,[(⟨(((f:Nat):Int)),[1]⟩ : Q1)]⟩ : Q9),(some (⟨(E 14),0,none⟩ : Addr),1))]) ++ [((⟨0,0,[(⟨-1,[1]⟩ : Q1)]⟩ : Q9),(some (⟨(E 18),0,none⟩ : Addr),1))]) ++ [((⟨0,0,[(⟨0,[1]⟩ : Q1),(⟨0,[1]⟩ : Q1)]⟩ : Q9),(some (⟨(E 24),0,none⟩ : Addr),2))]) none,_,_,_] (fun _ h=>QU.bagPush (T:=QH) (x:=(⟨0,0,[(⟨0,[1]⟩ : Q1),(⟨0,[1]⟩ : Q1)]⟩ : Q9)) (r:=(some (⟨(E 24),0,none⟩ : Addr),2)) (zs:=((([((⟨0,0,[(⟨(((f:Nat):Int) - 1),[1]⟩ : Q1),(⟨0,[1]⟩ : Q1)]⟩ : Q9),(some (⟨(E 8),0,none⟩ : Addr),2))]) ++ [((⟨1,0,[]⟩ : Q9),(none,0))]) ++ [((⟨0,0,[(⟨(((f:Nat):Int)),[1]⟩ : Q1)]⟩ : Q9),(some (⟨(E 14),0,none⟩ : Addr),1))]) ++ [((⟨0,0,[(⟨-1,[1]⟩ : Q1)]⟩ : Q9),(some (⟨(E 18),0,none⟩ : Addr),1))]) (H:=V4 ..) h 0 Z) ?_)))))))))))))
 refine Q1S [1,0,2,3] Z (H':=V4 ..) Z (Q1t [Q1w QH (((((([((⟨0,0,[(⟨(((f:Nat):Int) - 1),[1]⟩ : Q1),(⟨0,[1]⟩ : Q1)]⟩ : Q9),(some (⟨(E 8),0,none⟩ : Addr),2))]) ++ [((⟨1,0,[]⟩ : Q9),(none,0))]) ++ [((⟨0,0,[(⟨(((f:Nat):Int)),[1]⟩ : Q1)]⟩ : Q9),(some (⟨(E 14),0,none⟩ : Addr),1))]) ++ [((⟨0,0,[(⟨-1,[1]⟩ : Q1)]⟩ : Q9),(some (⟨(E 18),0,none⟩ : Addr),1))]) ++ [((⟨0,0,[(⟨0,[1]⟩ : Q1),(⟨0,[1]⟩ : Q1)]⟩ : Q9),(some (⟨(E 24),0,none⟩ : Addr),2))]) ++ [((⟨1,0,[]⟩ : Q9),(none,0))]) none,_,_] (fun _ h=>QU.bagPush (T:=QH) (x:=(⟨1,0,[]⟩ : Q9)) (r:=(none,0)) (zs:=(((([((⟨0,0,[(⟨(((f:Nat):Int) - 1),[1]⟩ : Q1),(⟨0,[1]⟩ : Q1)]⟩ : Q9),(some (⟨(E 8),0,none⟩ : Addr),2))]) ++ [((⟨1,0,[]⟩ : Q9),(none,0))]) ++ [((⟨0,0,[(⟨(((f:Nat):Int)),[1]⟩ : Q1)]⟩ : Q9),(some (⟨(E 14),0,none⟩ : Addr),1))]) ++ [((⟨0,0,[(⟨-1,[1]⟩ : Q1)]⟩ : Q9),(some (⟨(E 18),0,none⟩ : Addr),1))]) ++ [((⟨0,0,[(⟨0,[1]⟩ : Q1),(⟨0,[1]⟩ : Q1)]⟩ : Q9),(some (⟨(E 24),0,none⟩ : Addr),2))]) (H:=V3 ..) h 0 Z) (Q1r 0 (φ':=Q1w QH ([((⟨0,0,[(⟨(((f:Nat):Int) - 1),[1]⟩ : Q1),(⟨0,[1]⟩ : Q1)]⟩ : Q9),(some (⟨(E 8),0,none⟩ : Addr),2)),((⟨1,0,[]⟩ : Q9),(none,0)),((⟨0,0,[(⟨(((f:Nat):Int)),[1]⟩ : Q1)]⟩ : Q9),(some (⟨(E 14),0,none⟩ : Addr),1)),((⟨0,0,[(⟨-1,[1]⟩ : Q1)]⟩ : Q9),(some (⟨(E 18),0,none⟩ : Addr),1)),((⟨0,0,[(⟨0,[1]⟩ : Q1),(⟨0,[1]⟩ : Q1)]⟩ : Q9),(some (⟨(E 24),0,none⟩ : Addr),2)),((⟨1,0,[]⟩ : Q9),(none,0))]) none) Z Z (H':=V3 ..) Z (Q1t [_,Q1e QH 42 3 (.slice (some ⟨(E 27),0,none⟩) 6 6) ([(⟨0,0,[(⟨(((f:Nat):Int) - 1),[1]⟩ : Q1),(⟨0,[1]⟩ : Q1)]⟩ : Q9),(⟨1,0,[]⟩ : Q9),(⟨0,0,[(⟨(((f:Nat):Int)),[1]⟩ : Q1)]⟩ : Q9),(⟨0,0,[(⟨-1,[1]⟩ : Q1)]⟩ : Q9),(⟨0,0,[(⟨0,[1]⟩ : Q1),(⟨0,[1]⟩ : Q1)]⟩ : Q9),(⟨1,0,[]⟩ : Q9)])] (fun _ h=>h.treeIn 2 0 Z Z Z Z) (QQ 0 Z (fun b4 _=>(Q23 0 (v':=.slice (some ⟨(E 1),0,none⟩) ((List.replicate f 0).length) f) Z (by first | rfl | (rw [b4]; done) | simp) (Q1r 0 (φ':=.own 3 1 Qh (.slice (some ⟨(E 1),0,none⟩) ((List.replicate f 0).length) f) (List.replicate f 0)) Z (by first | rfl | (rw [b4]; done) | simp) (H':=[_,_]) Z (Q1J 1 Z (fun aR _=>(Q23 11 (v':=.slice (some ⟨(E 27),0,none⟩) ([(⟨0,0,[(⟨(((f:Nat):Int) - 1),[1]⟩ : Q1),(⟨0,[1]⟩ : Q1)]⟩ : Q9),(⟨1,0,[]⟩ : Q9),(⟨0,0,[(⟨(((f:Nat):Int)),[1]⟩ : Q1)]⟩ : Q9),(⟨0,0,[(⟨-1,[1]⟩ : Q1)]⟩ : Q9),(⟨0,0,[(⟨0,[1]⟩ : Q1),(⟨0,[1]⟩ : Q1)]⟩ : Q9),(⟨1,0,[]⟩ : Q9)].length) 6) Z (by rw [aR]) (Q1r 1 (φ':=Q1e QH 42 3 (.slice (some ⟨(E 27),0,none⟩) ([(⟨0,0,[(⟨(((f:Nat):Int) - 1),[1]⟩ : Q1),(⟨0,[1]⟩ : Q1)]⟩ : Q9),(⟨1,0,[]⟩ : Q9),(⟨0,0,[(⟨(((f:Nat):Int)),[1]⟩ : Q1)]⟩ : Q9),(⟨0,0,[(⟨-1,[1]⟩ : Q1)]⟩ : Q9),(⟨0,0,[(⟨0,[1]⟩ : Q1),(⟨0,[1]⟩ : Q1)]⟩ : Q9),(⟨1,0,[]⟩ : Q9)].length) 6) ([(⟨0,0,[(⟨(((f:Nat):Int) - 1),[1]⟩ : Q1),(⟨0,[1]⟩ : Q1)]⟩ : Q9),(⟨1,0,[]⟩ : Q9),(⟨0,0,[(⟨(((f:Nat):Int)),[1]⟩ : Q1)]⟩ : Q9),(⟨0,0,[(⟨-1,[1]⟩ : Q1)]⟩ : Q9),(⟨0,0,[(⟨0,[1]⟩ : Q1),(⟨0,[1]⟩ : Q1)]⟩ : Q9),(⟨1,0,[]⟩ : Q9)])) Z (by rw [aR]) (H':=[_,_]) Z (Q1y [] [0,1] [0,1] Z Z Z Zq Z Z fn_3 Z (Q4S N (some ⟨(E 1),0,none⟩) f (List.replicate f 0) (some ⟨(E 27),0,none⟩) 6 [(⟨0,0,[(⟨(((f:Nat):Int) - 1),[1]⟩ : Q1),(⟨0,[1]⟩ : Q1)]⟩ : Q9),(⟨1,0,[]⟩ : Q9),(⟨0,0,[(⟨(((f:Nat):Int)),[1]⟩ : Q1)]⟩ : Q9),(⟨0,0,[(⟨-1,[1]⟩ : Q1)]⟩ : Q9),(⟨0,0,[(⟨0,[1]⟩ : Q1),(⟨0,[1]⟩ : Q1)]⟩ : Q9),(⟨1,0,[]⟩ : Q9)] _ c3) (fun F w hφ hh=>(Qe (Q1d (hh _ (Qo (k:=0) Z))) (Qe (Q8I Q63 (hh _ (Qo (k:=1) Z)) (fun _ h=>h) (fun _ h=>h)) (Qe (hφ _ (Qo (k:=0) Z)) Ql)))) (fun _ _ _ hR=>by obtain ⟨rfl,rfl,rfl⟩:=hR; exact ⟨Z,(fun _ h=>Q1q h)⟩) Z Z (H':=[_,_]) Z ?_))))))))))))
 rintro _ _ _ ⟨rfl,rfl,rfl⟩
 refine Qx (d:=120) (v':=.bool true) (S':=V13 ..) Z Z (Q16 b8) (Q2 ?_)
 exact Q1j (k:=28) default [] [] Z Z Z Z
 intro E C
 show WL _ C _ _ [_] [] [(120,.bool true),_] _ [_]
 refine wP Z (Q2 ?_)
 exact Q1j (k:=29) default [] [] Z Z Z Z
 show WE _ _ _ [_] [] [(92,.int .i64 ((f:Nat):Int)),(93,.slice (some ⟨(E 1),0,none⟩) f f),(94,.int .i64 ((f:Nat):Int)),(95,.int .i64 (((f:Nat):Int) - 1)),(96,.slice (some ⟨(E 4),0,none⟩) 1 1),(97,.agg #[.int .i64 (((f:Nat):Int) - 1),.slice (some ⟨(E 4),0,none⟩) [1].length 1]),(98,.slice (some ⟨(E 6),0,none⟩) 1 1),(99,.agg #[.int .i64 0,.slice (some ⟨(E 6),0,none⟩) [1].length 1]),(100,.slice (some ⟨(E 8),0,none⟩) 2 2),(101,.agg #[.int .i64 0,.int .i64 0,.slice (some ⟨(E 8),0,none⟩) 2 2]),(102,.agg #[.int .i64 1,.int .i64 0,V1]),(103,.int .i64 ((f:Nat):Int)),(104,.slice (some ⟨(E 12),0,none⟩) 1 1),(105,.agg #[.int .i64 ((f:Nat):Int),.slice (some ⟨(E 12),0,none⟩) [1].length 1]),(106,.slice (some ⟨(E 14),0,none⟩) 1 1),(107,.agg #[.int .i64 0,.int .i64 0,.slice (some ⟨(E 14),0,none⟩) 1 1]),(108,.slice (some ⟨(E 16),0,none⟩) 1 1),(109,.agg #[.int .i64 (-1),.slice (some ⟨(E 16),0,none⟩) [1].length 1]),(110,.slice (some ⟨(E 18),0,none⟩) 1 1),(111,.agg #[.int .i64 0,.int .i64 0,.slice (some ⟨(E 18),0,none⟩) 1 1]),(112,.slice (some ⟨(E 20),0,none⟩) 1 1),(113,.agg #[.int .i64 0,.slice (some ⟨(E 20),0,none⟩) [1].length 1]),(114,.slice (some ⟨(E 22),0,none⟩) 1 1),(115,.agg #[.int .i64 0,.slice (some ⟨(E 22),0,none⟩) [1].length 1]),(116,.slice (some ⟨(E 24),0,none⟩) 2 2),(117,.agg #[.int .i64 0,.int .i64 0,.slice (some ⟨(E 24),0,none⟩) 2 2]),(118,.agg #[.int .i64 1,.int .i64 0,V1]),(119,.slice (some ⟨(E 27),0,none⟩) 6 6),(120,.bool true),(121,.bool false),_] .normal
 generalize (E 8) = bK
 generalize (E 12) = bL
 generalize (E 14) = bM
 generalize (E 16) = bN
 generalize (E 18) = bO
 generalize (E 20) = bP
 generalize (E 22) = bQ
 generalize (E 24) = bR
 generalize (E 27) = bS
 generalize (E 1) = d1
 generalize (E 4) = d2
 generalize (E 6) = d3
 refine Q4 (Q5 [121,5] (S':=[_,_]) Z (Q2X Z (Q5 [5] (S':=[_]) Z (Qt (Qi (Q4 (Q3 (wP Z (wP Z ?_)))))))))
 obtain ⟨d4,hm⟩:=Qd hm
 refine Qx (d:=91) (v':=.int .i64 ((f + 1:Nat):Int)) (S':=[_,_]) Z Z (Q1f (a:=f) (b:=1) d4) (QM (S':=[_,_]) Z Z Z Z Z (Q2 ?_))
 have hE:=(Zi hm).symm
 replace hE:=Q11 hLu4 hE
 refine Q14 (_,f + 1) (Nat.lt_succ_self _) hE [5] Z (asK [0] Z) Z
 replace hm:=Q1l hm b3
 refine Q5 [] (S':=[]) Z (Q19 (Qc (Qc (Qu ?_))))
 have hE:=(Zi hm).symm
 replace hE:=QE hLu4 hE
 refine Qp () hE [] Z (asK [0] Z) Z
 rintro _ hE
 try dsimp only
 have hm:=hLj_5
 try rw [hE] at hm
 try dsimp only at hm
 refine Q6 (Q3 (Q3h Z Z Z Zq Z Q8H Q9M Z (out:=V3 ..) Z (Q2j (.sli 1 Qh none 0 ([] : List Int)) (fun _ _ _=>Q2m) ?_)))
 obtain ⟨_,c4,hm⟩:=Q7 hm
 try dsimp only at hm
 refine wC [] [] Z Q32 Z (Q1p N 0 none 0 ([] : List Int) c4) (asK [0,1] Z) Z (H':=[]) Z ?_
 rintro _ _ _ ⟨rfl,rfl,rfl⟩
 refine Qq Z Z Z Zq Z QG Qg Q1X Z (zs:=[.int .i64 0,V1]) (by kernel_rfl) Z (out:=[_,_]) Z (fun a6=>(Q3h Z Z Z Zq Z Q8H Q9M Z (out:=V3 ..) Z (Q3h Z Z Z Zq Z Q8H Q9M Z (out:=V3 ..) Z (Qq Z Z Z Zq Z tE_23 tS_42 Q8H Z (zs:=[.int .i64 0,.int .i64 0,V1,.int .i64 0,.int .i64 0,V1,.int .i64 0,.int .i64 0,V1]) (by kernel_rfl) Z (out:=V9 ..) Z (fun aL=>(Q2j (.sli 1 Qh none 0 ([] : List Int)) (fun _ _ _=>Q2m) (Q1t [Q1e Qa 45 2 (V1) [],_,_] (fun _ h=>h.treeNil Qa 45 2) (Q6D 3 1 Qh (Q1U (sz:=2) (m:=1) Qa.pair ([((⟨0,[]⟩ : Q1),(none,0))]) 3 Z (fun F w hφ=>⟨[.int .i64 0,.slice none (([] : List Int).length) 0],[],Z,Z,Z,Z⟩) Z (by decide) (H':=V4 ..) Z (Q1t [Q1w Qa [] none,_,_,_,_] (fun _ h=>h.bagNil Qa) (Q1S [1,0,2,3,4] Z (H':=V5 ..) Z (Q1t [Q1w Qa ([((⟨0,[]⟩ : Q1),(none,0))]) none,_,_,_] (fun _ h=>QU.bagPush (T:=Qa) (x:=(⟨0,[]⟩ : Q1)) (r:=(none,0)) (zs:=[]) (H:=V4 ..) h 0 Z) (Q1t [_,_,Q1e Qa 45 2 (.slice (some ⟨a6,0,none⟩) 1 1) ([(⟨0,[]⟩ : Q1)])] (fun _ h=>h.treeIn 3 0 Z Z Z Z) (Q1J 2 Z (fun aC _=>(Q23 2 (v':=.agg #[.int .i64 0,.int .i64 0,.slice (some ⟨a6,0,none⟩) ([(⟨0,[]⟩ : Q1)].length) 1]) Z (by rw [aC]) ?_))))))))))))))))
 refine Q23 3 (v':=.slice (some ⟨a6,0,none⟩) ([(⟨0,[]⟩ : Q1)].length) 1) Z (by rw [aC]) (Q1r 1 (φ':=.blk aL [.int .i64 0,.int .i64 0,V1,.int .i64 0,.int .i64 0,.slice (some ⟨a6,0,none⟩) ([(⟨0,[]⟩ : Q1)].length) 1,.int .i64 1,.int .i64 0,V1] 42) Z (by rw [aC]) (H':=V3 ..) Z (Q1r 2 (φ':=Q1e Qa 45 2 (.slice (some ⟨a6,0,none⟩) ([(⟨0,[]⟩ : Q1)].length) 1) ([(⟨0,[]⟩ : Q1)])) Z (by rw [aC]) (H':=V3 ..) Z (Q1t [Q1e Qa 45 2 (V1) [],_,_,_] (fun _ h=>h.treeNil Qa 45 2) (Q1U (sz:=3) (m:=3) QH.pair ([((⟨0,0,[]⟩ : Q9),(none,0)),((⟨0,0,[(⟨0,[]⟩ : Q1)]⟩ : Q9),(some (⟨a6,0,none⟩ : Addr),1)),((⟨1,0,[]⟩ : Q9),(none,0))]) 2 Z (fun F w hφ=>⟨[.int .i64 0,.int .i64 0,V1],[.int .i64 0,.int .i64 0,.slice (some ⟨a6,0,none⟩) ([(⟨0,[]⟩ : Q1)].length) 1,.int .i64 1,.int .i64 0,V1],Z,Z,Z,⟨[.int .i64 0,.int .i64 0,.slice (some ⟨a6,0,none⟩) ([(⟨0,[]⟩ : Q1)].length) 1],[.int .i64 1,.int .i64 0,V1],Z,Z,Z,⟨[.int .i64 1,.int .i64 0,V1],[],Z,Z,Z,Z⟩⟩⟩) Z (by decide) (H':=V4 ..) Z (Q1t [Q1w QH [] none,_,_,_,_] (fun _ h=>h.bagNil QH) (Q1S [2,0,1,3,4] Z (H':=V5 ..) Z (Q1t [Q1w QH ([((⟨0,0,[]⟩ : Q9),(none,0))]) none,_,_,_] (fun _ h=>QU.bagPush (T:=QH) (x:=(⟨0,0,[]⟩ : Q9)) (r:=(none,0)) (zs:=[]) (H:=V4 ..) h 0 Z) (Q1S [3,0,1,2] Z (H':=V4 ..) Z (Q1t [Q1w QH (([((⟨0,0,[]⟩ : Q9),(none,0))]) ++ [((⟨0,0,[(⟨0,[]⟩ : Q1)]⟩ : Q9),(some (⟨a6,0,none⟩ : Addr),1))]) none,_,_] (fun _ h=>QU.bagPush (T:=QH) (x:=(⟨0,0,[(⟨0,[]⟩ : Q1)]⟩ : Q9)) (r:=(some (⟨a6,0,none⟩ : Addr),1)) (zs:=[((⟨0,0,[]⟩ : Q9),(none,0))]) (H:=V3 ..) h 0 Z) (Q1S [1,0,2] Z (H':=V3 ..) Z (Q1t [Q1w QH ((([((⟨0,0,[]⟩ : Q9),(none,0))]) ++ [((⟨0,0,[(⟨0,[]⟩ : Q1)]⟩ : Q9),(some (⟨a6,0,none⟩ : Addr),1))]) ++ [((⟨1,0,[]⟩ : Q9),(none,0))]) none,_] (fun _ h=>QU.bagPush (T:=QH) (x:=(⟨1,0,[]⟩ : Q9)) (r:=(none,0)) (zs:=([((⟨0,0,[]⟩ : Q9),(none,0))]) ++ [((⟨0,0,[(⟨0,[]⟩ : Q1)]⟩ : Q9),(some (⟨a6,0,none⟩ : Addr),1))]) (H:=[_,_]) h 0 Z) (Q1r 0 (φ':=Q1w QH ([((⟨0,0,[]⟩ : Q9),(none,0)),((⟨0,0,[(⟨0,[]⟩ : Q1)]⟩ : Q9),(some (⟨a6,0,none⟩ : Addr),1)),((⟨1,0,[]⟩ : Q9),(none,0))]) none) Z Z (H':=[_,_]) Z (Q1t [Q1e QH 42 3 (.slice (some ⟨aL,0,none⟩) 3 3) ([(⟨0,0,[]⟩ : Q9),(⟨0,0,[(⟨0,[]⟩ : Q1)]⟩ : Q9),(⟨1,0,[]⟩ : Q9)])] (fun _ h=>h.treeIn 1 0 Z Z Z Z) ?_)))))))))))))
 refine Q1J 0 Z (fun aS _=>(Q23 0 (v':=.slice (some ⟨aL,0,none⟩) ([(⟨0,0,[]⟩ : Q9),(⟨0,0,[(⟨0,[]⟩ : Q1)]⟩ : Q9),(⟨1,0,[]⟩ : Q9)].length) 3) Z (by rw [aS]) (Q1r 0 (φ':=Q1e QH 42 3 (.slice (some ⟨aL,0,none⟩) ([(⟨0,0,[]⟩ : Q9),(⟨0,0,[(⟨0,[]⟩ : Q1)]⟩ : Q9),(⟨1,0,[]⟩ : Q9)].length) 3) ([(⟨0,0,[]⟩ : Q9),(⟨0,0,[(⟨0,[]⟩ : Q1)]⟩ : Q9),(⟨1,0,[]⟩ : Q9)])) Z (by rw [aS]) (H':=[_]) Z ?_)))
 obtain ⟨dJ,c5,hm⟩:=Q7 hm
 refine Q1y [] [0] [0] Z Z Z Zq Z Z fn_3 Z (Q4S N none 0 ([] : List Int) (some ⟨aL,0,none⟩) 3 [(⟨0,0,[]⟩ : Q9),(⟨0,0,[(⟨0,[]⟩ : Q1)]⟩ : Q9),(⟨1,0,[]⟩ : Q9)] _ c5) (fun F w hφ hh=>(Qe (hφ _ (Qo (k:=0) Z)) (Qe (Q8I Q63 (hh _ (Qo (k:=0) Z)) (fun _ h=>h) (fun _ h=>h)) (Qe (hφ _ (Qo (k:=3) Z)) Ql)))) (fun _ _ _ hR=>by obtain ⟨rfl,rfl,rfl⟩:=hR; exact ⟨Z,(fun _ h=>Q1q h)⟩) Z Z (H':=[_]) Z ?_
 rintro _ _ _ ⟨rfl,rfl,rfl⟩
 obtain ⟨b9,hm⟩:=Qd hm
 refine Qx (d:=128) (v':=.bool true) (S':=V6 ..) Z Z (Q16 b9) (wP Z (Qq Z Z Z Zq Z Q1a Q1i Q3S Z (zs:=[.int .i64 0,.int .i64 0,.int .i64 0]) (by kernel_rfl) Z (out:=V3 ..) Z (fun d5=>(Q2j (.sli 1 Qh none 0 ([] : List Int)) (fun _ _ _=>Q2m) ?_))))
 obtain ⟨_,c6,hm⟩:=Q7 hm
 try dsimp only at hm
 refine wC [] [0,1] Z Q32 Z (Q1p N 0 none 0 ([] : List Int) c6) (asK [0,4] Z) Z (H':=[_,_]) Z ?_
 rintro _ _ _ ⟨rfl,rfl,rfl⟩
 refine Q2j (.sli 1 Qh none 0 ([] : List Int)) (fun _ _ _=>Q2m) ?_
 obtain ⟨_,c7,hm⟩:=Q7 hm
 try dsimp only at hm
 refine wC [] [0,1] Z Q32 Z (Q1p N 1 none 0 ([] : List Int) c7) (asK [0,6] Z) Z (H':=[_,_]) Z ?_
 rintro _ _ _ ⟨rfl,rfl,rfl⟩
 refine Q2j (.sli 1 Qh none 0 ([] : List Int)) (fun _ _ _=>Q2m) ?_
 obtain ⟨_,c8,hm⟩:=Q7 hm
 try dsimp only at hm
 refine wC [] [0,1] Z Q32 Z (Q1p N 2 none 0 ([] : List Int) c8) (asK [0,8] Z) Z (H':=[_,_]) Z ?_
 rintro _ _ _ ⟨rfl,rfl,rfl⟩
 refine Qq Z Z Z Zq Z QG Qg Q1X Z (zs:=[.int .i64 0,V1,.int .i64 0,V1,.int .i64 0,V1]) (by kernel_rfl) Z (out:=V6 ..) Z (fun s=>(Q3h Z Z Z Zq Z Q8H Q9M Z (out:=V3 ..) Z (Q3h Z Z Z Zq Z Q8H Q9M Z (out:=V3 ..) Z (Q3h Z Z Z Zq Z Q8H Q9M Z (out:=V3 ..) Z (Q3h Z Z Z Zq Z Q8H Q9M Z (out:=V3 ..) Z (Q3h Z Z Z Zq Z Q8H Q9M Z (out:=V3 ..) Z (Qq Z Z Z Zq Z tE_23 tS_42 Q8H Z (zs:=[.int .i64 0,.int .i64 0,V1,.int .i64 0,.int .i64 0,V1,.int .i64 0,.int .i64 0,V1,.int .i64 0,.int .i64 0,V1,.int .i64 0,.int .i64 0,V1]) (by kernel_rfl) Z (out:=V15 ..) Z (fun aM=>(Q1U (sz:=1) (m:=3) Qh ([4611686018427387904,-9223372036854775808,9223372036854775807]) 2 Z (fun F w hφ=>⟨[.int .i64 4611686018427387904],[.int .i64 (-9223372036854775808),.int .i64 9223372036854775807],Z,Z,⟨(),Z,Ql⟩,⟨[.int .i64 (-9223372036854775808)],[.int .i64 9223372036854775807],Z,Z,⟨(),Z,Ql⟩,⟨[.int .i64 9223372036854775807],[],Z,Z,⟨(),Z,Ql⟩,Z⟩⟩⟩) Z (by decide) (H':=V4 ..) Z (Q6D 3 1 Qh (Q6D 3 1 Qh (Q6D 3 1 Qh (Q1U (sz:=2) (m:=3) Qa.pair ([((⟨0,[]⟩ : Q1),(none,0)),((⟨1,[]⟩ : Q1),(none,0)),((⟨2,[]⟩ : Q1),(none,0))]) 4 Z (fun F w hφ=>⟨[.int .i64 0,.slice none (([] : List Int).length) 0],[.int .i64 1,.slice none (([] : List Int).length) 0,.int .i64 2,.slice none (([] : List Int).length) 0],Z,Z,Z,⟨[.int .i64 1,.slice none (([] : List Int).length) 0],[.int .i64 2,.slice none (([] : List Int).length) 0],Z,Z,Z,⟨[.int .i64 2,.slice none (([] : List Int).length) 0],[],Z,Z,Z,Z⟩⟩⟩) Z (by decide) (H':=V7 ..) Z (Q1t [Q1w Qa [] none,_,_,_,_,_,_,_] (fun _ h=>h.bagNil Qa) (Q1S [3,0,1,2,4,5,6,7] Z (H':=V8 ..) Z ?_)))))))))))))))
 refine Q1t [Q1w Qa ([((⟨0,[]⟩ : Q1),(none,0))]) none,_,_,_,_,_,_] (fun _ h=>QU.bagPush (T:=Qa) (x:=(⟨0,[]⟩ : Q1)) (r:=(none,0)) (zs:=[]) (H:=V7 ..) h 0 Z) (Q1S [2,0,1,3,4,5,6] Z (H':=V7 ..) Z (Q1t [Q1w Qa (([((⟨0,[]⟩ : Q1),(none,0))]) ++ [((⟨1,[]⟩ : Q1),(none,0))]) none,_,_,_,_,_] (fun _ h=>QU.bagPush (T:=Qa) (x:=(⟨1,[]⟩ : Q1)) (r:=(none,0)) (zs:=[((⟨0,[]⟩ : Q1),(none,0))]) (H:=V6 ..) h 0 Z) (Q1S [1,0,2,3,4,5] Z (H':=V6 ..) Z (Q1t [Q1w Qa ((([((⟨0,[]⟩ : Q1),(none,0))]) ++ [((⟨1,[]⟩ : Q1),(none,0))]) ++ [((⟨2,[]⟩ : Q1),(none,0))]) none,_,_,_,_] (fun _ h=>QU.bagPush (T:=Qa) (x:=(⟨2,[]⟩ : Q1)) (r:=(none,0)) (zs:=([((⟨0,[]⟩ : Q1),(none,0))]) ++ [((⟨1,[]⟩ : Q1),(none,0))]) (H:=V5 ..) h 0 Z) (Q1r 0 (φ':=Q1w Qa ([((⟨0,[]⟩ : Q1),(none,0)),((⟨1,[]⟩ : Q1),(none,0)),((⟨2,[]⟩ : Q1),(none,0))]) none) Z Z (H':=V5 ..) Z (Q1t [_,Q1e Qa 45 2 (.slice (some ⟨s,0,none⟩) 3 3) ([(⟨0,[]⟩ : Q1),(⟨1,[]⟩ : Q1),(⟨2,[]⟩ : Q1)]),_,_] (fun _ h=>h.treeIn 2 0 Z Z Z Z) (Q1J 1 Z (fun aD _=>(Q23 5 (v':=.agg #[.int .i64 0,.int .i64 0,.slice (some ⟨s,0,none⟩) ([(⟨0,[]⟩ : Q1),(⟨1,[]⟩ : Q1),(⟨2,[]⟩ : Q1)].length) 3]) Z (by rw [aD]) (Q23 6 (v':=.slice (some ⟨s,0,none⟩) ([(⟨0,[]⟩ : Q1),(⟨1,[]⟩ : Q1),(⟨2,[]⟩ : Q1)].length) 3) Z (by rw [aD]) (Q1r 0 (φ':=.blk aM [.int .i64 0,.int .i64 0,.slice (some ⟨s,0,none⟩) ([(⟨0,[]⟩ : Q1),(⟨1,[]⟩ : Q1),(⟨2,[]⟩ : Q1)].length) 3,.int .i64 1,.int .i64 0,V1,.int .i64 1,.int .i64 0,V1,.int .i64 1,.int .i64 0,V1,.int .i64 1,.int .i64 0,V1] 42) Z (by rw [aD]) (H':=V4 ..) Z (Q1r 1 (φ':=Q1e Qa 45 2 (.slice (some ⟨s,0,none⟩) ([(⟨0,[]⟩ : Q1),(⟨1,[]⟩ : Q1),(⟨2,[]⟩ : Q1)].length) 3) ([(⟨0,[]⟩ : Q1),(⟨1,[]⟩ : Q1),(⟨2,[]⟩ : Q1)])) Z (by rw [aD]) (H':=V4 ..) Z (Q1t [Q1e Qa 45 2 (V1) [],_,_,_,_] (fun _ h=>h.treeNil Qa 45 2) (Q1t [Q1e Qa 45 2 (V1) [],_,_,_,_,_] (fun _ h=>h.treeNil Qa 45 2) ?_))))))))))))))
 refine Q1t [Q1e Qa 45 2 (V1) [],_,_,_,_,_,_] (fun _ h=>h.treeNil Qa 45 2) (Q1t [Q1e Qa 45 2 (V1) [],_,_,_,_,_,_,_] (fun _ h=>h.treeNil Qa 45 2) (Q1U (sz:=3) (m:=5) QH.pair ([((⟨0,0,[(⟨0,[]⟩ : Q1),(⟨1,[]⟩ : Q1),(⟨2,[]⟩ : Q1)]⟩ : Q9),(some (⟨s,0,none⟩ : Addr),3)),((⟨1,0,[]⟩ : Q9),(none,0)),((⟨1,0,[]⟩ : Q9),(none,0)),((⟨1,0,[]⟩ : Q9),(none,0)),((⟨1,0,[]⟩ : Q9),(none,0))]) 4 Z (fun F w hφ=>⟨[.int .i64 0,.int .i64 0,.slice (some ⟨s,0,none⟩) ([(⟨0,[]⟩ : Q1),(⟨1,[]⟩ : Q1),(⟨2,[]⟩ : Q1)].length) 3],[.int .i64 1,.int .i64 0,V1,.int .i64 1,.int .i64 0,V1,.int .i64 1,.int .i64 0,V1,.int .i64 1,.int .i64 0,V1],Z,Z,Z,⟨[.int .i64 1,.int .i64 0,V1],[.int .i64 1,.int .i64 0,V1,.int .i64 1,.int .i64 0,V1,.int .i64 1,.int .i64 0,V1],Z,Z,Z,⟨[.int .i64 1,.int .i64 0,V1],[.int .i64 1,.int .i64 0,V1,.int .i64 1,.int .i64 0,V1],Z,Z,Z,⟨[.int .i64 1,.int .i64 0,V1],[.int .i64 1,.int .i64 0,V1],Z,Z,Z,⟨[.int .i64 1,.int .i64 0,V1],[],Z,Z,Z,Z⟩⟩⟩⟩⟩) Z (by decide) (H':=V8 ..) Z (Q1t [Q1w QH [] none,_,_,_,_,_,_,_,_] (fun _ h=>h.bagNil QH) (Q1S [6,0,1,2,3,4,5,7,8] Z (H':=V9 ..) Z (Q1t [Q1w QH ([((⟨0,0,[(⟨0,[]⟩ : Q1),(⟨1,[]⟩ : Q1),(⟨2,[]⟩ : Q1)]⟩ : Q9),(some (⟨s,0,none⟩ : Addr),3))]) none,_,_,_,_,_,_,_] (fun _ h=>QU.bagPush (T:=QH) (x:=(⟨0,0,[(⟨0,[]⟩ : Q1),(⟨1,[]⟩ : Q1),(⟨2,[]⟩ : Q1)]⟩ : Q9)) (r:=(some (⟨s,0,none⟩ : Addr),3)) (zs:=[]) (H:=V8 ..) h 0 Z) (Q1S [4,0,1,2,3,5,6,7] Z (H':=V8 ..) Z (Q1t [Q1w QH (([((⟨0,0,[(⟨0,[]⟩ : Q1),(⟨1,[]⟩ : Q1),(⟨2,[]⟩ : Q1)]⟩ : Q9),(some (⟨s,0,none⟩ : Addr),3))]) ++ [((⟨1,0,[]⟩ : Q9),(none,0))]) none,_,_,_,_,_,_] (fun _ h=>QU.bagPush (T:=QH) (x:=(⟨1,0,[]⟩ : Q9)) (r:=(none,0)) (zs:=[((⟨0,0,[(⟨0,[]⟩ : Q1),(⟨1,[]⟩ : Q1),(⟨2,[]⟩ : Q1)]⟩ : Q9),(some (⟨s,0,none⟩ : Addr),3))]) (H:=V7 ..) h 0 Z) (Q1S [3,0,1,2,4,5,6] Z (H':=V7 ..) Z (Q1t [Q1w QH ((([((⟨0,0,[(⟨0,[]⟩ : Q1),(⟨1,[]⟩ : Q1),(⟨2,[]⟩ : Q1)]⟩ : Q9),(some (⟨s,0,none⟩ : Addr),3))]) ++ [((⟨1,0,[]⟩ : Q9),(none,0))]) ++ [((⟨1,0,[]⟩ : Q9),(none,0))]) none,_,_,_,_,_] (fun _ h=>QU.bagPush (T:=QH) (x:=(⟨1,0,[]⟩ : Q9)) (r:=(none,0)) (zs:=([((⟨0,0,[(⟨0,[]⟩ : Q1),(⟨1,[]⟩ : Q1),(⟨2,[]⟩ : Q1)]⟩ : Q9),(some (⟨s,0,none⟩ : Addr),3))]) ++ [((⟨1,0,[]⟩ : Q9),(none,0))]) (H:=V6 ..) h 0 Z) (Q1S [2,0,1,3,4,5] Z (H':=V6 ..) Z (Q1t [Q1w QH (((([((⟨0,0,[(⟨0,[]⟩ : Q1),(⟨1,[]⟩ : Q1),(⟨2,[]⟩ : Q1)]⟩ : Q9),(some (⟨s,0,none⟩ : Addr),3))]) ++ [((⟨1,0,[]⟩ : Q9),(none,0))]) ++ [((⟨1,0,[]⟩ : Q9),(none,0))]) ++ [((⟨1,0,[]⟩ : Q9),(none,0))]) none,_,_,_,_] (fun _ h=>QU.bagPush (T:=QH) (x:=(⟨1,0,[]⟩ : Q9)) (r:=(none,0)) (zs:=(([((⟨0,0,[(⟨0,[]⟩ : Q1),(⟨1,[]⟩ : Q1),(⟨2,[]⟩ : Q1)]⟩ : Q9),(some (⟨s,0,none⟩ : Addr),3))]) ++ [((⟨1,0,[]⟩ : Q9),(none,0))]) ++ [((⟨1,0,[]⟩ : Q9),(none,0))]) (H:=V5 ..) h 0 Z) (Q1S [1,0,2,3,4] Z (H':=V5 ..) Z (Q1t [Q1w QH ((((([((⟨0,0,[(⟨0,[]⟩ : Q1),(⟨1,[]⟩ : Q1),(⟨2,[]⟩ : Q1)]⟩ : Q9),(some (⟨s,0,none⟩ : Addr),3))]) ++ [((⟨1,0,[]⟩ : Q9),(none,0))]) ++ [((⟨1,0,[]⟩ : Q9),(none,0))]) ++ [((⟨1,0,[]⟩ : Q9),(none,0))]) ++ [((⟨1,0,[]⟩ : Q9),(none,0))]) none,_,_,_] (fun _ h=>QU.bagPush (T:=QH) (x:=(⟨1,0,[]⟩ : Q9)) (r:=(none,0)) (zs:=((([((⟨0,0,[(⟨0,[]⟩ : Q1),(⟨1,[]⟩ : Q1),(⟨2,[]⟩ : Q1)]⟩ : Q9),(some (⟨s,0,none⟩ : Addr),3))]) ++ [((⟨1,0,[]⟩ : Q9),(none,0))]) ++ [((⟨1,0,[]⟩ : Q9),(none,0))]) ++ [((⟨1,0,[]⟩ : Q9),(none,0))]) (H:=V4 ..) h 0 Z) ?_)))))))))))))
 refine Q1r 0 (φ':=Q1w QH ([((⟨0,0,[(⟨0,[]⟩ : Q1),(⟨1,[]⟩ : Q1),(⟨2,[]⟩ : Q1)]⟩ : Q9),(some (⟨s,0,none⟩ : Addr),3)),((⟨1,0,[]⟩ : Q9),(none,0)),((⟨1,0,[]⟩ : Q9),(none,0)),((⟨1,0,[]⟩ : Q9),(none,0)),((⟨1,0,[]⟩ : Q9),(none,0))]) none) Z Z (H':=V4 ..) Z (Q1t [Q1e QH 42 3 (.slice (some ⟨aM,0,none⟩) 5 5) ([(⟨0,0,[(⟨0,[]⟩ : Q1),(⟨1,[]⟩ : Q1),(⟨2,[]⟩ : Q1)]⟩ : Q9),(⟨1,0,[]⟩ : Q9),(⟨1,0,[]⟩ : Q9),(⟨1,0,[]⟩ : Q9),(⟨1,0,[]⟩ : Q9)]),_,_] (fun _ h=>h.treeIn 1 0 Z Z Z Z) (Q1J 0 Z (fun aT _=>(Q23 0 (v':=.slice (some ⟨aM,0,none⟩) ([(⟨0,0,[(⟨0,[]⟩ : Q1),(⟨1,[]⟩ : Q1),(⟨2,[]⟩ : Q1)]⟩ : Q9),(⟨1,0,[]⟩ : Q9),(⟨1,0,[]⟩ : Q9),(⟨1,0,[]⟩ : Q9),(⟨1,0,[]⟩ : Q9)].length) 5) Z (by rw [aT]) (Q1r 0 (φ':=Q1e QH 42 3 (.slice (some ⟨aM,0,none⟩) ([(⟨0,0,[(⟨0,[]⟩ : Q1),(⟨1,[]⟩ : Q1),(⟨2,[]⟩ : Q1)]⟩ : Q9),(⟨1,0,[]⟩ : Q9),(⟨1,0,[]⟩ : Q9),(⟨1,0,[]⟩ : Q9),(⟨1,0,[]⟩ : Q9)].length) 5) ([(⟨0,0,[(⟨0,[]⟩ : Q1),(⟨1,[]⟩ : Q1),(⟨2,[]⟩ : Q1)]⟩ : Q9),(⟨1,0,[]⟩ : Q9),(⟨1,0,[]⟩ : Q9),(⟨1,0,[]⟩ : Q9),(⟨1,0,[]⟩ : Q9)])) Z (by rw [aT]) (H':=V3 ..) Z ?_)))))
 obtain ⟨dK,c9,hm⟩:=Q7 hm
 refine Q1y [] [0,1,2] [1,0] Z Z Z Zq Z Z fn_3 Z (Q4S N (some ⟨d5,0,none⟩) 3 [4611686018427387904,-9223372036854775808,9223372036854775807] (some ⟨aM,0,none⟩) 5 [(⟨0,0,[(⟨0,[]⟩ : Q1),(⟨1,[]⟩ : Q1),(⟨2,[]⟩ : Q1)]⟩ : Q9),(⟨1,0,[]⟩ : Q9),(⟨1,0,[]⟩ : Q9),(⟨1,0,[]⟩ : Q9),(⟨1,0,[]⟩ : Q9)] _ c9) (fun F w hφ hh=>(Qe (Q1d (hh _ (Qo (k:=0) Z))) (Qe (Q8I Q63 (hh _ (Qo (k:=1) Z)) (fun _ h=>h) (fun _ h=>h)) (Qe (hφ _ (Qo (k:=9) Z)) Ql)))) (fun _ _ _ hR=>by obtain ⟨rfl,rfl,rfl⟩:=hR; exact ⟨Z,(fun _ h=>Q1q h)⟩) Z Z (H':=V3 ..) Z ?_
 rintro _ _ _ ⟨rfl,rfl,rfl⟩
 obtain ⟨bA,hm⟩:=Qd hm
 refine Qx (d:=141) (v':=.bool true) (S':=V19 ..) Z Z (Q16 bA) (wP Z (wP Z ?_))
 obtain ⟨_,cA,hm⟩:=Q7 hm
 try dsimp only at hm
 refine wC [] [0,1,2] Z fn_5 Z (Q2G N  cA) (asK [9] Z) Z (H':=V3 ..) Z ?_
 rintro _ _ _ ⟨rfl,rfl,rfl⟩
 refine wP Z (wP Z (Q2 (Q4 (Q5 [0] (S':=[_]) Z (QJ ?_)))))
 have hE:=(Zi hm).symm
 refine QA (Hr:=[]) [] Tryz.results4 (Qy Z) ⟨Z,Z,Z⟩ (asK [] Z) Z Z (.inl Z)
end Go.Proofs.YtgangmegcejllaaGreatDoor
