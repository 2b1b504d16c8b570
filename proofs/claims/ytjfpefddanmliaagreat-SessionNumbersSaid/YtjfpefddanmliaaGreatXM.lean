import Derived.Test.YtjfpefddanmliaaGreatXT
namespace Go.Proofs.YtjfpefddanmliaaGreat
open Go.RowKit
def Q5l (N:Nat) (a1:Int) (a0:Int):(Nat × (List SessD)) → Option ((Nat × (List SessD)) ⊕ (List SessD)):=fun (u1_6,u1_5_l) =>
 if (decide (((u1_6:Nat):Int) < a1)) = true then (
  gd (-9223372036854775808 ≤ a0 + ((u1_6:Nat):Int) ∧ a0 + ((u1_6:Nat):Int) ≤ 9223372036854775807) <|
  gd (u1_5_l.length + ([(⟨(a0 + ((u1_6:Nat):Int)),(((u1_6:Nat):Int)),(⟨0,0,[],[]⟩ : ReplyD)⟩ : SessD)]).length ≤ 1759218604441) <|
  gd (u1_6 + 1 ≤ 9223372036854775807) <|
  some (.inl (u1_6 + 1,(u1_5_l ++ [(⟨(a0 + ((u1_6:Nat):Int)),(((u1_6:Nat):Int)),(⟨0,0,[],[]⟩ : ReplyD)⟩ : SessD)])))
 ) else (
  some (.inr u1_5_l)
 )
def Q2K (N:Nat) (a0:Int) (a1:Int):Option (List SessD) :=
 Qg (
  Q2s (Q5l N a1 a0) N (0,[])
 ) fun j_1_5_l =>
 some j_1_5_l
def Q3N (N:Nat) (l2:List FactD):(Nat × Nat) → Option ((Nat × Nat) ⊕ Nat):=fun (u1_4,u1_3) =>
 Qg (
  if (decide (u1_4 < l2.length)) = true then (
   some (decide (u1_3 ≤ 200))
  ) else (
   some false
  )
 ) fun j_2_20 =>
 if j_2_20 = true then (
  Qg (l2[u1_4]?) fun x27 =>
  gd (u1_3 + x27.args.length ≤ 9223372036854775807) <|
  gd (u1_4 + 1 ≤ 9223372036854775807) <|
  some (.inl (u1_4 + 1,u1_3 + x27.args.length))
 ) else (
  some (.inr u1_3)
 )
def Q3K (N:Nat) (a0:Int) (a1:Int) (l2:List FactD) (l3:List V):Option (Bool) :=
 gd (l2.length + l3.length ≤ 9223372036854775807) <|
 Qg (
  Q2s (Q3N N l2) N (0,l2.length + l3.length)
 ) fun j_1_3 =>
 some (decide (200 < j_1_3))
def Q6p (N:Nat):Option (Unit) :=
 some ()
def Q1O (N:Nat) (l0:List SessD) (a1:Int):Option (Unit) :=
 some ()
def Q5c (N:Nat) (l0:List SessD) (a1:Int):Option (Int × Nat × (List SessD) × Int) :=
 Qg (Q1O N l0 a1) fun _ =>
 if (!(decide (a1 > 0))) = true then (
  some (0,1,l0,a1)
 ) else (
  Qg (
   if (decide (32 ≤ l0.length)) = true then (
    some true
   ) else (
    some (decide (a1 > 1099511627776))
   )
  ) fun j_1_8 =>
  if j_1_8 = true then (
   some (0,5,l0,a1)
  ) else (
   gd (l0.length + ([(⟨a1,0,(⟨0,0,[],[]⟩ : ReplyD)⟩ : SessD)]).length ≤ 1759218604441) <|
   gd (-9223372036854775808 ≤ a1 + 1 ∧ a1 + 1 ≤ 9223372036854775807) <|
   gd (-9223372036854775808 ≤ (a1 + 1) - 1 ∧ (a1 + 1) - 1 ≤ 9223372036854775807) <|
   some ((a1 + 1) - 1,0,(l0 ++ ([(⟨a1,0,(⟨0,0,[],[]⟩ : ReplyD)⟩ : SessD)])),a1 + 1)
  )
 )
def Q53 (N:Nat) (a0:Int) (a1:Int) (a2:Int) (a3:Int) (l4:List FactD) (l5:List V) (a6:Int):Option (Unit) :=
 some ()
def Q2P (N:Nat) (l0:List SessD) (a1:Int):Nat → Option (Nat ⊕ (Unit ⊕ Int)):=fun u1_8 =>
 if (decide (u1_8 < l0.length)) = true then (
  Qg (l0[u1_8]?) fun x14 =>
  Qg (Q53 N x14.id x14.seq x14.r.err x14.r.num x14.r.facts x14.r.said a1) fun _ =>
  if (x14.id == a1) = true then (
   some (.inr (.inr ((u1_8:Nat):Int)))
  ) else (
   gd (u1_8 + 1 ≤ 9223372036854775807) <|
   some (.inl (u1_8 + 1))
  )
 ) else (
  some (.inr (.inl ()))
 )
def Q3q (N:Nat) (l0:List SessD) (a1:Int):Option (Int) :=
 Q5u (
  Q2s (Q2P N l0 a1) N 0
 ) fun _ =>
 some (-1)
def Q4p (N:Nat) (l0:List SessD) (a1:Int) (a2:Int):Option (Int) :=
 Qg (Q3q N l0 a2) fun v10 =>
 some v10
def Q2j (N:Nat) (l0:List SessD) (a1:Int) (a2:Int):Option (Int × Nat) :=
 Qg (Q1O N l0 a1) fun _ =>
 if (!(decide (a1 > 0))) = true then (
  some (0,1)
 ) else (
  Qg (Q4p N l0 a1 a2) fun v14 =>
  if (decide (v14 < 0)) = true then (
   some (0,303)
  ) else (
   some (v14,0)
  )
 )
def Q5m (N:Nat) (l2:List FactD):(Nat × (List FactD)) → Option ((Nat × (List FactD)) ⊕ ((List FactD) × Nat)):=fun (u1_15,u1_1_f2_l) =>
 if (decide (u1_15 < l2.length)) = true then (
  Qg (u1_1_f2_l[u1_15]?) fun x24 =>
  Qg (u1_1_f2_l[u1_15]?) fun x26 =>
  gd (x26.args.length ≤ 4398046511104) <|
  Qg (u1_1_f2_l[u1_15]?) fun x28 =>
  Qg (u1_1_f2_l[u1_15]?) fun x1007 =>
  gd (u1_15 + 1 ≤ 9223372036854775807) <|
  some (.inl (u1_15 + 1,(u1_1_f2_l.set u1_15 (⟨x1007.id,x1007.ty,x26.args⟩ : FactD))))
 ) else (
  some (.inr (u1_1_f2_l,u1_15))
 )
def Q4N (N:Nat) (a0:Int) (a1:Int) (l2:List FactD) (l3:List V):Option (List FactD) :=
 gd (l3.length ≤ 4398046511104) <|
 gd (l2.length ≤ 3518437208883) <|
 Qg (
  Q2s (Q5m N l2) N (0,l2)
 ) fun (j_1_1_f2_l,j_1_sh2) =>
 gd (j_1_1_f2_l.length ≤ j_1_sh2) <|
 some j_1_1_f2_l
def Q1E (N:Nat) (l0:List SessD) (a1:Int) (a2:Int) (a3:Int):Option (Int × Int × (List FactD) × (List V) × Bool × Nat) :=
 Qg (Q2j N l0 a1 a2) fun (v14_0,v14_1) =>
 if (v14_1 != 0) = true then (
  some (0,0,[],[],false,v14_1)
 ) else (
  gd (0 ≤ v14_0) <|
  Qg (l0[v14_0.toNat]?) fun x27 =>
  Qg (
   if (decide (a3 < 1)) = true then (
    some true
   ) else (
    some (decide (a3 < x27.seq))
   )
  ) fun j_1_29 =>
  if j_1_29 = true then (
   some (0,0,[],[],false,304)
  ) else (
   if (a3 == x27.seq) = true then (
    Qg (Q4N N x27.r.err x27.r.num x27.r.facts x27.r.said) fun v46 =>
    some (x27.r.err,x27.r.num,v46,x27.r.said,true,0)
   ) else (
    some (0,0,[],[],false,0)
   )
  )
 )
def Q5d (N:Nat) (l0:List SessD) (a1:Int) (a2:Int) (a3:Int) (a4:Int) (a5:Int) (l6:List FactD) (l7:List V):Option (Nat × (List SessD)) :=
 Qg (Q2j N l0 a1 a2) fun (v14_0,v14_1) =>
 if (v14_1 != 0) = true then (
  some (v14_1,l0)
 ) else (
  Qg (
   if (decide (a3 < 1)) = true then (
    some true
   ) else (
    gd (0 ≤ v14_0) <|
    Qg (l0[v14_0.toNat]?) fun x32 =>
    some (decide (a3 ≤ x32.seq))
   )
  ) fun j_1_21 =>
  if j_1_21 = true then (
   some (304,l0)
  ) else (
   Qg (Q4N N a4 a5 l6 l7) fun v51 =>
   gd (0 ≤ v14_0) <|
   Qg (l0[v14_0.toNat]?) fun x52 =>
   gd (0 ≤ v14_0) <|
   Qg ((l0.set v14_0.toNat (⟨x52.id,a3,x52.r⟩ : SessD))[v14_0.toNat]?) fun x54 =>
   some (0,((l0.set v14_0.toNat (⟨x52.id,a3,x52.r⟩ : SessD)).set v14_0.toNat (⟨x54.id,x54.seq,(⟨a4,a5,v51,l7⟩ : ReplyD)⟩ : SessD)))
  )
 )
def Q1U (N:Nat) (l0:List SessD) (a1:Int) (a2:Int):Option (Nat × (List SessD)) :=
 Qg (Q2j N l0 a1 a2) fun (v10_0,v10_1) =>
 Qg (
  if (v10_1 == 0) = true then (
   gd (-9223372036854775808 ≤ v10_0 + 1 ∧ v10_0 + 1 ≤ 9223372036854775807) <|
   gd (0 ≤ v10_0) <|
   gd (v10_0.toNat < l0.length) <|
   some (l0.take v10_0.toNat ++ l0.drop (v10_0.toNat + 1))
  ) else (
   some l0
  )
 ) fun j_1_r0_f0_l =>
 some (v10_1,j_1_r0_f0_l)
def Q6k (N:Nat) (v24_0:Int) (v24_1:Nat) (v29_4:Bool) (v29_5:Nat) (v35_0:Nat) (v38_1:Int) (v38_4:Bool) (v38_5:Nat) (v44_5:Nat) (v50_5:Nat) (v56_0:Nat) (v58_0:Nat) (v61_0:Int) (v61_1:Nat):Option (Bool) :=
 if (v24_0 == 1) = true then (
  if (v24_1 == 0) = true then (
   if (!v29_4) = true then (
    if (v29_5 == 0) = true then (
     if (v35_0 == 0) = true then (
      if (v38_1 == 9) = true then (
       if v38_4 = true then (
        if (v38_5 == 0) = true then (
         if (v44_5 == 304) = true then (
          if (v50_5 == 303) = true then (
           if (v56_0 == 304) = true then (
            if (v58_0 == 0) = true then (
             if (v61_0 == 2) = true then (
              some (v61_1 == 0)
             ) else (
              some false
             )
            ) else (
             some false
            )
           ) else (
            some false
           )
          ) else (
           some false
          )
         ) else (
          some false
         )
        ) else (
         some false
        )
       ) else (
        some false
       )
      ) else (
       some false
      )
     ) else (
      some false
     )
    ) else (
     some false
    )
   ) else (
    some false
   )
  ) else (
   some false
  )
 ) else (
  some false
 )
def Q20 (N:Nat):Option (Bool) :=
 Qg (Q6p N) fun _ =>
 Qg (Q5c N [] 1) fun (v24_0,v24_1,v24_2,v24_3) =>
 Qg (Q1E N v24_2 v24_3 1 4) fun (v29_0,v29_1,v29_2,v29_3,v29_4,v29_5) =>
 Qg (Q5d N v24_2 v24_3 1 4 0 9 ([] : List FactD) ([] : List V)) fun (v35_0,v35_1) =>
 Qg (Q1E N v35_1 v24_3 1 4) fun (v38_0,v38_1,v38_2,v38_3,v38_4,v38_5) =>
 Qg (Q1E N v35_1 v24_3 1 3) fun (v44_0,v44_1,v44_2,v44_3,v44_4,v44_5) =>
 Qg (Q1E N v35_1 v24_3 2 1) fun (v50_0,v50_1,v50_2,v50_3,v50_4,v50_5) =>
 Qg (Q5d N v35_1 v24_3 1 4 0 0 ([] : List FactD) ([] : List V)) fun (v56_0,v56_1) =>
 Qg (Q1U N v56_1 v24_3 1) fun (v58_0,v58_1) =>
 Qg (Q5c N v58_1 v24_3) fun (v61_0,v61_1,v61_2,v61_3) =>
 Qg (Q6k N v24_0 v24_1 v29_4 v29_5 v35_0 v38_1 v38_4 v38_5 v44_5 v50_5 v56_0 v58_0 v61_0 v61_1
 ) fun j_1_0 =>
 some j_1_0
def Q5i (N:Nat):Option (Unit) :=
 some ()
def Q4m (N:Nat) (a0:Int) (a1:Int):Option (Unit) :=
 some ()
def Q1N (N:Nat) (a0:Int) (a1:Int):Option (Unit) :=
 Qg (Q4m N a0 a1) fun _ =>
 some ()
def Q3m (N:Nat):(Nat × (List V)) → Option ((Nat × (List V)) ⊕ (List V)):=fun (u1_4,u1_3_l) =>
 if (decide (u1_4 < 12)) = true then (
  Qg (Q1N N 1 ((u1_4:Nat):Int)) fun _ =>
  gd (u1_3_l.length + ([(⟨0,(IntKind.wrap .i64 ((IntKind.wrap .i64 (1000003 * (IntKind.wrap .i64 (1 + 7)))) + ((u1_4:Nat):Int))),(⟨#[]⟩ : ByteArray)⟩ : V)]).length ≤ 4398046511104) <|
  gd (u1_4 + 1 ≤ 9223372036854775807) <|
  some (.inl (u1_4 + 1,(u1_3_l ++ ([(⟨0,(IntKind.wrap .i64 ((IntKind.wrap .i64 (1000003 * (IntKind.wrap .i64 (1 + 7)))) + ((u1_4:Nat):Int))),(⟨#[]⟩ : ByteArray)⟩ : V)]))))
 ) else (
  some (.inr u1_3_l)
 )
def Q37 (N:Nat) (l0:List V):Option (List V) :=
 gd (l0.length + 12 ≤ 9223372036854775807) <|
 gd (l0.length + 12 ≤ 4398046511104) <|
 gd (([] : List V).length + l0.length ≤ 4398046511104) <|
 Qg (
  Q2s (Q3m N) N (0,l0)
 ) fun j_1_3_l =>
 gd (l0.length ≤ j_1_3_l.length) <|
 some j_1_3_l
def Q4a (N:Nat) (a0:Int) (a1:Int) (l2:List V):Option (List V) :=
 Qg (Q37 N l2) fun v5 =>
 some v5
def Q1V (N:Nat) (a0:Int) (a1:Int):Option (Unit) :=
 Qg (Q4m N a0 a1) fun _ =>
 some ()
def Q3u (N:Nat) (l0:List FactD):(Nat × (List FactDS)) → Option ((Nat × (List FactDS)) ⊕ (List FactDS)):=fun (u1_4,u1_3_l) =>
 if (decide (u1_4 < l0.length)) = true then (
  Qg (l0[u1_4]?) fun x19 =>
  Qg (Q4a N x19.id x19.ty x19.args) fun v21 =>
  gd (x19.args.length ≤ v21.length) <|
  gd (u1_3_l.length + ([(⟨x19.id,x19.ty,v21.take x19.args.length,v21.drop x19.args.length⟩ : FactDS)]).length ≤ 3518437208883) <|
  gd (u1_4 + 1 ≤ 9223372036854775807) <|
  some (.inl (u1_4 + 1,(u1_3_l ++ [(⟨x19.id,x19.ty,v21.take x19.args.length,v21.drop x19.args.length⟩ : FactDS)])))
 ) else (
  some (.inr u1_3_l)
 )
def Q3w (N:Nat):(Nat × (List FactDS)) → Option ((Nat × (List FactDS)) ⊕ (List FactDS)):=fun (u2_6,u2_3_l) =>
 if (decide (u2_6 < 12)) = true then (
  Qg (Q1V N 1 ((u2_6:Nat):Int)) fun _ =>
  gd (u2_3_l.length + ([(⟨(IntKind.wrap .i64 ((IntKind.wrap .i64 (1000003 * (IntKind.wrap .i64 (1 + 7)))) + ((u2_6:Nat):Int))),0,([] : List V),[]⟩ : FactDS)]).length ≤ 3518437208883) <|
  gd (u2_6 + 1 ≤ 9223372036854775807) <|
  some (.inl (u2_6 + 1,(u2_3_l ++ [(⟨(IntKind.wrap .i64 ((IntKind.wrap .i64 (1000003 * (IntKind.wrap .i64 (1 + 7)))) + ((u2_6:Nat):Int))),0,([] : List V),[]⟩ : FactDS)])))
 ) else (
  some (.inr u2_3_l)
 )
def Q3U (N:Nat) (l0:List FactD):Option (List FactDS) :=
 gd (l0.length + 12 ≤ 9223372036854775807) <|
 gd (l0.length + 12 ≤ 3518437208883) <|
 Qg (
  Q2s (Q3u N l0) N (0,[])
 ) fun j_1_3_l =>
 Qg (
  Q2s (Q3w N) N (0,j_1_3_l)
 ) fun j_2_3_l =>
 gd (l0.length ≤ j_2_3_l.length) <|
 some j_2_3_l
def Q24 (N:Nat) (a0:Int) (a1:Int) (l2:List FactD) (l3:List V):Option ((List FactDS) × (List V)) :=
 Qg (Q3U N l2) fun v5 =>
 Qg (Q37 N l3) fun v9 =>
 some (v5,v9)
def Q4i (N:Nat) (a0:Int) (a1:Int) (a2:Int) (a3:Int) (l4:List FactD) (l5:List V):Option ((List FactDS) × (List V)) :=
 Qg (Q24 N a2 a3 l4 l5) fun (v5_0,v5_1) =>
 some (v5_0,v5_1)
def Q1z (N:Nat) (a0:Int) (a1:Int):Option (Unit) :=
 Qg (Q4m N a0 a1) fun _ =>
 some ()
def Q2N (N:Nat) (l0:List SessD):(Nat × (List SessDS)) → Option ((Nat × (List SessDS)) ⊕ (List SessDS)):=fun (u1_4,u1_3_l) =>
 if (decide (u1_4 < l0.length)) = true then (
  Qg (l0[u1_4]?) fun x19 =>
  Qg (Q4i N x19.id x19.seq x19.r.err x19.r.num x19.r.facts x19.r.said) fun (v21_0,v21_1) =>
  gd (x19.r.facts.length ≤ v21_0.length) <|
  gd (x19.r.said.length ≤ v21_1.length) <|
  gd (u1_3_l.length + ([(⟨x19.id,x19.seq,(⟨x19.r.err,x19.r.num,v21_0.take x19.r.facts.length,v21_0.drop x19.r.facts.length,v21_1.take x19.r.said.length,v21_1.drop x19.r.said.length⟩ : ReplyDS)⟩ : SessDS)]).length ≤ 1759218604441) <|
  gd (u1_4 + 1 ≤ 9223372036854775807) <|
  some (.inl (u1_4 + 1,(u1_3_l ++ [(⟨x19.id,x19.seq,(⟨x19.r.err,x19.r.num,v21_0.take x19.r.facts.length,v21_0.drop x19.r.facts.length,v21_1.take x19.r.said.length,v21_1.drop x19.r.said.length⟩ : ReplyDS)⟩ : SessDS)])))
 ) else (
  some (.inr u1_3_l)
 )
def Q2M (N:Nat):(Nat × (List SessDS)) → Option ((Nat × (List SessDS)) ⊕ (List SessDS)):=fun (u2_6,u2_3_l) =>
 if (decide (u2_6 < 12)) = true then (
  Qg (Q1z N 1 ((u2_6:Nat):Int)) fun _ =>
  gd (u2_3_l.length + ([(⟨(IntKind.wrap .i64 ((IntKind.wrap .i64 (1000003 * (IntKind.wrap .i64 (1 + 7)))) + ((u2_6:Nat):Int))),0,(⟨0,0,([] : List FactDS),[],([] : List V),[]⟩ : ReplyDS)⟩ : SessDS)]).length ≤ 1759218604441) <|
  gd (u2_6 + 1 ≤ 9223372036854775807) <|
  some (.inl (u2_6 + 1,(u2_3_l ++ [(⟨(IntKind.wrap .i64 ((IntKind.wrap .i64 (1000003 * (IntKind.wrap .i64 (1 + 7)))) + ((u2_6:Nat):Int))),0,(⟨0,0,([] : List FactDS),[],([] : List V),[]⟩ : ReplyDS)⟩ : SessDS)])))
 ) else (
  some (.inr u2_3_l)
 )
def Q3s (N:Nat) (l0:List SessD):Option (List SessDS) :=
 gd (l0.length + 12 ≤ 9223372036854775807) <|
 gd (l0.length + 12 ≤ 1759218604441) <|
 Qg (
  Q2s (Q2N N l0) N (0,[])
 ) fun j_1_3_l =>
 Qg (
  Q2s (Q2M N) N (0,j_1_3_l)
 ) fun j_2_3_l =>
 gd (l0.length ≤ j_2_3_l.length) <|
 some j_2_3_l
def Q5t (N:Nat) (l0:List SessD):(Nat × (List SessD)) → Option ((Nat × (List SessD)) ⊕ ((List SessD) × Nat)):=fun (u1_9,u1_3_l) =>
 if (decide (u1_9 < l0.length)) = true then (
  Qg (u1_3_l[u1_9]?) fun x16 =>
  Qg (u1_3_l[u1_9]?) fun x18 =>
  Qg (Q4N N x18.r.err x18.r.num x18.r.facts x18.r.said) fun v19 =>
  Qg (u1_3_l[u1_9]?) fun x20 =>
  Qg (u1_3_l[u1_9]?) fun x1031 =>
  gd (u1_9 + 1 ≤ 9223372036854775807) <|
  some (.inl (u1_9 + 1,(u1_3_l.set u1_9 (⟨x1031.id,x1031.seq,(⟨x18.r.err,x18.r.num,v19,x18.r.said⟩ : ReplyD)⟩ : SessD))))
 ) else (
  some (.inr (u1_3_l,u1_9))
 )
def Q5K (N:Nat) (l0:List SessD):Option (List SessD) :=
 gd (l0.length ≤ 1759218604441) <|
 Qg (
  Q2s (Q5t N l0) N (0,l0)
 ) fun (j_1_3_l,j_1_sh0) =>
 gd (j_1_3_l.length ≤ j_1_sh0) <|
 some j_1_3_l
def Q3P (N:Nat) (l1:List SessD) (a0:Int):(Nat × Int) → Option ((Nat × Int) ⊕ (Unit ⊕ (Unit ⊕ (List SessD)))):=fun (u1_22,u1_6) =>
 if (decide (u1_22 < l1.length)) = true then (
  Qg (l1[u1_22]?) fun x24 =>
  Qg (
   if (decide (x24.id ≤ u1_6)) = true then (
    some true
   ) else (
    if (decide (x24.id ≥ a0)) = true then (
     some true
    ) else (
     some (decide (x24.seq < 0))
    )
   )
  ) fun j_3_40 =>
  if j_3_40 = true then (
   some (.inr (.inr (.inl ())))
  ) else (
   gd (u1_22 + 1 ≤ 9223372036854775807) <|
   some (.inl (u1_22 + 1,x24.id))
  )
 ) else (
  some (.inr (.inl ()))
 )
def Q5A (N:Nat) (a0:Int) (l1:List SessD):Option (Unit ⊕ (List SessD)) :=
 Qg (
  if (decide (a0 < 1)) = true then (
   some true
  ) else (
   if (decide (a0 > 1099511627777)) = true then (
    some true
   ) else (
    some (decide (32 < l1.length))
   )
  )
 ) fun j_1_19 =>
 if j_1_19 = true then (
  some (.inl ())
 ) else (
  Q5u (
   Q2s (Q3P N l1 a0) N (0,0)
  ) fun _ =>
  Qg (Q5K N l1) fun v45 =>
  some (.inr v45)
 )
def Q38 (N:Nat) (l0:List V):Option (Unit) :=
 gd (([] : List V).length + l0.length ≤ 4398046511104) <|
 some ()
def Q4K (N:Nat) (a0:Int) (a1:Int) (l2:List V):Option (Unit) :=
 Qg (Q38 N l2) fun _ =>
 some ()
def Q3t (N:Nat) (l0:List FactD):(Nat × (List FactD)) → Option ((Nat × (List FactD)) ⊕ (List FactD)):=fun (u1_4,u1_3_l) =>
 if (decide (u1_4 < l0.length)) = true then (
  Qg (l0[u1_4]?) fun x14 =>
  Qg (Q4K N x14.id x14.ty x14.args) fun _ =>
  gd (u1_3_l.length + [x14].length ≤ 3518437208883) <|
  gd (u1_4 + 1 ≤ 9223372036854775807) <|
  some (.inl (u1_4 + 1,u1_3_l ++ [x14]))
 ) else (
  some (.inr u1_3_l)
 )
def Q3S (N:Nat) (l0:List FactD):Option (List FactD) :=
 Qg (
  Q2s (Q3t N l0) N (0,[])
 ) fun j_1_3_l =>
 some j_1_3_l
def Q2A (N:Nat) (a0:Int) (a1:Int) (l2:List FactD) (l3:List V):Option (List FactD) :=
 Qg (Q3S N l2) fun v5 =>
 Qg (Q38 N l3) fun _ =>
 some v5
def Q4j (N:Nat) (a0:Int) (a1:Int) (a2:Int) (a3:Int) (l4:List FactD) (l5:List V):Option (List FactD) :=
 Qg (Q2A N a2 a3 l4 l5) fun v5 =>
 some v5
def Q2O (N:Nat) (l0:List SessD):(Nat × (List SessD)) → Option ((Nat × (List SessD)) ⊕ (List SessD)):=fun (u1_4,u1_3_l) =>
 if (decide (u1_4 < l0.length)) = true then (
  Qg (l0[u1_4]?) fun x14 =>
  Qg (Q4j N x14.id x14.seq x14.r.err x14.r.num x14.r.facts x14.r.said) fun v16 =>
  gd (u1_3_l.length + ([(⟨x14.id,x14.seq,(⟨x14.r.err,x14.r.num,v16,x14.r.said⟩ : ReplyD)⟩ : SessD)]).length ≤ 1759218604441) <|
  gd (u1_4 + 1 ≤ 9223372036854775807) <|
  some (.inl (u1_4 + 1,(u1_3_l ++ [(⟨x14.id,x14.seq,(⟨x14.r.err,x14.r.num,v16,x14.r.said⟩ : ReplyD)⟩ : SessD)])))
 ) else (
  some (.inr u1_3_l)
 )
def Q1J (N:Nat) (l0:List SessD):Option (List SessD) :=
 Qg (
  Q2s (Q2O N l0) N (0,[])
 ) fun j_1_3_l =>
 some j_1_3_l
def Q5N (N:Nat) (l1:List SessD) (u1_7:Nat) (u1_6:Int) (a0:Int):Option (Bool) :=
 Qg (l1[u1_7]?) fun x27 =>
 if (decide (x27.id ≤ u1_6)) = true then (
  some true
 ) else (
  Qg (l1[u1_7]?) fun x35 =>
  if (decide (x35.id ≥ a0)) = true then (
   some true
  ) else (
   Qg (l1[u1_7]?) fun x44 =>
   some (decide (x44.seq < 0))
  )
 )
def Q3d (N:Nat) (l1:List SessD) (a0:Int):(Nat × Int) → Option ((Nat × Int) ⊕ (Unit ⊕ (Unit ⊕ (List SessD)))):=fun (u1_7,u1_6) =>
 if (decide (u1_7 < l1.length)) = true then (
  Qg (Q5N N l1 u1_7 u1_6 a0
  ) fun j_3_48 =>
  if j_3_48 = true then (
   some (.inr (.inr (.inl ())))
  ) else (
   Qg (l1[u1_7]?) fun x51 =>
   gd (u1_7 + 1 ≤ 9223372036854775807) <|
   some (.inl (u1_7 + 1,x51.id))
  )
 ) else (
  some (.inr (.inl ()))
 )
def Q3p (N:Nat) (a0:Int) (l1:List SessD):Option (Unit ⊕ (List SessD)) :=
 Qg (
  if (decide (a0 < 1)) = true then (
   some true
  ) else (
   if (decide (a0 > 1099511627777)) = true then (
    some true
   ) else (
    some (decide (32 < l1.length))
   )
  )
 ) fun j_1_18 =>
 if j_1_18 = true then (
  some (.inl ())
 ) else (
  Q5u (
   Q2s (Q3d N l1 a0) N (0,0)
  ) fun _ =>
  Qg (Q1J N l1) fun v55 =>
  some (.inr v55)
 )
def Q2T (N:Nat) (k1:Nat) (l0:List V) (l2:List V):Nat → Option (Nat ⊕ (Unit ⊕ Bool)):=fun u1_5 =>
 if (decide (u1_5 < k1)) = true then (
  gd (u1_5 < k1) <|
  Qg (l0[u1_5]?) fun x19 =>
  Qg (l2[u1_5]?) fun x23 =>
  if (!decide (x19 = x23)) = true then (
   some (.inr (.inr false))
  ) else (
   gd (u1_5 + 1 ≤ 9223372036854775807) <|
   some (.inl (u1_5 + 1))
  )
 ) else (
  some (.inr (.inl ()))
 )
def Q2C (N:Nat) (l0:List V) (k1:Nat) (l2:List V):Option (Bool) :=
 if (k1 != l2.length) = true then (
  some false
 ) else (
  Q5u (
   Q2s (Q2T N k1 l0 l2) N 0
  ) fun _ =>
  some true
 )
def Q1i (N:Nat) (a0:Int) (a1:Int) (l2:List V) (k3:Nat) (a4:Int) (a5:Int) (l6:List V):Option (Bool) :=
 if (a0 == a4) = true then (
  if (a1 == a5) = true then (
   Qg (Q2C N l2 k3 l6) fun v22 =>
   some v22
  ) else (
   some false
  )
 ) else (
  some false
 )
def Q2e (N:Nat) (k1:Nat) (l0:List FactDS) (l2:List FactD):Nat → Option (Nat ⊕ (Unit ⊕ Bool)):=fun u1_5 =>
 if (decide (u1_5 < k1)) = true then (
  gd (u1_5 < k1) <|
  Qg (l0[u1_5]?) fun x19 =>
  Qg (l2[u1_5]?) fun x23 =>
  Qg (Q1i N x19.id x19.ty (x19.args ++ x19.argsT) x19.args.length x23.id x23.ty x23.args) fun v25 =>
  if (!v25) = true then (
   some (.inr (.inr false))
  ) else (
   gd (u1_5 + 1 ≤ 9223372036854775807) <|
   some (.inl (u1_5 + 1))
  )
 ) else (
  some (.inr (.inl ()))
 )
def Q2b (N:Nat) (l0:List FactDS) (k1:Nat) (l2:List FactD):Option (Bool) :=
 if (k1 != l2.length) = true then (
  some false
 ) else (
  Q5u (
   Q2s (Q2e N k1 l0 l2) N 0
  ) fun _ =>
  some true
 )
def Q2Z (N:Nat) (a0:Int) (a6:Int) (a1:Int) (a7:Int) (l2:List FactDS) (k3:Nat) (l8:List FactD) (l4:List V) (k5:Nat) (l9:List V):Option (Bool) :=
 if (a0 == a6) = true then (
  if (a1 == a7) = true then (
   Qg (Q2b N l2 k3 l8) fun v22 =>
   if v22 = true then (
    Qg (Q2C N l4 k5 l9) fun v29 =>
    some v29
   ) else (
    some false
   )
  ) else (
   some false
  )
 ) else (
  some false
 )
def Q1P (N:Nat) (a0:Int) (a1:Int) (l2:List FactDS) (k3:Nat) (l4:List V) (k5:Nat) (a6:Int) (a7:Int) (l8:List FactD) (l9:List V):Option (Bool) :=
 Qg (Q2Z N a0 a6 a1 a7 l2 k3 l8 l4 k5 l9
 ) fun j_1_4 =>
 some j_1_4
def Q1A (N:Nat) (a0:Int) (a1:Int) (a2:Int) (a3:Int) (l4:List FactDS) (k5:Nat) (l6:List V) (k7:Nat) (a8:Int) (a9:Int) (a10:Int) (a11:Int) (l12:List FactD) (l13:List V):Option (Bool) :=
 if (a0 == a8) = true then (
  if (a1 == a9) = true then (
   Qg (Q1P N a2 a3 l4 k5 l6 k7 a10 a11 l12 l13) fun v22 =>
   some v22
  ) else (
   some false
  )
 ) else (
  some false
 )
def Q4y (N:Nat) (u1_6:Nat) (l2:List V) (l0:List V):Option (Bool) :=
 if (decide (u1_6 < l2.length)) = true then (
  Qg ((l0.take (l2.length + 12))[u1_6]?) fun x30 =>
  Qg (l2[u1_6]?) fun x34 =>
  if (!(decide (x30 = x34))) = true then (
   some true
  ) else (
   if (decide (l2.length ≤ u1_6)) = true then (
    Qg ((l0.take (l2.length + 12))[u1_6]?) fun x47 =>
    gd (-9223372036854775808 ≤ ((u1_6:Nat):Int) - ((l2.length:Nat):Int) ∧ ((u1_6:Nat):Int) - ((l2.length:Nat):Int) ≤ 9223372036854775807) <|
    Qg (Q1N N 1 (((u1_6:Nat):Int) - ((l2.length:Nat):Int))) fun _ =>
    some (!(decide (x47 = (⟨0,IntKind.wrap .i64 ((IntKind.wrap .i64 (1000003 * (IntKind.wrap .i64 (1 + 7)))) + (((u1_6:Nat):Int) - ((l2.length:Nat):Int))),(⟨#[]⟩ : ByteArray)⟩ : V))))
   ) else (
    some false
   )
  )
 ) else (
  if (decide (l2.length ≤ u1_6)) = true then (
   Qg ((l0.take (l2.length + 12))[u1_6]?) fun x47 =>
   gd (-9223372036854775808 ≤ ((u1_6:Nat):Int) - ((l2.length:Nat):Int) ∧ ((u1_6:Nat):Int) - ((l2.length:Nat):Int) ≤ 9223372036854775807) <|
   Qg (Q1N N 1 (((u1_6:Nat):Int) - ((l2.length:Nat):Int))) fun _ =>
   some (!(decide (x47 = (⟨0,IntKind.wrap .i64 ((IntKind.wrap .i64 (1000003 * (IntKind.wrap .i64 (1 + 7)))) + (((u1_6:Nat):Int) - ((l2.length:Nat):Int))),(⟨#[]⟩ : ByteArray)⟩ : V))))
  ) else (
   some false
  )
 )
def Q2Q (N:Nat) (l0:List V) (l2:List V):Nat → Option (Nat ⊕ (Unit ⊕ Bool)):=fun u1_6 =>
 if (decide (u1_6 < ((l0.take (l2.length + 12)).length))) = true then (
  Qg (Q4y N u1_6 l2 l0
  ) fun j_2_57 =>
  if j_2_57 = true then (
   some (.inr (.inr false))
  ) else (
   gd (u1_6 + 1 ≤ 9223372036854775807) <|
   some (.inl (u1_6 + 1))
  )
 ) else (
  some (.inr (.inl ()))
 )
def Q2E (N:Nat) (l0:List V) (k1:Nat) (l2:List V):Option (Bool) :=
 if (k1 != l2.length) = true then (
  some false
 ) else (
  gd (l2.length + 12 ≤ 9223372036854775807) <|
  gd (l2.length + 12 ≤ l0.length) <|
  Q5u (
   Q2s (Q2Q N l0 l2) N 0
  ) fun _ =>
  some true
 )
def Q36 (N:Nat) (a0:Int) (a1:Int) (l2:List V) (k3:Nat) (a4:Int) (a5:Int) (l6:List V):Option (Bool) :=
 Qg (Q1i N a0 a1 l2 k3 a4 a5 l6) fun v7 =>
 if v7 = true then (
  Qg (Q2E N l2 k3 l6) fun v13 =>
  some v13
 ) else (
  some false
 )
def Q4D (N:Nat) (u1_6:Nat) (l2:List FactD) (l0:List FactDS):Option (Bool) :=
 if (decide (u1_6 < l2.length)) = true then (
  Qg ((l0.take (l2.length + 12))[u1_6]?) fun x30 =>
  Qg (l2[u1_6]?) fun x34 =>
  Qg (Q36 N x30.id x30.ty (x30.args ++ x30.argsT) x30.args.length x34.id x34.ty x34.args) fun v36 =>
  if (!v36) = true then (
   some true
  ) else (
   if (decide (l2.length ≤ u1_6)) = true then (
    Qg ((l0.take (l2.length + 12))[u1_6]?) fun x47 =>
    gd (-9223372036854775808 ≤ ((u1_6:Nat):Int) - ((l2.length:Nat):Int) ∧ ((u1_6:Nat):Int) - ((l2.length:Nat):Int) ≤ 9223372036854775807) <|
    Qg (Q1V N 1 (((u1_6:Nat):Int) - ((l2.length:Nat):Int))) fun _ =>
    Qg (Q1i N x47.id x47.ty (x47.args ++ x47.argsT) x47.args.length (IntKind.wrap .i64 ((IntKind.wrap .i64 (1000003 * (IntKind.wrap .i64 (1 + 7)))) + (((u1_6:Nat):Int) - ((l2.length:Nat):Int)))) 0 ([] : List V)) fun v54 =>
    some (!v54)
   ) else (
    some false
   )
  )
 ) else (
  if (decide (l2.length ≤ u1_6)) = true then (
   Qg ((l0.take (l2.length + 12))[u1_6]?) fun x47 =>
   gd (-9223372036854775808 ≤ ((u1_6:Nat):Int) - ((l2.length:Nat):Int) ∧ ((u1_6:Nat):Int) - ((l2.length:Nat):Int) ≤ 9223372036854775807) <|
   Qg (Q1V N 1 (((u1_6:Nat):Int) - ((l2.length:Nat):Int))) fun _ =>
   Qg (Q1i N x47.id x47.ty (x47.args ++ x47.argsT) x47.args.length (IntKind.wrap .i64 ((IntKind.wrap .i64 (1000003 * (IntKind.wrap .i64 (1 + 7)))) + (((u1_6:Nat):Int) - ((l2.length:Nat):Int)))) 0 ([] : List V)) fun v54 =>
   some (!v54)
  ) else (
   some false
  )
 )
def Q2W (N:Nat) (l0:List FactDS) (l2:List FactD):Nat → Option (Nat ⊕ (Unit ⊕ Bool)):=fun u1_6 =>
 if (decide (u1_6 < ((l0.take (l2.length + 12)).length))) = true then (
  Qg (Q4D N u1_6 l2 l0
  ) fun j_2_57 =>
  if j_2_57 = true then (
   some (.inr (.inr false))
  ) else (
   gd (u1_6 + 1 ≤ 9223372036854775807) <|
   some (.inl (u1_6 + 1))
  )
 ) else (
  some (.inr (.inl ()))
 )
def Q3D (N:Nat) (l0:List FactDS) (k1:Nat) (l2:List FactD):Option (Bool) :=
 if (k1 != l2.length) = true then (
  some false
 ) else (
  gd (l2.length + 12 ≤ 9223372036854775807) <|
  gd (l2.length + 12 ≤ l0.length) <|
  Q5u (
   Q2s (Q2W N l0 l2) N 0
  ) fun _ =>
  some true
 )
def Q1Q (N:Nat) (a0:Int) (a1:Int) (l2:List FactDS) (k3:Nat) (l4:List V) (k5:Nat) (a6:Int) (a7:Int) (l8:List FactD) (l9:List V):Option (Bool) :=
 Qg (Q1P N a0 a1 l2 k3 l4 k5 a6 a7 l8 l9) fun v7 =>
 if v7 = true then (
  Qg (Q3D N l2 k3 l8) fun v13 =>
  if v13 = true then (
   Qg (Q2E N l4 k5 l9) fun v20 =>
   some v20
  ) else (
   some false
  )
 ) else (
  some false
 )
def Q3j (N:Nat) (a0:Int) (a1:Int) (a2:Int) (a3:Int) (l4:List FactDS) (k5:Nat) (l6:List V) (k7:Nat) (a8:Int) (a9:Int) (a10:Int) (a11:Int) (l12:List FactD) (l13:List V):Option (Bool) :=
 Qg (Q1A N a0 a1 a2 a3 l4 k5 l6 k7 a8 a9 a10 a11 l12 l13) fun v7 =>
 if v7 = true then (
  Qg (Q1Q N a2 a3 l4 k5 l6 k7 a10 a11 l12 l13) fun v13 =>
  some v13
 ) else (
  some false
 )
def Q4f (N:Nat) (u1_6:Nat) (l2:List SessD) (l0:List SessDS):Option (Bool) :=
 if (decide (u1_6 < l2.length)) = true then (
  Qg ((l0.take (l2.length + 12))[u1_6]?) fun x30 =>
  Qg (l2[u1_6]?) fun x34 =>
  Qg (Q3j N x30.id x30.seq x30.r.err x30.r.num (x30.r.facts ++ x30.r.factsT) x30.r.facts.length (x30.r.said ++ x30.r.saidT) x30.r.said.length x34.id x34.seq x34.r.err x34.r.num x34.r.facts x34.r.said) fun v36 =>
  if (!v36) = true then (
   some true
  ) else (
   if (decide (l2.length ≤ u1_6)) = true then (
    Qg ((l0.take (l2.length + 12))[u1_6]?) fun x47 =>
    gd (-9223372036854775808 ≤ ((u1_6:Nat):Int) - ((l2.length:Nat):Int) ∧ ((u1_6:Nat):Int) - ((l2.length:Nat):Int) ≤ 9223372036854775807) <|
    Qg (Q1z N 1 (((u1_6:Nat):Int) - ((l2.length:Nat):Int))) fun _ =>
    Qg (Q1A N x47.id x47.seq x47.r.err x47.r.num (x47.r.facts ++ x47.r.factsT) x47.r.facts.length (x47.r.said ++ x47.r.saidT) x47.r.said.length (IntKind.wrap .i64 ((IntKind.wrap .i64 (1000003 * (IntKind.wrap .i64 (1 + 7)))) + (((u1_6:Nat):Int) - ((l2.length:Nat):Int)))) 0 0 0 ([] : List FactD) ([] : List V)) fun v54 =>
    some (!v54)
   ) else (
    some false
   )
  )
 ) else (
  if (decide (l2.length ≤ u1_6)) = true then (
   Qg ((l0.take (l2.length + 12))[u1_6]?) fun x47 =>
   gd (-9223372036854775808 ≤ ((u1_6:Nat):Int) - ((l2.length:Nat):Int) ∧ ((u1_6:Nat):Int) - ((l2.length:Nat):Int) ≤ 9223372036854775807) <|
   Qg (Q1z N 1 (((u1_6:Nat):Int) - ((l2.length:Nat):Int))) fun _ =>
   Qg (Q1A N x47.id x47.seq x47.r.err x47.r.num (x47.r.facts ++ x47.r.factsT) x47.r.facts.length (x47.r.said ++ x47.r.saidT) x47.r.said.length (IntKind.wrap .i64 ((IntKind.wrap .i64 (1000003 * (IntKind.wrap .i64 (1 + 7)))) + (((u1_6:Nat):Int) - ((l2.length:Nat):Int)))) 0 0 0 ([] : List FactD) ([] : List V)) fun v54 =>
   some (!v54)
  ) else (
   some false
  )
 )
def Q2u (N:Nat) (l0:List SessDS) (l2:List SessD):Nat → Option (Nat ⊕ (Unit ⊕ Bool)):=fun u1_6 =>
 if (decide (u1_6 < ((l0.take (l2.length + 12)).length))) = true then (
  Qg (Q4f N u1_6 l2 l0
  ) fun j_2_57 =>
  if j_2_57 = true then (
   some (.inr (.inr false))
  ) else (
   gd (u1_6 + 1 ≤ 9223372036854775807) <|
   some (.inl (u1_6 + 1))
  )
 ) else (
  some (.inr (.inl ()))
 )
def Q2f (N:Nat) (l0:List SessDS) (k1:Nat) (l2:List SessD):Option (Bool) :=
 if (k1 != l2.length) = true then (
  some false
 ) else (
  gd (l2.length + 12 ≤ 9223372036854775807) <|
  gd (l2.length + 12 ≤ l0.length) <|
  Q5u (
   Q2s (Q2u N l0 l2) N 0
  ) fun _ =>
  some true
 )
def Q2R (N:Nat) (k1:Nat):(Nat × (List V)) → Option ((Nat × (List V)) ⊕ (List V)):=fun (u1_3,u1_2_l) =>
 if (decide (u1_3 < (k1 + 12))) = true then (
  Qg (Q1N N 2 ((u1_3:Nat):Int)) fun _ =>
  Qg (u1_2_l[u1_3]?) fun x19 =>
  gd (u1_3 < k1 + 12) <|
  gd (u1_3 + 1 ≤ 9223372036854775807) <|
  some (.inl (u1_3 + 1,(u1_2_l.set u1_3 (⟨0,(IntKind.wrap .i64 ((IntKind.wrap .i64 (1000003 * (IntKind.wrap .i64 (2 + 7)))) + ((u1_3:Nat):Int))),(⟨#[]⟩ : ByteArray)⟩ : V))))
 ) else (
  some (.inr u1_2_l)
 )
def Q2G (N:Nat) (l0:List V) (k1:Nat):Option (List V) :=
 gd (k1 + 12 ≤ 9223372036854775807) <|
 gd (k1 + 12 ≤ l0.length) <|
 Q2s (Q2R N k1) N (0,l0)
def Q3M (N:Nat) (a0:Int) (a1:Int) (l2:List V) (k3:Nat):Option (List V) :=
 Qg (Q2G N l2 k3) fun v4 =>
 some v4
def Q33 (N:Nat) (k1:Nat):(Nat × (List FactDS)) → Option ((Nat × (List FactDS)) ⊕ (List FactDS)):=fun (u1_2,u1_0_l) =>
 if (decide (u1_2 < k1)) = true then (
  Qg (u1_0_l[u1_2]?) fun x13 =>
  gd (u1_2 < k1) <|
  Qg (Q3M N x13.id x13.ty (x13.args ++ x13.argsT) x13.args.length) fun v15 =>
  gd (u1_2 + 1 ≤ 9223372036854775807) <|
  some (.inl (u1_2 + 1,(u1_0_l.set u1_2 (⟨x13.id,x13.ty,v15.take x13.args.length,v15.drop x13.args.length⟩ : FactDS))))
 ) else (
  some (.inr u1_0_l)
 )
def Q2X (N:Nat) (k1:Nat):(Nat × (List FactDS)) → Option ((Nat × (List FactDS)) ⊕ (List FactDS)):=fun (u2_4,u2_3_l) =>
 if (decide (u2_4 < (k1 + 12))) = true then (
  Qg (Q1V N 2 ((u2_4:Nat):Int)) fun _ =>
  Qg (u2_3_l[u2_4]?) fun x31 =>
  gd (u2_4 < k1 + 12) <|
  gd (u2_4 + 1 ≤ 9223372036854775807) <|
  some (.inl (u2_4 + 1,(u2_3_l.set u2_4 (⟨(IntKind.wrap .i64 ((IntKind.wrap .i64 (1000003 * (IntKind.wrap .i64 (2 + 7)))) + ((u2_4:Nat):Int))),0,([] : List V),[]⟩ : FactDS))))
 ) else (
  some (.inr u2_3_l)
 )
def Q3F (N:Nat) (l0:List FactDS) (k1:Nat):Option (List FactDS) :=
 Qg (
  Q2s (Q33 N k1) N (0,l0)
 ) fun j_1_0_l =>
 gd (k1 + 12 ≤ 9223372036854775807) <|
 gd (k1 + 12 ≤ j_1_0_l.length) <|
 Q2s (Q2X N k1) N (0,j_1_0_l)
def Q2U (N:Nat) (a0:Int) (a1:Int) (l2:List FactDS) (k3:Nat) (l4:List V) (k5:Nat):Option ((List FactDS) × (List V)) :=
 Qg (Q3F N l2 k3) fun v4 =>
 Qg (Q2G N l4 k5) fun v7 =>
 some (v4,v7)
def Q3l (N:Nat) (a0:Int) (a1:Int) (a2:Int) (a3:Int) (l4:List FactDS) (k5:Nat) (l6:List V) (k7:Nat):Option ((List FactDS) × (List V)) :=
 Qg (Q2U N a2 a3 l4 k5 l6 k7) fun (v4_0,v4_1) =>
 some (v4_0,v4_1)
def Q2q (N:Nat) (k1:Nat):(Nat × (List SessDS)) → Option ((Nat × (List SessDS)) ⊕ (List SessDS)):=fun (u1_2,u1_0_l) =>
 if (decide (u1_2 < k1)) = true then (
  Qg (u1_0_l[u1_2]?) fun x13 =>
  gd (u1_2 < k1) <|
  Qg (Q3l N x13.id x13.seq x13.r.err x13.r.num (x13.r.facts ++ x13.r.factsT) x13.r.facts.length (x13.r.said ++ x13.r.saidT) x13.r.said.length) fun (v15_0,v15_1) =>
  gd (u1_2 + 1 ≤ 9223372036854775807) <|
  some (.inl (u1_2 + 1,(u1_0_l.set u1_2 (⟨x13.id,x13.seq,(⟨x13.r.err,x13.r.num,v15_0.take x13.r.facts.length,v15_0.drop x13.r.facts.length,v15_1.take x13.r.said.length,v15_1.drop x13.r.said.length⟩ : ReplyDS)⟩ : SessDS))))
 ) else (
  some (.inr u1_0_l)
 )
def Q2x (N:Nat) (k1:Nat):(Nat × (List SessDS)) → Option ((Nat × (List SessDS)) ⊕ (List SessDS)):=fun (u2_4,u2_3_l) =>
 if (decide (u2_4 < (k1 + 12))) = true then (
  Qg (Q1z N 2 ((u2_4:Nat):Int)) fun _ =>
  Qg (u2_3_l[u2_4]?) fun x31 =>
  gd (u2_4 < k1 + 12) <|
  gd (u2_4 + 1 ≤ 9223372036854775807) <|
  some (.inl (u2_4 + 1,(u2_3_l.set u2_4 (⟨(IntKind.wrap .i64 ((IntKind.wrap .i64 (1000003 * (IntKind.wrap .i64 (2 + 7)))) + ((u2_4:Nat):Int))),0,(⟨0,0,([] : List FactDS),[],([] : List V),[]⟩ : ReplyDS)⟩ : SessDS))))
 ) else (
  some (.inr u2_3_l)
 )
def Q30 (N:Nat) (l0:List SessDS) (k1:Nat):Option (List SessDS) :=
 Qg (
  Q2s (Q2q N k1) N (0,l0)
 ) fun j_1_0_l =>
 gd (k1 + 12 ≤ 9223372036854775807) <|
 gd (k1 + 12 ≤ j_1_0_l.length) <|
 Q2s (Q2x N k1) N (0,j_1_0_l)
def Q4V (N:Nat) (a0:Int) (a1:Int):Option (Int) :=
 if (decide (a1 < 1)) = true then (
  some 0
 ) else (
  gd (a1 ≠ 0) <|
  Qg (
   if (decide ((Int.tmod a0 a1) < 0)) = true then (
    gd (-9223372036854775808 ≤ (Int.tmod a0 a1) + a1 ∧ (Int.tmod a0 a1) + a1 ≤ 9223372036854775807) <|
    some ((Int.tmod a0 a1) + a1)
   ) else (
    some (Int.tmod a0 a1)
   )
  ) fun j_1_0 =>
  some j_1_0
 )
def Q3T (N:Nat) (l0:List SessD) (a1:Int):Option (Int × Nat × (List SessD) × Int) :=
 Qg (Q1O N l0 a1) fun _ =>
 if (!(decide (a1 > 0))) = true then (
  some (0,1,l0,a1)
 ) else (
  Qg (
   if (decide (32 ≤ l0.length)) = true then (
    some true
   ) else (
    some (decide (a1 > 1099511627776))
   )
  ) fun j_1_8 =>
  if j_1_8 = true then (
   some (0,5,l0,a1)
  ) else (
   gd (l0.length + ([(⟨a1,0,(⟨0,0,[],[]⟩ : ReplyD)⟩ : SessD)]).length ≤ 1759218604441) <|
   gd (-9223372036854775808 ≤ a1 + 1 ∧ a1 + 1 ≤ 9223372036854775807) <|
   gd (-9223372036854775808 ≤ (a1 + 1) - 1 ∧ (a1 + 1) - 1 ≤ 9223372036854775807) <|
   some ((a1 + 1) - 1,0,(l0 ++ [(⟨a1,0,(⟨0,0,[],[]⟩ : ReplyD)⟩ : SessD)]),a1 + 1)
  )
 )
def Q3v (N:Nat) (l0:List SessD) (a1:Int):Option (Int × Nat × (List SessD) × Int) :=
 Qg (
  if (decide (32 ≤ l0.length)) = true then (
   some true
  ) else (
   some (decide (a1 > 1099511627776))
  )
 ) fun j_1_16 =>
 if j_1_16 = true then (
  some (0,5,l0,a1)
 ) else (
  Qg (Q1J N l0) fun v22 =>
  gd (v22.length + ([(⟨a1,0,(⟨0,0,[],[]⟩ : ReplyD)⟩ : SessD)]).length ≤ 1759218604441) <|
  gd (-9223372036854775808 ≤ a1 + 1 ∧ a1 + 1 ≤ 9223372036854775807) <|
  gd (-9223372036854775808 ≤ (a1 + 1) - 1 ∧ (a1 + 1) - 1 ≤ 9223372036854775807) <|
  some ((a1 + 1) - 1,0,(v22 ++ [(⟨a1,0,(⟨0,0,[],[]⟩ : ReplyD)⟩ : SessD)]),a1 + 1)
 )
def Q3V (N:Nat) (l0:List SessD) (a1:Int) (a2:Int) (a3:Int) (a4:Int) (a5:Int) (l6:List FactD) (l7:List V):Option (Nat × (List SessD)) :=
 Qg (Q2j N l0 a1 a2) fun (v14_0,v14_1) =>
 if (v14_1 != 0) = true then (
  some (v14_1,l0)
 ) else (
  Qg (
   if (decide (a3 < 1)) = true then (
    some true
   ) else (
    gd (0 ≤ v14_0) <|
    Qg (l0[v14_0.toNat]?) fun x32 =>
    Qg (l0[v14_0.toNat]?) fun x34 =>
    some (decide (a3 ≤ x34.seq))
   )
  ) fun j_1_21 =>
  if j_1_21 = true then (
   some (304,l0)
  ) else (
   Qg (Q4N N a4 a5 l6 l7) fun v51 =>
   gd (0 ≤ v14_0) <|
   Qg (l0[v14_0.toNat]?) fun x52 =>
   Qg (l0[v14_0.toNat]?) fun x1012 =>
   gd (0 ≤ v14_0) <|
   some (0,(l0.set v14_0.toNat (⟨(⟨x1012.id,a3,x1012.r⟩ : SessD).id,(⟨x1012.id,a3,x1012.r⟩ : SessD).seq,(⟨a4,a5,v51,l7⟩ : ReplyD)⟩ : SessD)))
  )
 )
def Q1B (N:Nat) (l0:List V) (l1:List V):Nat → Option (Nat ⊕ (Unit ⊕ Bool)):=fun u1_5 =>
 if (decide (u1_5 < l0.length)) = true then (
  Qg (l0[u1_5]?) fun x19 =>
  Qg (l1[u1_5]?) fun x23 =>
  if (!decide (x19 = x23)) = true then (
   some (.inr (.inr false))
  ) else (
   gd (u1_5 + 1 ≤ 9223372036854775807) <|
   some (.inl (u1_5 + 1))
  )
 ) else (
  some (.inr (.inl ()))
 )
def Q1j (N:Nat) (l0:List V) (l1:List V):Option (Bool) :=
 if (l0.length != l1.length) = true then (
  some false
 ) else (
  Q5u (
   Q2s (Q1B N l0 l1) N 0
  ) fun _ =>
  some true
 )
def Q2V (N:Nat) (a0:Int) (a1:Int) (l2:List V) (a3:Int) (a4:Int) (l5:List V):Option (Bool) :=
 if (a0 == a3) = true then (
  if (a1 == a4) = true then (
   Qg (Q1j N l2 l5) fun v22 =>
   some v22
  ) else (
   some false
  )
 ) else (
  some false
 )
def Q1Y (N:Nat) (l0:List FactD) (l1:List FactD):Nat → Option (Nat ⊕ (Unit ⊕ Bool)):=fun u1_5 =>
 if (decide (u1_5 < l0.length)) = true then (
  Qg (l0[u1_5]?) fun x19 =>
  Qg (l1[u1_5]?) fun x23 =>
  Qg (Q2V N x19.id x19.ty x19.args x23.id x23.ty x23.args) fun v25 =>
  if (!v25) = true then (
   some (.inr (.inr false))
  ) else (
   gd (u1_5 + 1 ≤ 9223372036854775807) <|
   some (.inl (u1_5 + 1))
  )
 ) else (
  some (.inr (.inl ()))
 )
def Q23 (N:Nat) (l0:List FactD) (l1:List FactD):Option (Bool) :=
 if (l0.length != l1.length) = true then (
  some false
 ) else (
  Q5u (
   Q2s (Q1Y N l0 l1) N 0
  ) fun _ =>
  some true
 )
def Q44 (N:Nat) (a0:Int) (a4:Int) (a1:Int) (a5:Int) (l2:List FactD) (l6:List FactD) (l3:List V) (l7:List V):Option (Bool) :=
 if (a0 == a4) = true then (
  if (a1 == a5) = true then (
   Qg (Q23 N l2 l6) fun v22 =>
   if v22 = true then (
    Qg (Q1j N l3 l7) fun v29 =>
    some v29
   ) else (
    some false
   )
  ) else (
   some false
  )
 ) else (
  some false
 )
def Q21 (N:Nat) (a0:Int) (a1:Int) (l2:List FactD) (l3:List V) (a4:Int) (a5:Int) (l6:List FactD) (l7:List V):Option (Bool) :=
 Qg (Q44 N a0 a4 a1 a5 l2 l6 l3 l7
 ) fun j_1_4 =>
 some j_1_4
def Q4s (N:Nat) (a0:Int) (a1:Int) (a2:Int) (a3:Int):Option (Bool) :=
 if (a0 == a2) = true then (
  if (a1 == a3) = true then (
   Qg (Q1j N ([] : List V) ([] : List V)) fun v22 =>
   some v22
  ) else (
   some false
  )
 ) else (
  some false
 )
def Q6x (N:Nat) (a0:Int) (a1:Int):Option (Unit) :=
 Qg (Q4m N a0 a1) fun _ =>
 some ()
def Q4E (N:Nat) (a0:Int) (a2:Int) (a1:Int) (a3:Int):Option (Bool) :=
 if (a0 == a2) = true then (
  if (a1 == a3) = true then (
   Qg (Q23 N ([] : List FactD) ([] : List FactD)) fun v22 =>
   if v22 = true then (
    Qg (Q1j N ([] : List V) ([] : List V)) fun v29 =>
    some v29
   ) else (
    some false
   )
  ) else (
   some false
  )
 ) else (
  some false
 )
def Q4k (N:Nat) (a0:Int) (a1:Int) (a2:Int) (a3:Int):Option (Bool) :=
 Qg (Q4E N a0 a2 a1 a3
 ) fun j_1_4 =>
 some j_1_4
def Q3Z (N:Nat) (a0:Int) (a1:Int) (a2:Int) (a3:Int) (a4:Int) (a5:Int) (a6:Int) (a7:Int):Option (Bool) :=
 if (a0 == a4) = true then (
  if (a1 == a5) = true then (
   Qg (Q21 N a2 a3 ([] : List FactD) ([] : List V) a6 a7 ([] : List FactD) ([] : List V)) fun v22 =>
   some v22
  ) else (
   some false
  )
 ) else (
  some false
 )
def Q57 (N:Nat) (l0:List SessD) (a1:Int):Option (Int) :=
 Qg (Q1O N l0 a1) fun _ =>
 if (!(decide (a1 > 0))) = true then (
  some 0
 ) else (
  some a1
 )
def Q3I (N:Nat) (l0:List SessD) (a1:Int):Option (List SessD) :=
 Qg (Q1O N l0 a1) fun _ =>
 if (!(decide (a1 > 0))) = true then (
  some []
 ) else (
  Qg (Q5K N l0) fun v11 =>
  some v11
 )
def Q3G (N:Nat) (a0:Int) (a1:Int) (a2:Int) (a3:Int) (l4:List FactD) (l5:List V) (a6:Int) (a7:Int) (a8:Int) (a9:Int) (l10:List FactD) (l11:List V):Option (Bool) :=
 if (a0 == a6) = true then (
  if (a1 == a7) = true then (
   Qg (Q21 N a2 a3 l4 l5 a8 a9 l10 l11) fun v22 =>
   some v22
  ) else (
   some false
  )
 ) else (
  some false
 )
def Q2L (N:Nat) (l0:List SessD) (l1:List SessD):Nat → Option (Nat ⊕ (Unit ⊕ Bool)):=fun u1_5 =>
 if (decide (u1_5 < l0.length)) = true then (
  Qg (l0[u1_5]?) fun x19 =>
  Qg (l1[u1_5]?) fun x23 =>
  Qg (Q3G N x19.id x19.seq x19.r.err x19.r.num x19.r.facts x19.r.said x23.id x23.seq x23.r.err x23.r.num x23.r.facts x23.r.said) fun v25 =>
  if (!v25) = true then (
   some (.inr (.inr false))
  ) else (
   gd (u1_5 + 1 ≤ 9223372036854775807) <|
   some (.inl (u1_5 + 1))
  )
 ) else (
  some (.inr (.inl ()))
 )
def Q3x (N:Nat) (l0:List SessD) (l1:List SessD):Option (Bool) :=
 if (l0.length != l1.length) = true then (
  some false
 ) else (
  Q5u (
   Q2s (Q2L N l0 l1) N 0
  ) fun _ =>
  some true
 )
def Q3L (N:Nat) (l0:List SessD) (a1:Int) (l2:List SessD) (a3:Int):Option (Bool) :=
 Qg (Q57 N l0 a1) fun v6 =>
 if (v6 == a3) = true then (
  Qg (Q3I N l0 a1) fun v14 =>
  Qg (Q3x N v14 l2) fun v19 =>
  some v19
 ) else (
  some false
 )
def Q27 (N:Nat) (l0:List SessD) (a2:Int):Nat → Option (Nat ⊕ (Unit ⊕ Int)):=fun u1_5 =>
 if (decide (u1_5 < l0.length)) = true then (
  Qg (l0[u1_5]?) fun x20 =>
  if (x20.id == a2) = true then (
   some (.inr (.inr ((u1_5:Nat):Int)))
  ) else (
   gd (u1_5 + 1 ≤ 9223372036854775807) <|
   some (.inl (u1_5 + 1))
  )
 ) else (
  some (.inr (.inl ()))
 )
def Q1C (N:Nat) (l0:List SessD) (a1:Int) (a2:Int):Option (Int) :=
 Q5u (
  Q2s (Q27 N l0 a2) N 0
 ) fun _ =>
 some (-1)
def Q2v (N:Nat) (l0:List SessD) (a1:Int) (a2:Int):Option (Nat × (List SessD)) :=
 Qg (Q1C N l0 a1 a2) fun v9 =>
 if (decide (v9 < 0)) = true then (
  some (303,l0)
 ) else (
  gd (0 ≤ v9) <|
  gd (v9.toNat ≤ l0.length) <|
  Qg (Q1J N (l0.take v9.toNat)) fun v18 =>
  gd (-9223372036854775808 ≤ v9 + 1 ∧ v9 + 1 ≤ 9223372036854775807) <|
  gd (0 ≤ v9 + 1) <|
  gd ((v9 + 1).toNat ≤ l0.length) <|
  gd (v18.length + (l0.drop ((v9 + 1).toNat)).length ≤ 1759218604441) <|
  some (0,v18 ++ (l0.drop ((v9 + 1).toNat)))
 )
def Q2J (N:Nat) (l0:List SessD) (a1:Int) (a2:Int) (a3:Int) (a4:Int) (a5:Int) (l6:List FactD) (l7:List V):Option (Nat × (List SessD)) :=
 Qg (Q1C N l0 a1 a2) fun v13 =>
 if (decide (v13 < 0)) = true then (
  some (303,l0)
 ) else (
  Qg (
   if (decide (a3 < 1)) = true then (
    some true
   ) else (
    gd (0 ≤ v13) <|
    Qg (l0[v13.toNat]?) fun x25 =>
    some (decide (a3 ≤ x25.seq))
   )
  ) fun j_1_29 =>
  if j_1_29 = true then (
   some (304,l0)
  ) else (
   Qg (Q1J N l0) fun v34 =>
   gd (0 ≤ v13) <|
   Qg (v34[v13.toNat]?) fun x38 =>
   Qg (v34[v13.toNat]?) fun x1048 =>
   Qg (Q2A N a4 a5 l6 l7) fun v43 =>
   gd (0 ≤ v13) <|
   some (0,(v34.set v13.toNat (⟨(⟨x1048.id,a3,x1048.r⟩ : SessD).id,(⟨x1048.id,a3,x1048.r⟩ : SessD).seq,(⟨a4,a5,v43,l7⟩ : ReplyD)⟩ : SessD)))
  )
 )
def Q2Y (N:Nat) (l0:List SessD) (a1:Int) (a2:Int) (a3:Int):Option (Int × Int × (List FactD) × (List V) × Bool × Nat) :=
 Qg (Q1C N l0 a1 a2) fun v12 =>
 if (decide (v12 < 0)) = true then (
  some (0,0,[],[],false,303)
 ) else (
  Qg (
   if (decide (a3 < 1)) = true then (
    some true
   ) else (
    gd (0 ≤ v12) <|
    Qg (l0[v12.toNat]?) fun x25 =>
    some (decide (a3 < x25.seq))
   )
  ) fun j_1_29 =>
  if j_1_29 = true then (
   some (0,0,[],[],false,304)
  ) else (
   gd (0 ≤ v12) <|
   Qg (l0[v12.toNat]?) fun x37 =>
   if (a3 == x37.seq) = true then (
    gd (0 ≤ v12) <|
    Qg (l0[v12.toNat]?) fun x46 =>
    Qg (Q2A N x46.r.err x46.r.num x46.r.facts x46.r.said) fun v49 =>
    some (x46.r.err,x46.r.num,v49,x46.r.said,true,0)
   ) else (
    some (0,0,[],[],false,0)
   )
  )
 )
def Q49 (N:Nat) (l9:List FactD) (v61_0:List FactDS) (l10:List V) (v61_1:List V) (l0:List SessD) (a1:Int) (a5:Int) (a6:Int) (a7:Int) (a8:Int) (l2:List SessD) (a3:Int):Option (Bool × (List SessD) × (List SessD)) :=
 gd (l9.length ≤ v61_0.length) <|
 gd (l10.length ≤ v61_1.length) <|
 Qg (Q3V N l0 a1 a5 a6 a7 a8 ((v61_0.map Q3k).take l9.length) (v61_1.take l10.length)) fun (v68_0,v68_1) =>
 Qg (Q2J N l2 a3 a5 a6 a7 a8 l9 l10) fun (v76_0,v76_1) =>
 if (v68_0 == v76_0) = true then (
  Qg (Q1Q N a7 a8 v61_0 l9.length v61_1 l10.length a7 a8 l9 l10) fun v82 =>
  some (v82,v68_1,v76_1)
 ) else (
  some (false,v68_1,v76_1)
 )
def Q42 (N:Nat) (v93_4:Bool) (v103_4:Bool) (v93_5:Nat) (v103_5:Nat) (v93_0:Int) (v93_1:Int) (v93_2:List FactD) (v93_3:List V) (v103_0:Int) (v103_1:Int) (v103_2:List FactD) (v103_3:List V) (v113_0:Int) (v113_1:Int) (v113_2:List FactD) (v113_3:List V):Option (Bool) :=
 if (v93_4 == v103_4) = true then (
  if (v93_5 == v103_5) = true then (
   Qg (Q21 N v93_0 v93_1 v93_2 v93_3 v103_0 v103_1 v103_2 v103_3) fun v128 =>
   if v128 = true then (
    gd ([[(⟨v93_0,v93_1,v93_2,v93_3⟩ : ReplyD)],[(⟨v113_0,v113_1,v113_2,v113_3⟩ : ReplyD)]].length ≤ 8 ∧ ∀ y ∈ [[(⟨v93_0,v93_1,v93_2,v93_3⟩ : ReplyD)],[(⟨v113_0,v113_1,v113_2,v113_3⟩ : ReplyD)]],y.length ≤ 10000 ∧ ∀ u ∈ y,Q6v u) <|
    some true
   ) else (
    some false
   )
  ) else (
   some false
  )
 ) else (
  some false
 )
def Q3W (N:Nat) (l0:List SessD) (a1:Int) (l2:List SessD) (a3:Int) (a4:Int) (a5:Int) (a6:Int) (a7:Int) (a8:Int) (l9:List FactD) (l10:List V):Option (Bool × (List SessD) × Int × (List SessD) × Int) :=
 Qg (Q4V N a4 6) fun v24 =>
 if (v24 == 0) = true then (
  Qg (Q3T N l0 a1) fun (v29_0,v29_1,v29_2,v29_3) =>
  Qg (Q3v N l2 a3) fun (v34_0,v34_1,v34_2,v34_3) =>
  if (v29_0 == v34_0) = true then (
   some (v29_1 == v34_1,v29_2,v29_3,v34_2,v34_3)
  ) else (
   some (false,v29_2,v29_3,v34_2,v34_3)
  )
 ) else (
  if (v24 == 1) = true then (
   Qg (Q1U N l0 a1 a5) fun (v50_0,v50_1) =>
   Qg (Q2v N l2 a3 a5) fun (v54_0,v54_1) =>
   some (v50_0 == v54_0,v50_1,a1,v54_1,a3)
  ) else (
   Qg (
    if (v24 == 2) = true then (
     some (v24 == 2)
    ) else (
     some (v24 == 3)
    )
   ) fun j_1_56 =>
   if j_1_56 = true then (
    Qg (Q24 N a7 a8 l9 l10) fun (v61_0,v61_1) =>
    Qg (Q49 N l9 v61_0 l10 v61_1 l0 a1 a5 a6 a7 a8 l2 a3
    ) fun (j_2_12,j_2_r0_f0_l,j_2_r2_f0_l) =>
    Qg (Q2U N a7 a8 v61_0 l9.length v61_1 l10.length) fun (v85_0,v85_1) =>
    some (j_2_12,j_2_r0_f0_l,a1,j_2_r2_f0_l,a3)
   ) else (
    Qg (Q1E N l0 a1 a5 a6) fun (v93_0,v93_1,v93_2,v93_3,v93_4,v93_5) =>
    Qg (Q2Y N l2 a3 a5 a6) fun (v103_0,v103_1,v103_2,v103_3,v103_4,v103_5) =>
    Qg (Q1E N l0 a1 a5 a6) fun (v113_0,v113_1,v113_2,v113_3,v113_4,v113_5) =>
    Qg (Q42 N v93_4 v103_4 v93_5 v103_5 v93_0 v93_1 v93_2 v93_3 v103_0 v103_1 v103_2 v103_3 v113_0 v113_1 v113_2 v113_3
    ) fun j_3_6 =>
    some (j_3_6,l0,a1,l2,a3)
   )
  )
 )
def Q2p (N:Nat) (l1:List SessD):Nat → Option (Nat ⊕ (Unit ⊕ Bool)):=fun u1_9 =>
 if (decide (u1_9 < l1.length)) = true then (
  Qg (
   if (decide (40 < u1_9)) = true then (
    some true
   ) else (
    Qg (l1[u1_9]?) fun x31 =>
    Qg (Q3K N x31.r.err x31.r.num x31.r.facts x31.r.said) fun v34 =>
    some v34
   )
  ) fun j_2_35 =>
  if j_2_35 = true then (
   Qg (Q20 N) fun v36 =>
   some (.inr (.inr v36))
  ) else (
   gd (u1_9 + 1 ≤ 9223372036854775807) <|
   some (.inl (u1_9 + 1))
  )
 ) else (
  some (.inr (.inl ()))
 )
def Q2w (N:Nat) (a2:Bool) (l1:List SessD) (a0:Int):Option (((List SessD) × Int × (List SessD) × Int) ⊕ Bool) :=
 if a2 = true then (
  Qg (Q3s N l1) fun v41 =>
  gd (l1.length ≤ v41.length) <|
  Qg (Q5A N a0 ((v41.map Q3E).take l1.length)) fun
  | .inl _=>(
  Qg (Q3p N a0 l1) fun
  | .inl _=>(
  Qg (
   Qg (Q2f N v41 (((v41.map Q3E).take l1.length).length) l1) fun v60 =>
   if (!v60) = true then (
    some true
   ) else (
    some (false != false)
   )
  ) fun j_6_69 =>
  if j_6_69 = true then (
   some (.inr false)
  ) else (
   Qg (Q20 N) fun v76 =>
   some (.inr v76)
  )
  )
  | .inr v51=>(
  some (.inr false)
  )
  )
  | .inr v45=>(
  Qg (Q3p N a0 l1) fun
  | .inl _=>(
  some (.inr false)
  )
  | .inr v51=>(
  Qg (
   Qg (Q2f N v41 (((v41.map Q3E).take l1.length).length) l1) fun v60 =>
   if (!v60) = true then (
    some true
   ) else (
    some (true != true)
   )
  ) fun j_8_69 =>
  if j_8_69 = true then (
   some (.inr false)
  ) else (
   Qg (Q30 N v41 (((v41.map Q3E).take l1.length).length)) fun v78 =>
   some (.inl (v51,a0,v45,a0))
  )
  )
  )
 ) else (
  some (.inl ([],1,[],1))
 )
def Q2r (N:Nat) (l3:List Ropewalklaw27_DoD):(Nat × (List SessD) × Int × (List SessD) × Int) → Option ((Nat × (List SessD) × Int × (List SessD) × Int) ⊕ (((List SessD) × Int × (List SessD) × Int) ⊕ Bool)):=fun (u2_17,u2_11_f0_l,u2_11_f1,u2_10_f0_l,u2_10_f1) =>
 Qg (
  if (decide (u2_17 < l3.length)) = true then (
   some (decide (u2_17 < 120))
  ) else (
   some false
  )
 ) fun j_10_88 =>
 if j_10_88 = true then (
  Qg (l3[u2_17]?) fun x93 =>
  Qg (Q3K N x93.reply.err x93.reply.num x93.reply.facts x93.reply.said) fun v96 =>
  if v96 = true then (
   Qg (Q20 N) fun v97 =>
   some (.inr (.inr v97))
  ) else (
   Qg (
    Qg (l3[u2_17]?) fun x102 =>
    Qg (Q3W N u2_10_f0_l u2_10_f1 u2_11_f0_l u2_11_f1 x102.op x102.id x102.seq x102.reply.err x102.reply.num x102.reply.facts x102.reply.said) fun (v104_0,v104_1,v104_2,v104_3,v104_4) =>
    if (!v104_0) = true then (
     some (v104_3,v104_4,v104_1,v104_2,true)
    ) else (
     Qg (Q3L N v104_1 v104_2 v104_3 v104_4) fun v109 =>
     some (v104_3,v104_4,v104_1,v104_2,!v109)
    )
   ) fun (j_11_11_f0_l,j_11_11_f1,j_11_10_f0_l,j_11_10_f1,j_11_111) =>
   if j_11_111 = true then (
    some (.inr (.inr false))
   ) else (
    gd (u2_17 + 1 ≤ 9223372036854775807) <|
    some (.inl (u2_17 + 1,j_11_11_f0_l,j_11_11_f1,j_11_10_f0_l,j_11_10_f1))
   )
  )
 ) else (
  some (.inr (.inl (u2_11_f0_l,u2_11_f1,u2_10_f0_l,u2_10_f1)))
 )
def QY (N:Nat) (a0:Int) (l1:List SessD) (a2:Bool) (l3:List Ropewalklaw27_DoD):Option (Bool) :=
 Q5u (
  Q2s (Q2p N l1) N 0
 ) fun _ =>
 Qg (Q6p N) fun _ =>
 Qg (Q5i N) fun _ =>
 Q5u (Q2w N a2 l1 a0
 ) fun (j_3_11_f0_l,j_3_11_f1,j_3_10_f0_l,j_3_10_f1) =>
 Q5u (
  Q2s (Q2r N l3) N (0,j_3_11_f0_l,j_3_11_f1,j_3_10_f0_l,j_3_10_f1)
 ) fun (j_9_11_f0_l,j_9_11_f1,j_9_10_f0_l,j_9_10_f1) =>
 Qg (Q3I N j_9_10_f0_l j_9_10_f1) fun v113 =>
 Qg (Q3I N j_9_10_f0_l j_9_10_f1) fun v115 =>
 gd ([v113,v115].length ≤ 8 ∧ ∀ y ∈ [v113,v115],y.length ≤ 10000 ∧ ∀ u ∈ y,Q80 u) <|
 Qg (Q3L N j_9_10_f0_l j_9_10_f1 j_9_11_f0_l j_9_11_f1) fun v123 =>
 if v123 = true then (
  Qg (Q20 N) fun v126 =>
  some v126
 ) else (
  some false
 )
def Q34 (N:Nat) (u1_2:Nat) (x23:Int) (x28:Int) (x34:Int) (x40:Int) (x45:Int) (u2_3:Nat):Option (Bool) :=
 Qg (([-9223372036854775808,-1,0,1,2,3,33,34,1099511627776,1099511627777,1099511627778,9223372036854775807] : List Int)[u1_2]?) fun x51 =>
 Qg (Q2K N 1 2) fun v53 =>
 Qg (QY N x51 v53 true [(⟨0,0,0,(⟨0,0,[],[]⟩ : ReplyD)⟩ : Ropewalklaw27_DoD),(⟨2,1,x23,(⟨0,0,[],[]⟩ : ReplyD)⟩ : Ropewalklaw27_DoD),(⟨4,1,x28,(⟨0,0,[],[]⟩ : ReplyD)⟩ : Ropewalklaw27_DoD),(⟨4,1,1,(⟨0,0,[],[]⟩ : ReplyD)⟩ : Ropewalklaw27_DoD),(⟨2,x34,5,(⟨0,0,[],[]⟩ : ReplyD)⟩ : Ropewalklaw27_DoD),(⟨0,0,0,(⟨0,0,[],[]⟩ : ReplyD)⟩ : Ropewalklaw27_DoD),(⟨1,x40,0,(⟨0,0,[],[]⟩ : ReplyD)⟩ : Ropewalklaw27_DoD),(⟨4,x45,1,(⟨0,0,[],[]⟩ : ReplyD)⟩ : Ropewalklaw27_DoD)]) fun v55 =>
 if (!v55) = true then (
  some true
 ) else (
  Qg (([-9223372036854775808,-1,0,1,2,3,33,34,1099511627776,1099511627777,1099511627778,9223372036854775807] : List Int)[u1_2]?) fun x60 =>
  Qg (QY N x60 ([] : List SessD) true [(⟨0,0,0,(⟨0,0,[],[]⟩ : ReplyD)⟩ : Ropewalklaw27_DoD),(⟨2,1,x23,(⟨0,0,[],[]⟩ : ReplyD)⟩ : Ropewalklaw27_DoD),(⟨4,1,x28,(⟨0,0,[],[]⟩ : ReplyD)⟩ : Ropewalklaw27_DoD),(⟨4,1,1,(⟨0,0,[],[]⟩ : ReplyD)⟩ : Ropewalklaw27_DoD),(⟨2,x34,5,(⟨0,0,[],[]⟩ : ReplyD)⟩ : Ropewalklaw27_DoD),(⟨0,0,0,(⟨0,0,[],[]⟩ : ReplyD)⟩ : Ropewalklaw27_DoD),(⟨1,x40,0,(⟨0,0,[],[]⟩ : ReplyD)⟩ : Ropewalklaw27_DoD),(⟨4,x45,1,(⟨0,0,[],[]⟩ : ReplyD)⟩ : Ropewalklaw27_DoD)]) fun v63 =>
  if (!v63) = true then (
   some true
  ) else (
   Qg (([-9223372036854775808,-1,0,1,2,3,33,34,1099511627776,1099511627777,1099511627778,9223372036854775807] : List Int)[u1_2]?) fun x69 =>
   Qg (([-9223372036854775808,-1,0,1,2,3,33,34,1099511627776,1099511627777,1099511627778,9223372036854775807] : List Int)[u2_3]?) fun x73 =>
   Qg (QY N x69 [(⟨x73,1,(⟨0,0,[],[]⟩ : ReplyD)⟩ : SessD)] true [(⟨0,0,0,(⟨0,0,[],[]⟩ : ReplyD)⟩ : Ropewalklaw27_DoD),(⟨2,1,x23,(⟨0,0,[],[]⟩ : ReplyD)⟩ : Ropewalklaw27_DoD),(⟨4,1,x28,(⟨0,0,[],[]⟩ : ReplyD)⟩ : Ropewalklaw27_DoD),(⟨4,1,1,(⟨0,0,[],[]⟩ : ReplyD)⟩ : Ropewalklaw27_DoD),(⟨2,x34,5,(⟨0,0,[],[]⟩ : ReplyD)⟩ : Ropewalklaw27_DoD),(⟨0,0,0,(⟨0,0,[],[]⟩ : ReplyD)⟩ : Ropewalklaw27_DoD),(⟨1,x40,0,(⟨0,0,[],[]⟩ : ReplyD)⟩ : Ropewalklaw27_DoD),(⟨4,x45,1,(⟨0,0,[],[]⟩ : ReplyD)⟩ : Ropewalklaw27_DoD)]) fun v78 =>
   if (!v78) = true then (
    some true
   ) else (
    Qg (([-9223372036854775808,-1,0,1,2,3,33,34,1099511627776,1099511627777,1099511627778,9223372036854775807] : List Int)[u1_2]?) fun x84 =>
    Qg (([-9223372036854775808,-1,0,1,2,3,33,34,1099511627776,1099511627777,1099511627778,9223372036854775807] : List Int)[u2_3]?) fun x89 =>
    Qg (QY N 9 [(⟨2,x84,(⟨0,0,[],[]⟩ : ReplyD)⟩ : SessD),(⟨x89,0,(⟨0,0,[],[]⟩ : ReplyD)⟩ : SessD)] true [(⟨0,0,0,(⟨0,0,[],[]⟩ : ReplyD)⟩ : Ropewalklaw27_DoD),(⟨2,1,x23,(⟨0,0,[],[]⟩ : ReplyD)⟩ : Ropewalklaw27_DoD),(⟨4,1,x28,(⟨0,0,[],[]⟩ : ReplyD)⟩ : Ropewalklaw27_DoD),(⟨4,1,1,(⟨0,0,[],[]⟩ : ReplyD)⟩ : Ropewalklaw27_DoD),(⟨2,x34,5,(⟨0,0,[],[]⟩ : ReplyD)⟩ : Ropewalklaw27_DoD),(⟨0,0,0,(⟨0,0,[],[]⟩ : ReplyD)⟩ : Ropewalklaw27_DoD),(⟨1,x40,0,(⟨0,0,[],[]⟩ : ReplyD)⟩ : Ropewalklaw27_DoD),(⟨4,x45,1,(⟨0,0,[],[]⟩ : ReplyD)⟩ : Ropewalklaw27_DoD)]) fun v94 =>
    some (!v94)
   )
  )
 )
def Q1F (N:Nat) (u1_2:Nat):Nat → Option (Nat ⊕ (Unit ⊕ (Nat ⊕ (Unit ⊕ Bool)))):=fun u2_3 =>
 if (decide (u2_3 < ([-9223372036854775808,-1,0,1,2,3,33,34,1099511627776,1099511627777,1099511627778,9223372036854775807].length))) = true then (
  Qg (([-9223372036854775808,-1,0,1,2,3,33,34,1099511627776,1099511627777,1099511627778,9223372036854775807] : List Int)[u2_3]?) fun x23 =>
  Qg (([-9223372036854775808,-1,0,1,2,3,33,34,1099511627776,1099511627777,1099511627778,9223372036854775807] : List Int)[u2_3]?) fun x28 =>
  Qg (([-9223372036854775808,-1,0,1,2,3,33,34,1099511627776,1099511627777,1099511627778,9223372036854775807] : List Int)[u2_3]?) fun x34 =>
  Qg (([-9223372036854775808,-1,0,1,2,3,33,34,1099511627776,1099511627777,1099511627778,9223372036854775807] : List Int)[u2_3]?) fun x40 =>
  Qg (([-9223372036854775808,-1,0,1,2,3,33,34,1099511627776,1099511627777,1099511627778,9223372036854775807] : List Int)[u2_3]?) fun x45 =>
  Qg (Q34 N u1_2 x23 x28 x34 x40 x45 u2_3
  ) fun j_3_96 =>
  if j_3_96 = true then (
   some (.inr (.inr (.inr (.inr false))))
  ) else (
   gd (u2_3 + 1 ≤ 9223372036854775807) <|
   some (.inl (u2_3 + 1))
  )
 ) else (
  some (.inr (.inl ()))
 )
def Q29 (N:Nat):Nat → Option (Nat ⊕ (Unit ⊕ Bool)):=fun u1_2 =>
 if (decide (u1_2 < ([-9223372036854775808,-1,0,1,2,3,33,34,1099511627776,1099511627777,1099511627778,9223372036854775807].length))) = true then (
  Q5u (
   Q2s (Q1F N u1_2) N 0
  ) fun _ =>
  gd (u1_2 + 1 ≤ 9223372036854775807) <|
  some (.inl (u1_2 + 1))
 ) else (
  some (.inr (.inl ()))
 )
def Q28 (N:Nat):(Nat × (List Ropewalklaw27_DoD)) → Option ((Nat × (List Ropewalklaw27_DoD)) ⊕ (List Ropewalklaw27_DoD)):=fun (u3_6,u3_5_l) =>
 if (decide (u3_6 < 34)) = true then (
  gd (u3_5_l.length + ([(⟨0,0,0,(⟨0,0,[],[]⟩ : ReplyD)⟩ : Ropewalklaw27_DoD),(⟨2,(((u3_6:Nat):Int)),(((u3_6:Nat):Int)),(⟨0,0,[],[]⟩ : ReplyD)⟩ : Ropewalklaw27_DoD)]).length ≤ 1599289640401) <|
  gd (u3_6 + 1 ≤ 9223372036854775807) <|
  some (.inl (u3_6 + 1,(u3_5_l ++ [(⟨0,0,0,(⟨0,0,[],[]⟩ : ReplyD)⟩ : Ropewalklaw27_DoD),(⟨2,(((u3_6:Nat):Int)),(((u3_6:Nat):Int)),(⟨0,0,[],[]⟩ : ReplyD)⟩ : Ropewalklaw27_DoD)])))
 ) else (
  some (.inr u3_5_l)
 )
def Q40 (N:Nat) (j_4_5_l:List Ropewalklaw27_DoD):Option (Bool) :=
 gd (j_4_5_l.length + ([(⟨1,5,0,(⟨0,0,[],[]⟩ : ReplyD)⟩ : Ropewalklaw27_DoD),(⟨0,0,0,(⟨0,0,[],[]⟩ : ReplyD)⟩ : Ropewalklaw27_DoD),(⟨0,0,0,(⟨0,0,[],[]⟩ : ReplyD)⟩ : Ropewalklaw27_DoD)]).length ≤ 1599289640401) <|
 Qg (QY N 0 ([] : List SessD) false (j_4_5_l ++ [(⟨1,5,0,(⟨0,0,[],[]⟩ : ReplyD)⟩ : Ropewalklaw27_DoD),(⟨0,0,0,(⟨0,0,[],[]⟩ : ReplyD)⟩ : Ropewalklaw27_DoD),(⟨0,0,0,(⟨0,0,[],[]⟩ : ReplyD)⟩ : Ropewalklaw27_DoD)])) fun v114 =>
 if v114 = true then (
  Qg (Q2K N 1 32) fun v116 =>
  Qg (QY N 50 v116 true [(⟨0,0,0,(⟨0,0,[],[]⟩ : ReplyD)⟩ : Ropewalklaw27_DoD),(⟨1,1,0,(⟨0,0,[],[]⟩ : ReplyD)⟩ : Ropewalklaw27_DoD),(⟨0,0,0,(⟨0,0,[],[]⟩ : ReplyD)⟩ : Ropewalklaw27_DoD)]) fun v121 =>
  if v121 = true then (
   Qg (Q2K N 1 33) fun v124 =>
   Qg (QY N 50 v124 true ([] : List Ropewalklaw27_DoD)) fun v125 =>
   if v125 = true then (
    Qg (Q20 N) fun v128 =>
    some v128
   ) else (
    some false
   )
  ) else (
   some false
  )
 ) else (
  some false
 )
def Q3z (N:Nat):Option (Bool) :=
 Q5u (
  Q2s (Q29 N) N 0
 ) fun _ =>
 Qg (
  Q2s (Q28 N) N (0,[])
 ) fun j_4_5_l =>
 Qg (Q40 N j_4_5_l
 ) fun j_5_0 =>
 some j_5_0
end Go.Proofs.YtjfpefddanmliaaGreat
