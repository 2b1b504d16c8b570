import Derived.Test.YtbgodclhmgmcgaaGreatDoorCeC
namespace Go.Proofs.YtbgodclhmgmcgaaGreatDoor
open Go.RowKit
noncomputable section
def Value.eqb:Value→Value→Bool
 | .bool a,.bool b=>a==b
 | .int k a,.int k' b=>ikEq k k' && decide (a=b)
 | .string a,.string b=>decide (a=b)
 | .pointer none,.pointer none=>true
 | .slice none a b,.slice none c d=>Nat.beq a c && Nat.beq b d
 | .map none,.map none=>true
 | .nilFunc,.nilFunc=>true
 | .nilIface,.nilIface=>true
 | .tuple a,.tuple b=>Nat.beq a.size 0 && Nat.beq b.size 0
 | _,_=>false
theorem Value.eqb_eq {a b:Value} (h:Value.eqb a b=true):a=b:=by
 unfold Value.eqb at h
 split at h
 · rw [eq_of_beq h]
 · simp only [Bool.and_eq_true,decide_eq_true_eq] at h;rw [ikEq_eq h.1,h.2]
 · rw [of_decide_eq_true h]
 · rfl
 · simp only [Bool.and_eq_true] at h;rw [Qw h.1,Qw h.2]
 · rfl
 · rfl
 · rfl
 ·simp only [Bool.and_eq_true] at h
  rw [Array.eq_empty_of_size_eq_zero (Qw h.1),Array.eq_empty_of_size_eq_zero (Qw h.2)]
 · cases h
mutual
def SV.beq:SV→SV→Bool
 | .v a,.v b=>Value.eqb a b
 | .opq i,.opq j=>Nat.beq i j
 | .ptr g o,.ptr g' o'=>Nat.beq g g' && Nat.beq o o'
 | .sl g o l c w,.sl g' o' l' c' w'=>Nat.beq g g' && Nat.beq o o' && Nat.beq l l' && Nat.beq c c' && (w==w')
 | .mp g,.mp g'=>Nat.beq g g'
 | .fn f u l,.fn f' u' l'=>Nat.beq f f' && SV.beqs u u' && SV.beqs l l'
 | .agg l,.agg l'=>SV.beqs l l'
 | .tup l,.tup l'=>SV.beqs l l'
 | _,_=>false
def SV.beqs:List SV→List SV→Bool
 | [],[]=>true
 | x :: l,y :: m=>SV.beq x y && SV.beqs l m
 | _,_=>false
end
mutual
theorem SV.beq_eq : ∀ (a b:SV),SV.beq a b=true→a=b
 | .v a,b,h=>by
   cases b <;> simp only [SV.beq] at h <;> first | (cases h;done) | rw [Value.eqb_eq h]
 | .opq i,b,h=>by
   cases b <;> simp only [SV.beq] at h <;> first | (cases h;done) | rw [Qw h]
 | .ptr g o,b,h=>by
   cases b <;> simp only [SV.beq,Bool.and_eq_true] at h <;> first | (cases h;done) | rw [Qw h.1,Qw h.2]
 | .sl g o l c w,b,h=>by
   cases b <;> simp only [SV.beq,Bool.and_eq_true] at h <;> first | (cases h;done) | (obtain ⟨⟨⟨⟨h1,h2⟩,h3⟩,h4⟩,h5⟩:=h;rw [Qw h1,Qw h2,Qw h3,Qw h4,eq_of_beq h5])
 | .mp g,b,h=>by
   cases b <;> simp only [SV.beq] at h <;> first | (cases h;done) | rw [Qw h]
 | .fn f u l,b,h=>by
   cases b <;> simp only [SV.beq,Bool.and_eq_true] at h <;> first | (cases h;done) | rw [Qw h.1.1,SV.beqs_eq _ _ h.1.2,SV.beqs_eq _ _ h.2]
 | .agg l,b,h=>by
   cases b <;> simp only [SV.beq] at h <;> first | (cases h;done) | rw [SV.beqs_eq _ _ h]
 | .tup l,b,h=>by
   cases b <;> simp only [SV.beq] at h <;> first | (cases h;done) | rw [SV.beqs_eq _ _ h]
theorem SV.beqs_eq : ∀ (a b:List SV),SV.beqs a b=true→a=b
 | [],b,h=>by cases b <;> simp only [SV.beqs] at h <;> first | rfl | cases h
 | x :: l,b,h=>by
   cases b <;> simp only [SV.beqs,Bool.and_eq_true] at h <;> first | (cases h;done) | rw [SV.beq_eq _ _ h.1,SV.beqs_eq _ _ h.2]
end
def entsB:List (SV×SV×Nat)→List (SV×SV×Nat)→Bool
 | [],[]=>true
 | (k,v,b) :: r,(k',v',b') :: s=>SV.beq k k' && SV.beq v v' && Nat.beq b b' && entsB r s
 | _,_=>false
theorem entsB_eq : ∀ {a b:List (SV×SV×Nat)},entsB a b=true→a=b
 | [],b,h=>by cases b <;> simp only [entsB] at h <;> first | rfl | cases h
 | (k,v,n) :: r,b,h=>by
   cases b with
   | nil=>simp only [entsB] at h;cases h
   | cons y m =>
     obtain ⟨k',v',n'⟩:=y
     simp only [entsB,Bool.and_eq_true] at h
     rw [SV.beq_eq _ _ h.1.1.1,SV.beq_eq _ _ h.1.1.2,Qw h.1.2,entsB_eq h.2]
def HO.beq:HO→HO→Bool
 | .blk c t,.blk c' t'=>SV.beqs c c' && Nat.beq t t'
 | .row c n s t,.row c' n' s' t'=>SV.beqs c c' && Nat.beq n n' && Nat.beq s s' && Nat.beq t t'
 | .mp es c,.mp es' c'=>entsB es es' && Nat.beq c c'
 | .it m s l p,.it m' s' l' p'=>decide (m=m') && Nat.beq s s' && decide (l=l') && Nat.beq p p'
 | .ro c,.ro c'=>SV.beqs c c'
 | _,_=>false
theorem HO.beq_eq {a b:HO} (h:HO.beq a b=true):a=b:=by
 unfold HO.beq at h
 split at h
 · simp only [Bool.and_eq_true] at h;rw [SV.beqs_eq _ _ h.1,Qw h.2]
 · simp only [Bool.and_eq_true] at h;rw [SV.beqs_eq _ _ h.1.1.1,Qw h.1.1.2,Qw h.1.2,Qw h.2]
 · simp only [Bool.and_eq_true] at h;rw [entsB_eq h.1,Qw h.2]
 · simp only [Bool.and_eq_true,decide_eq_true_eq] at h;rw [h.1.1.1,Qw h.1.1.2,h.1.2,Qw h.2]
 · rw [SV.beqs_eq _ _ h]
 · cases h
def heapB:Q1a→Q1a→Bool
 | [],[]=>true
 | (g,o) :: l,(g',o') :: m=>Nat.beq g g' && HO.beq o o' && heapB l m
 | _,_=>false
theorem heapB_eq : ∀ {a b:Q1a},heapB a b=true→a=b
 | [],b,h=>by cases b <;> simp only [heapB] at h <;> first | rfl | cases h
 | (g,o) :: l,b,h=>by
   cases b with
   | nil=>simp only [heapB] at h;cases h
   | cons y m =>
     obtain ⟨g',o'⟩:=y
     simp only [heapB,Bool.and_eq_true] at h
     rw [Qw h.1.1,HO.beq_eq h.1.2,heapB_eq h.2]
def optB:Option SV→Option SV→Bool
 | none,none=>true
 | some a,some b=>SV.beq a b
 | _,_=>false
theorem optB_eq {a b:Option SV} (h:optB a b=true):a=b:=by
 unfold optB at h
 split at h
 · rfl
 · rw [SV.beq_eq _ _ h]
 · cases h
def Tr.beq:Tr→Tr→Bool
 | .nil,.nil=>true
 | .node l x r,.node l' x' r'=>optB x x' && Tr.beq l l' && Tr.beq r r'
 | _,_=>false
theorem Tr.beq_eq : ∀ {a b:Tr},Tr.beq a b=true→a=b
 | .nil,b,h=>by cases b <;> simp only [Tr.beq] at h <;> first | rfl | cases h
 | .node l x r,b,h=>by
   cases b with
   | nil=>simp only [Tr.beq] at h;cases h
   | node l' x' r' =>
     simp only [Tr.beq,Bool.and_eq_true] at h
     rw [optB_eq h.1.1,Tr.beq_eq h.1.2,Tr.beq_eq h.2]
structure Nd where
 L:List Nat
 D:List (Nat×Nat×HO)
 fr:Tr
 hp:Q1a
def depB (x y:Nat×Nat×HO):Bool:=Nat.beq x.1 y.1 && Nat.beq x.2.1 y.2.1 && HO.beq x.2.2 y.2.2
def subD (a b:List (Nat×Nat×HO)):Bool:=a.all fun x=>b.any fun y=>depB x y
def Nd.same (a b:Nd):Bool:=a.L.all (Q7j b.L) && b.L.all (Q7j a.L) && subD a.D b.D && subD b.D a.D && Tr.beq a.fr b.fr && heapB a.hp b.hp
def isLightOp:Op→Bool
 | .move _ | .binOp _ _ _ _ _ | .unOp _ _ _ | .pick _ _ _ | .fieldAddr _ _ _ | .load _ _ | .indexAddr _ _ _ | .extract _ _ | .build _ _ | .nilCheck _ | .makeFunc _ _ _ | .index _ _ _ | .convert _ _ _ | .field _ _ _=>true
 | .call { callee:=.builtin .len,args:=_,argTypes:=_ }=>true
 | _=>false
def lightsC (ops : Array Oper) : List Nat :=(List.range ops.size).filter fun i=> match ops[i]? with
 | some o=>isLightOp o.op && (match o.dst with
   | some d=>(List.range ops.size).all fun j=>Nat.beq i j || (match ops[j]? with
     | some o'=>!Q7j (rdOf ops o') d || QbH ops j i
     | none=>false)
   | none=>false)
 | none=>false
def lightC (P:Program) (n:Nat) (ops:Array Oper) (lights:List Nat) (i:Nat) (o:Oper) (nd:Nd):Option Nd:=match o.dst with
 | none=>none
 | some d=>match Q4L ops lights nd.L i n d o && Nat.blt d 16000 with
   | false=>none
   | true=>match wantC ops nd.fr o with
     | some false=>some ⟨i :: nd.L,nd.D,nd.fr.put d (.v undef),nd.hp⟩
     | some true=>match pureC nd.fr o.op with
       | some v=>some ⟨i :: nd.L,nd.D,nd.fr.put d v,nd.hp⟩
       | none=>match readA P nd.fr nd.hp o with
         | some (v,none)=>some ⟨i :: nd.L,nd.D,nd.fr.put d v,nd.hp⟩
         |  some (v,some g)=>match hget nd.hp g with
            | some ob=>some ⟨i :: nd.L,(i,g,ob) :: nd.D,nd.fr.put d v,nd.hp⟩
            | none=>none
         | none=>none
     | none=>none
def passC (P:Program)(n:Nat)(ops:Array Oper)(lights:List Nat):List Nat→Nd→Option Nd
 | [],nd=>some nd
 | i :: r,nd=>match ops[i]? with
   | some o=>match !Q7j nd.L i && (o.after.toList.all fun e=>!Region.binds .any e || Q7j nd.L e.on) with
     | true=>match lightC P n ops lights i o nd with
       | some nd'=>passC P n ops lights r nd'
       | none=>none
     | false=>passC P n ops lights r nd
   | none=>none
def hins (g:Nat)(o:HO):Q1a→Q1a
 | []=>[(g,o)]
 | (g',o') :: r=>match Nat.ble g' g with
   | true=>(g,o) :: (g',o') :: r
   | false=>(g',o') :: hins g o r
def hsort:Q1a→Q1a
 | []=>[]
 | (g,o) :: r=>hins g o (hsort r)
def metC (P:Program)(call:Q7M)(n:Nat)(ops:Array Oper)(lights:List Nat)(lo w k:Nat)(nd:Nd):Option Nd:=match ops[k]? with
 | some o=>match oneC P call n ops o nd.fr nd.hp (lo + k * w) (lo + k * w + w) with
   | some (fr',hp0,_)=>match hsort hp0 with
     | hp'=>match nd.D.all (fun x=>QbH ops k x.1 || (match hget hp' x.2.1 with | some ob=>HO.beq ob x.2.2 | none=>false)) with
       | true=>passC P n ops lights lights ⟨k :: nd.L,nd.D,fr',hp'⟩
       | false=>none
   | none=>none
 | none=>none
def metsC (P:Program)(call:Q7M)(n:Nat)(ops:Array Oper)(lights:List Nat)(lo w:Nat)(nd:Nd):List Nat→Option (List Nd)
 | []=>some []
 | k :: r=>match metC P call n ops lights lo w k nd,metsC P call n ops lights lo w nd r with
   | some x,some l=>some (x :: l)
   | _,_=>none
def allIn (ops:Array Oper)(L:List Nat):Bool:=(List.range ops.size).all (Q7j L)
def expandC (P:Program)(call:Q7M)(n:Nat)(ops:Array Oper)(lights:List Nat)(lo w:Nat):List Nd→Option (List Nd)
 | []=>some []
 | nd :: r=>match !allIn ops nd.L && (readyX ops lights nd.L).all (fun k=>!Q7j lights k) with
   | true=>match metsC P call n ops lights lo w nd (readyX ops lights nd.L),expandC P call n ops lights lo w r with
     | some l,some m=>some (l++m)
     | _,_=>none
   | false=>none
def insN (nd : Nd)(l : List Nd) : List Nd :=match l.any (fun x=> Nd.same nd x) with
 | true=>l
 | false=>nd :: l
def dedupC:List Nd→List Nd
 | []=>[]
 | nd :: r=>insN nd (dedupC r)
def levC (P:Program)(call:Q7M)(n:Nat)(ops:Array Oper)(lights:List Nat)(lo w:Nat):Nat→List Nd→Option Nd
 | 0,_=>none
 | f + 1,nds=>match nds with
   | []=>none
   | nd :: rest=>match allIn ops nd.L with
     | true=>match rest.all (fun x=>allIn ops x.L && Tr.beq x.fr nd.fr && heapB x.hp nd.hp) with
       | true=>some nd
       | false=>none
     | false=>match expandC P call n ops lights lo w (nd :: rest) with
       | some ns=>levC P call n ops lights lo w f (dedupC ns)
       | none=>none
def drawC (P:Program)(call:Q7M)(n:Nat)(ops:Array Oper)(hi:Nat)(fr:Tr)(hp:Q1a)(lo:Nat):Option (Tr×Q1a×Nat) :=
 match P.follows .mixedOrders && Q22 ops (lightsC ops) && Nat.ble lo hi with
 | true=>match passC P n ops (lightsC ops) (lightsC ops) ⟨[],[],fr,hp⟩ with
   | some nd=>match levC P call n ops (lightsC ops) lo ((hi - lo) / (65536 * (ops.size + 1))) (ops.size + 1) [nd] with
     | some fin=>some (fin.fr,fin.hp,lo+ops.size * ((hi - lo) / (65536 * (ops.size+1))))
     | none=>none
   | none=>none
 | false=>none
end
end Go.Proofs.YtbgodclhmgmcgaaGreatDoor
