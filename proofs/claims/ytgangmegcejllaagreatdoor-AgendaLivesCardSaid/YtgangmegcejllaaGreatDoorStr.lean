import Derived.Test.YtgangmegcejllaaGreatDoorView
import Derived.Test.YtgangmegcejllaaGreatDoorAuto
import Derived.Laws.BytesArg
import Derived.Laws.BytesString
import Derived.Laws.IdiomStrings
import Derived.Lib.LaidTab
import Derived.Lib.ItoaNum
import Derived.LaidSub
import Derived.Deep.Draws
namespace Go.Proofs.YtgangmegcejllaaGreatDoor
open Go Go.RowKit
def tabF (P:Program) (name:String) (k:IntKind) (zs:List Int) (g:Nat) (hg:P.globalNamed name = some g):Fact :=
 .raw (fun N w=>N g ∧ Lib.TabIs P w name k zs) (fun hF ha h=>⟨hF _ h.1,by
  have:=h.2
  unfold Lib.TabIs World.var? at this ⊢
  rw [hg] at this ⊢
  simp only [Option.bind_some] at this ⊢
  rw [ha g h.1]; exact this⟩)
theorem tabF_of {P:Program} {W:World} {name:String} {k:IntKind} {zs:List Int} {g:Nat} {hg:P.globalNamed name = some g} (h:Lib.TabIs P W name k zs):(tabF P name k zs g hg).p (fun k=>k < W.heap.size) W:=by
 refine ⟨?_,h⟩
 unfold Lib.TabIs World.var? at h
 rw [hg] at h
 simp only [Option.bind_some] at h
 cases hb:W.heap[g]? with
 | none=>rw [hb] at h; cases h
 | some o=>exact (Array.getElem?_eq_some_iff.1 hb).1
theorem spec_tab {P:Program} {f:FuncId} {args:List Value} {v:Value} {name:String} {k:IntKind} {zs:List Int} {g:Nat} {hg:P.globalNamed name = some g} (h : ∀ w,Lib.TabIs P w name k zs → Calls P f args.toArray w fun e w'=>e = .returned v ∧ Below w.heap.size w w'):Q1R P f args [tabF P name k zs g hg] [] (fun u Φr Hr=>u = v ∧ Φr = [] ∧ Hr = []):=by
 intro F N w hF hΦ _ _ _
 have ht:Lib.TabIs P w name k zs:=(hΦ _ (List.mem_singleton.2 rfl)).2
 refine (h w ht).mono fun e w' ⟨he,hb⟩=>⟨v,[],[],he,⟨rfl,rfl,rfl⟩,?_⟩
 have h0:QY ⟨w,fun k=>∃ i,i < ([] : List Fact).length ∧ N i k,F⟩ [] [] w :=
  ⟨F,N,hF,fun _ h=>h,fun _ h=>.inl h,fun φ hφ=>(by cases hφ),fun i φ h=>(by simp at h),fun i k hi=>(by simp at hi),fun i j k hi=>(by simp at hi),Mod.refl _ _⟩
 exact h0.drew' hb
theorem drewN_below (w:World) : ∀ n,Below w.heap.size w (w.drewN n)
 | 0=>Below.refl _ _
 | n + 1=>(drewN_below w n).drew
def decF:Nat → Nat → List UInt8
 | 0,_=>[]
 | f + 1,u=>if u < 10 then [UInt8.ofNat (48 + u)] else decF f (u / 10) ++ [UInt8.ofNat (48 + u % 10)]
theorem decF_eq : ∀ (f u:Nat),u < 10 ^ f → 0 < f → decF f u = Lib.decDigits u
 | 0,_,_,h=>by omega
 | f + 1,u,h,_=>by
   unfold decF
   rw [Lib.decDigits]
   split
   · rfl
   ·rename_i hu
    cases f with
    | zero=>simp at h; omega
    | succ f =>
      rw [decF_eq (f + 1) (u / 10) (by rw [Nat.pow_succ] at h; omega) (by omega)]
def Q6P (n:Int):ByteArray:=⟨(if n < 0 then 45 :: decF 20 n.natAbs else decF 20 n.toNat).toArray⟩
theorem itoaF_eq {n:Int} (h : -9223372036854775808 ≤ n ∧ n ≤ 9223372036854775807):(⟨(Lib.itoa n).toArray⟩ : ByteArray) = Q6P n:=by
 have e:(10:Nat) ^ 20 = 100000000000000000000:=by decide
 unfold Q6P Lib.itoa
 split
 · rw [decF_eq 20 _ (by rw [e]; omega) (by omega)]
 · rw [decF_eq 20 _ (by rw [e]; omega) (by omega)]
end Go.Proofs.YtgangmegcejllaaGreatDoor
namespace Go.Proofs.YtgangmegcejllaaGreatDoor
open Go Go.RowKit
theorem pow10_g:Tryz.prog.globalNamed "internal/strconv.uint64pow10" = some 0:=by kernel_rfl
abbrev tF:Fact:=tabF Tryz.prog "internal/strconv.uint64pow10" .u64 Lib.pow10Tab 0 pow10_g
theorem sh_Itoa (n:Int) (h : -9223372036854775808 ≤ n ∧ n ≤ 9223372036854775807):Q1R Tryz.prog 95 [.int .i64 n] [tabF Tryz.prog "internal/strconv.uint64pow10" .u64 Lib.pow10Tab 0 pow10_g] [] (fun u Φr Hr=>u = .string (Q6P n) ∧ Φr = [] ∧ Hr = []):=by
 rw [← itoaF_eq h]
 refine spec_tab fun w ht=>(Tryz.strconv_Itoa n h.1 h.2 w ht).mono fun e w' ⟨he,k,os,hw⟩=>⟨he,?_⟩
 subst hw
 have h1:=drewN_below w k
 exact ⟨h1.os,h1.tape,h1.output,Nat.le_trans h1.size (by simp [Go.Sort.grow]),fun q hq=>by
  have h2:=h1.block q hq
  have h3:q < (w.drewN k).heap.size:=Nat.lt_of_lt_of_le hq h1.size
  simp only [Go.Sort.grow]
  rw [Array.getElem?_append_left h3]; exact h2⟩
end Go.Proofs.YtgangmegcejllaaGreatDoor
namespace Go.Proofs.YtgangmegcejllaaGreatDoor
open Go Go.RowKit
section
variable {P:Program} {C:Ctx} {n:Nat} {Q:Exit → Act → World → Prop} {Φ:List Fact} {H:List Fact} {S S' : List (Nat × Value)} {ops:Array Oper} {rest:List Oper} {o:Oper} {d:Nat} {lights L:List Nat} {D:List (Nat × Fact)}
def Reck (P:Program) (n:Nat) (S:List (Nat × Value)) (o:Oper) (v:Value):Prop:=∀ a w,Frm n S a → (execOp a.eval o).run P w = .ok (.value v) w
theorem Q9M {v:Value} (hg:Q1J ops S o = some true) (hd:o.dst = some d) (hn:Nat.blt d n = true) (hS:Q3b d S = S') (h:Reck P n S o v) (next:WL P C n Q Φ H ((d,v) :: S') ops rest):WL P C n Q Φ H S ops (o :: rest) :=
 Q7S hg hd hn hS (fun a w hf _=>h a w hf) next
theorem wx_reck (hok:Q3R ops lights = true) (i:Nat) {o:Oper} {d:Nat} {v:Value} (hi:ops[i]? = some o) (hd:o.dst = some d) (hl:Q5M ops lights L i n d o = true) (hS:Q3b d S = S') (hg:Q1J ops S o = some true) (h:Reck P n S o v)
  (next:WX P C n Q ops lights (i :: L) D Φ H ((d,v) :: S')):WX P C n Q ops lights L D Φ H S :=
 Q8q hok i [] [] hi hd hl hS rfl hg (fun a w hf _=>h a w hf) next
def tStr (P:Program) (t:Nat):Bool:=match P.underlying t with
 | some .string=>true
 | _=>false
theorem QQ {t:Nat} (h:tStr P t = true):P.underlying t = some .string:=by
 unfold tStr at h
 split at h
 · rename_i h2; exact h2
 · cases h
def tInt (P:Program) (t:Nat):Option IntKind:=match P.underlying t with
 | some (.int k)=>some k
 | _=>none
theorem tInt_run {t:Nat} {k:IntKind} (h:tInt P t = some k):P.underlying t = some (.int k):=by
 unfold tInt at h
 split at h
 · rename_i h2; cases h; exact h2
 · cases h
theorem rk_strAt {t:TypeId} {x y:Operand} {s:ByteArray} {k:IntKind} {z:Int} {b:UInt8} (j:Nat) (ho:o.op = .index t x y) (hx:evS S x = some (.string s)) (hy:evS S y = some (.int k z)) (hz:z = (j:Int)) (hb:s[j]? = some b) (ht:tStr P t = true):Reck P n S o (.int .u8 ((b.toNat:Nat):Int)):=by
 subst hz
 exact fun a w hf=>by simp [execOp,ho,hf.eval hx,hf.eval hy,Instr.index,asIntOf,run_underlying (QQ ht),hb]
theorem run_strAdd {t:TypeId} {x y:Operand} {s u:ByteArray} (h:s.size + u.size ≤ 9223372036854775807) (w:World):(do eqGuard .add t x y (.string s) (.string u); binOp .add t (.string s) (.string u):Sem Value).run P w = .ok (.string (s ++ u)) w:=by
 have e2:IntKind.max .i64 = 9223372036854775807:=by decide
 have h2 : ¬ (((s.size + u.size:Nat):Int) > IntKind.max .i64):=by rw [e2]; omega
 simp only [eqGuard,binOp,Op.stringOp]
 rw [if_neg h2]; rfl
theorem run_shl {k k' : IntKind} {a b:Int} {t:TypeId} {x y:Operand} (h : 0 ≤ b) (w:World):(do eqGuard .shl t x y (.int k a) (.int k' b); binOp .shl t (.int k a) (.int k' b):Sem Value).run P w = .ok (.int k (k.wrap (a * 2 ^ min b.toNat k.bits))) w:=by
 have hb : ¬ b < 0:=by omega
 simp only [eqGuard,binOp,Op.shift]
 rw [if_neg hb]; rfl
theorem run_shr {k k' : IntKind} {a b:Int} {t:TypeId} {x y:Operand} (h : 0 ≤ b) (w:World):(do eqGuard .shr t x y (.int k a) (.int k' b); binOp .shr t (.int k a) (.int k' b):Sem Value).run P w = .ok (.int k (a.fdiv (2 ^ min b.toNat k.bits))) w:=by
 have hb : ¬ b < 0:=by omega
 simp only [eqGuard,binOp,Op.shift]
 rw [if_neg hb]; rfl
def Q1t (op:BinOp) (k:IntKind) (x y:Int):Int:=match op with
 | .and=>k.wrap ((BitVec.ofInt k.bits x &&& BitVec.ofInt k.bits y).toNat:Int)
 | .or=>k.wrap ((BitVec.ofInt k.bits x ||| BitVec.ofInt k.bits y).toNat:Int)
 | .xor=>k.wrap ((BitVec.ofInt k.bits x ^^^ BitVec.ofInt k.bits y).toNat:Int)
 | .andNot=>k.wrap ((BitVec.ofInt k.bits x &&& ~~~ BitVec.ofInt k.bits y).toNat:Int)
 | _=>0
theorem run_and {k:IntKind} {a b:Int} {t:TypeId} {x y:Operand} (w:World):(do eqGuard .and t x y (.int k a) (.int k b); binOp .and t (.int k a) (.int k b):Sem Value).run P w = .ok (.int k (Q1t .and k a b)) w:=by
 simp [eqGuard,binOp,Op.intBits,Q1t]
theorem run_xor {k:IntKind} {a b:Int} {t:TypeId} {x y:Operand} (w:World):(do eqGuard .xor t x y (.int k a) (.int k b); binOp .xor t (.int k a) (.int k b):Sem Value).run P w = .ok (.int k (Q1t .xor k a b)) w:=by
 simp [eqGuard,binOp,Op.intBits,Q1t]
theorem rk_conv {s t:TypeId} {x:Operand} {k k' k'' : IntKind} {z:Int} (ho:o.op = .convert s t x) (hx:evS S x = some (.int k z)) (hs:tInt P s = some k') (ht:tInt P t = some k''):Reck P n S o (.int k'' (k''.wrap z)):=fun a w hf=>by
 simp [execOp,ho,hf.eval hx,convert,run_underlying (tInt_run hs),run_underlying (tInt_run ht),Conv.intToInt]
theorem rk_neg {t:TypeId} {x:Operand} {k:IntKind} {z:Int} (ho:o.op = .unOp .neg t x) (hx:evS S x = some (.int k z)):Reck P n S o (.int k (k.wrap (0 - z))):=fun a w hf=>by
 simp [execOp,ho,hf.eval hx,Op.unary,Op.intArith]
end
end Go.Proofs.YtgangmegcejllaaGreatDoor
