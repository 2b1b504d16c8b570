import Derived.Test.YtbgodclhmgmcgaaGreatDoorAuto
import Derived.Test.YtbgodclhmgmcgaaGreatDoorShelf
import Derived.Shelf.Strings.SlTrimAscii
namespace Go.Proofs.YtbgodclhmgmcgaaGreatDoor
open Go Go.RowKit
theorem spec_pure {P:Program} {f:FuncId} {args:List Value} {v:Value} (h : ∀ w,Calls P f args.toArray w fun e w'=>e = .returned v ∧ Below w.heap.size w w'):Q17 P f args [] [] (fun u Φr Hr=>u = v ∧ Φr = [] ∧ Hr = []):=by
 intro F N w hF _ _ _ _
 refine (h w).mono fun e w' ⟨he,hb⟩=>⟨v,[],[],he,⟨rfl,rfl,rfl⟩,?_⟩
 have h0:Q16 ⟨w,fun k=>∃ i,i < ([] : List Fact).length ∧ N i k,F⟩ [] [] w :=
  ⟨F,N,hF,fun _ h=>h,fun _ h=>.inl h,fun φ hφ=>(by cases hφ),fun i φ h=>(by simp at h),fun i k hi=>(by simp at hi),fun i j k hi=>(by simp at hi),Mod.refl _ _⟩
 exact h0.drew' hb
theorem spec_same {P:Program} {f:FuncId} {args:List Value} {v:Value} (h : ∀ w,Calls P f args.toArray w fun e w'=>e = .returned v ∧ w' = w):Q17 P f args [] [] (fun u Φr Hr=>u = v ∧ Φr = [] ∧ Hr = []) :=
 spec_pure fun w=>(h w).mono fun e w' ⟨he,hw⟩=>⟨he,hw ▸ Below.refl _ _⟩
end Go.Proofs.YtbgodclhmgmcgaaGreatDoor
namespace Go.Proofs.YtbgodclhmgmcgaaGreatDoor
open Go Go.RowKit
theorem sh_IndexByte (s:ByteArray) (c:Int):Q17 Tryz.prog 141 [.string s,.int .u8 c] [] [] (fun u Φr Hr=>u = .int .i64 (Lib.indexByte s.data.toList c.toNat.toUInt8) ∧ Φr = [] ∧ Hr = []):=spec_same fun w=>Tryz.strings_IndexByte s c w
theorem sh_Trim (s c:ByteArray) (hc:c.size < 4294967281) (ha : ∀ (j:Nat) b,c.data.toList[j]? = some b → b.toNat < 128) (hs:s.size ≤ 9223372036854775807):Q17 Tryz.prog 142 [.string s,.string c] [] [] (fun u Φr Hr=>u = .string ⟨(Lib.trimS s.data.toList c.data.toList).toArray⟩ ∧ Φr = [] ∧ Hr = []):=spec_pure fun w=>Any.strings_Trim_laid Tryz.lays160 (by kernel_rfl) s c w hs hc ha
theorem sh_Mul64 (x y:Int) (hx : 0 ≤ x ∧ x < 18446744073709551616) (hy : 0 ≤ y ∧ y < 18446744073709551616):Q17 Tryz.prog 195 [.int .u64 x,.int .u64 y] [] [] (fun u Φr Hr=>u = .tuple #[.int .u64 ((x.toNat * y.toNat / 18446744073709551616:Nat):Int),.int .u64 ((x.toNat * y.toNat % 18446744073709551616:Nat):Int)] ∧ Φr = [] ∧ Hr = []):=spec_same fun w=>by
 obtain ⟨a,rfl⟩:=Int.eq_ofNat_of_zero_le hx.1
 obtain ⟨b,rfl⟩:=Int.eq_ofNat_of_zero_le hy.1
 simp only [Int.toNat_natCast]
 exact Tryz.bits_Mul64 a b (by omega) (by omega) w
end Go.Proofs.YtbgodclhmgmcgaaGreatDoor
namespace Go.Proofs.YtbgodclhmgmcgaaGreatDoor
open Go Go.RowKit
section
variable {P:Program} {C:Ctx} {n:FD} {Q:Exit → Act → World → Prop} {Φ:List Fact} {H:List Fact} {S S' : List (Nat × Value)} {ops:Array Oper} {rest:List Oper} {o:Oper} {d:Nat} {lights L:List Nat} {D:List (Nat × Fact)}
def Reck (P:Program) (n:FD) (S:List (Nat × Value)) (o:Oper) (v:Value):Prop:=∀ a w,Frm n S a → (execOp a.eval o).run P w = .ok (.value v) w
theorem Q1w {v:Value} (hg:Q1O ops S o = some true) (hd:o.dst = some d) (hn:Nat.blt d n = true) (hS:Q37 d S = S') (h:Reck P n S o v) (next:WL P C n Q Φ H ((d,v) :: S') ops rest):WL P C n Q Φ H S ops (o :: rest) :=
 Qb1 hg hd hn hS (fun a w hf _=>h a w hf) next
theorem wx_reck (hok:Q36 ops lights = true) (i:Nat) {o:Oper} {d:Nat} {v:Value} (hi:ops[i]? = some o) (hd:o.dst = some d) (hl:Q6g ops lights L i n d o = true) (hS:Q37 d S = S') (hg:Q1O ops S o = some true) (h:Reck P n S o v)
  (next:WX P C n Q ops lights (i :: L) D Φ H ((d,v) :: S')):WX P C n Q ops lights L D Φ H S :=
 QbW hok i [] [] hi hd hl hS rfl hg (fun a w hf _=>h a w hf) next
def tStr (P:Program) (t:Nat):Bool:=match P.underlying t with
 | some .string=>true
 | _=>false
theorem tStr_run {t:Nat} (h:tStr P t = true):P.underlying t = some .string:=by
 unfold tStr at h
 split at h
 · rename_i h2; exact h2
 · cases h
def tInt (P:Program) (t:Nat):Option IntKind:=match P.underlying t with
 | some (.int k)=>some k
 | _=>none
theorem Q4W {t:Nat} {k:IntKind} (h:tInt P t = some k):P.underlying t = some (.int k):=by
 unfold tInt at h
 split at h
 · rename_i h2; cases h; exact h2
 · cases h
theorem Q4g {t:TypeId} {x:Operand} {s:ByteArray} (ho:o.op = .call { callee:=.builtin .len,args:=#[x],argTypes:=#[t] }) (hx:evS S x = some (.string s)) (ht:tStr P t = true):Reck P n S o (.int .i64 ((s.size:Nat):Int)) :=
 fun a w hf=>by simp [execOp,ho,resolve,invoke,builtin,Builtin.len_,hf.eval hx,run_underlying (tStr_run ht),goInt]
def minI (a b:Int):Int:=if b < a then b else a
def maxI (a b:Int):Int:=if a < b then b else a
theorem maxI_nat {k:IntKind} {a b:Nat}:Value.int k (maxI (a:Int) (b:Int)) = .int k ((max a b:Nat):Int):=by
 congr 1; unfold maxI; split <;> omega
theorem rk_min {ts:Array TypeId} {x y:Operand} {k j:IntKind} {a b:Int} (ho:o.op = .call { callee:=.builtin .min,args:=#[x,y],argTypes:=ts }) (hx:evS S x = some (.int k a)) (hy:evS S y = some (.int j b)):Reck P n S o (.int k (minI a b)) :=
 fun c w hf=>by simp [execOp,ho,resolve,invoke,builtin,Builtin.min_,Builtin.min2,hf.eval hx,hf.eval hy,minI]
theorem rk_max {ts:Array TypeId} {x y:Operand} {k j:IntKind} {a b:Int} (ho:o.op = .call { callee:=.builtin .max,args:=#[x,y],argTypes:=ts }) (hx:evS S x = some (.int k a)) (hy:evS S y = some (.int j b)):Reck P n S o (.int k (maxI a b)) :=
 fun c w hf=>by simp [execOp,ho,resolve,invoke,builtin,Builtin.max_,Builtin.max2,hf.eval hx,hf.eval hy,maxI]
theorem Q4V {t:TypeId} {x y:Operand} {s:ByteArray} {k:IntKind} {z:Int} {b:UInt8} (j:Nat) (ho:o.op = .index t x y) (hx:evS S x = some (.string s)) (hy:evS S y = some (.int k z)) (hz:z = (j:Int)) (hb:s[j]? = some b) (ht:tStr P t = true):Reck P n S o (.int .u8 ((b.toNat:Nat):Int)):=by
 subst hz
 exact fun a w hf=>by simp [execOp,ho,hf.eval hx,hf.eval hy,Instr.index,asIntOf,run_underlying (tStr_run ht),hb]
theorem run_shr {k k' : IntKind} {a b:Int} {t:TypeId} {x y:Operand} (h : 0 ≤ b) (w:World):(do eqGuard .shr t x y (.int k a) (.int k' b); binOp .shr t (.int k a) (.int k' b):Sem Value).run P w = .ok (.int k (a.fdiv (2 ^ min b.toNat k.bits))) w:=by
 have hb : ¬ b < 0:=by omega
 simp only [eqGuard,binOp,Op.shift]
 rw [if_neg hb]; rfl
theorem Qbz {s t:TypeId} {x:Operand} {k k' k'' : IntKind} {z:Int} (ho:o.op = .convert s t x) (hx:evS S x = some (.int k z)) (hs:tInt P s = some k') (ht:tInt P t = some k''):Reck P n S o (.int k'' (k''.wrap z)):=fun a w hf=>by
 simp [execOp,ho,hf.eval hx,convert,run_underlying (Q4W hs),run_underlying (Q4W ht),Conv.intToInt]
theorem rk_neg {t:TypeId} {x:Operand} {k:IntKind} {z:Int} (ho:o.op = .unOp .neg t x) (hx:evS S x = some (.int k z)):Reck P n S o (.int k (k.wrap (0 - z))):=fun a w hf=>by
 simp [execOp,ho,hf.eval hx,Op.unary,Op.intArith]
theorem Q9g {t:TypeId} {x y z:Operand} {s:ByteArray} {k1 k2:IntKind} {z1 z2:Int} (i j:Nat) (ho:o.op = .slice t x (some y) (some z) none) (hx:evS S x = some (.string s)) (hy:evS S y = some (.int k1 z1)) (h1:z1 = (i:Int)) (hz:evS S z = some (.int k2 z2)) (h2:z2 = (j:Int)) (hij:i ≤ j) (hj:j ≤ s.size) (ht:tStr P t = true):Reck P n S o (.string (s.extract i j)):=by
 subst h1; subst h2
 exact fun a w hf=>by simp [execOp,ho,hf.eval hx,hf.eval hy,hf.eval hz,Instr.sliceAt,Instr.slice,run_underlying (tStr_run ht),Instr.sliceBounds,Instr.sliceBound,asIntOf,hij,hj]
def fldTy (P:Program) (t k:Nat):Option (Nat × Nat):=match P.underlying t with
 | some (.struct fs)=>(fs[k]?).map fun f=>(f.type,f.offset)
 | _=>none
theorem Q6w {t k u off sz:Nat} {x:Operand} {cs:Array Value} {v:Value} {ag:Bool} (ho:o.op = .field t x k) (hx:evS S x = some (.agg cs)) (hk:fldTy P t k = some (u,off)) (ha:Q3B P u = some ag) (hs:Q1Q P u = some sz) (hv:(if ag = true then some (.agg (cs.extract off (off + sz))) else cs[off]?) = some v):Reck P n S o v:=fun c w hf=>by
 unfold fldTy at hk
 split at hk
 ·rename_i fs hu
  cases hfs:fs[k]? with
  | none=>rw [hfs] at hk; cases hk
  | some f =>
    rw [hfs] at hk
    simp only [Option.map_some,Option.some.injEq,Prod.mk.injEq] at hk
    obtain ⟨rfl,rfl⟩:=hk
    have hp:(part f.type cs f.offset).run P w = .ok v w:=by
     unfold part
     simp only [Sem.run_bind,tAgg_run ha,Result.andThen]
     cases ag with
     | true =>
       simp only [if_true,Sem.run_bind,Q4K hs,Result.andThen] at hv ⊢
       cases hv; rfl
     | false =>
       simp only [Bool.false_eq_true,if_false] at hv ⊢
       rw [hv]; rfl
    simp [execOp,ho,hf.eval hx,Instr.field,run_underlying hu,hfs,asAgg,hp]
 · cases hk
end
end Go.Proofs.YtbgodclhmgmcgaaGreatDoor
