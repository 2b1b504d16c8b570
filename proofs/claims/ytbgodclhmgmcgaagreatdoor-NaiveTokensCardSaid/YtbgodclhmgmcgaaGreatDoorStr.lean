import Derived.Test.YtbgodclhmgmcgaaGreatDoorCeK
import Derived.Test.YtbgodclhmgmcgaaGreatDoorProg
import Derived.KernelRfl
import Derived.Shelf.Strings.Trim
import Derived.Shelf.Small.Utf8
import Derived.Shelf.Small.Strs
import Derived.Shelf.Small.Wraps
import Derived.Shelf.Strings.Search1
import Derived.Shelf.Strings.Runes
import Derived.Shelf.Strings.AsciiSet
import Derived.Shelf.Bits.Mul64
import Derived.Shelf.Unicode.DecodeSlow
import Derived.Ground.Names2Prog
import Derived.Shelf.Slices.Clone
import Derived.Shelf.Slices.SearchI
import Derived.Test.YtbgodclhmgmcgaaGreatDoorAuto
import Derived.Shelf.Strings.SlTrimAscii
namespace Go.Proofs.YtbgodclhmgmcgaaGreatDoor
open Go Go.RowKit
def exE:ClE:=⟨24,.agg [.sl 5056111190685936074886896667545463034462187828533537182552 0 1 0 true,.sl 5187880350426155833479016958802390065821391329846365396160 0 1 0 true],[(5187880350426155833479016958802390065821391329846365396160,.row [.v (.string ⟨#[114]⟩),.v (.int .i64 0),.v (.int .i64 2),.sl 5125031109415889917521101410109145968231480380359544294171 0 2 0 true,.sl 5169025847209961970808664136309201816649563466760751191035 0 2 0 true] 1 5 52),(5169025847209961970808664136309201816649563466760751191035,.row [.v (.int .u8 1),.v (.int .i64 0),.v (.int .i64 0),.sl 5147028595239875343864223825634029243356324208710502383568 0 2 0 true,.v (.int .u8 2),.v (.int .i64 0),.v (.int .i64 1),.v (.slice none 0 0)] 2 4 81),(5147028595239875343864223825634029243356324208710502383568,.row [.v (.int .u8 2),.v (.int .u8 0),.v (.int .i64 0),.v (.string ⟨#[]⟩),.v (.int .i64 1),.v (.int .u8 0),.v (.slice none 0 0),.v (.int .u8 3),.v (.int .u8 0),.v (.int .i64 0),.v (.string ⟨#[]⟩),.v (.int .i64 0),.v (.int .u8 1),.sl 5147028595239875343864223825634029243356324208710502383565 0 2 0 true] 2 7 65),(5147028595239875343864223825634029243356324208710502383565,.row [.v (.int .u8 2),.v (.int .u8 0),.v (.int .i64 0),.v (.string ⟨#[]⟩),.v (.int .i64 0),.v (.int .u8 0),.v (.slice none 0 0),.v (.int .u8 1),.v (.int .u8 1),.v (.int .i64 1),.v (.string ⟨#[]⟩),.v (.int .i64 0),.v (.int .u8 0),.v (.slice none 0 0)] 2 7 65),(5125031109415889917521101410109145968231480380359544294171,.row [.v (.int .u8 1),.v (.int .i64 0),.sl 5103033253124610634403169234956625439371395107550588635896 0 2 0 true,.v (.int .u8 0),.v (.int .u8 0),.v (.int .i64 0),.v (.string ⟨#[]⟩),.v (.int .i64 0),.v (.int .u8 0),.v (.slice none 0 0),.v (.int .u8 1),.v (.int .i64 0),.sl 5125031109415889917521101410109145968231480380359544294169 0 2 0 true,.v (.int .u8 0),.v (.int .u8 0),.v (.int .i64 0),.v (.string ⟨#[]⟩),.v (.int .i64 0),.v (.int .u8 0),.v (.slice none 0 0)] 2 10 67),(5125031109415889917521101410109145968231480380359544294169,.row [.v (.int .u8 3),.v (.int .i64 0),.v (.int .u8 0),.v (.int .i64 0),.v (.string ⟨#[]⟩),.v (.int .u8 2),.v (.int .i64 1),.v (.int .u8 0),.v (.int .i64 0),.v (.string ⟨#[]⟩)] 2 5 59),(5103033253124610634403169234956625439371395107550588635896,.row [.v (.int .u8 2),.v (.int .i64 0),.v (.int .u8 0),.v (.int .i64 0),.v (.string ⟨#[]⟩),.v (.int .u8 4),.v (.int .i64 0),.v (.int .u8 1),.v (.int .i64 1),.v (.string ⟨#[]⟩)] 2 5 59),(5056111190685936074886896667545463034462187828533537182552,.row [.v (.string ⟨#[112]⟩),.v (.int .i64 2)] 1 2 69)],5196609272208422808592306188812016048999826884892125521927⟩
theorem ex_true:clSays exE (callC Tryz.prog 1000 50 24 [] [] 0 (2 ^ 200))=true:=by kernel_rfl
theorem ex_cl (E:List Value):ClOk Tryz.prog E exE:=clOk_of (callC_ok E 1000 50) ex_true
end Go.Proofs.YtbgodclhmgmcgaaGreatDoor
namespace Go.Proofs.YtbgodclhmgmcgaaGreatDoor
open Go Go.RowKit
theorem idleX_65 (x:Value):Idle Tryz.prog 65 #[x]:=by
 intro w
 refine callsD_of_wpS Tryz.func65 rfl fun c₀ cs hu=>?_
 apply wpS_seq
 apply wpS_region
 simp [wpOpsS,go_sem,recoverD,hu,Tryz.ntmps65,Exit.thenS]
 apply wpS_seq
 apply wpS_region
 simp [wpOpsS,go_sem,Exit.thenS]
 refine wpS_cond (t:=false) (by simp [Act.eval,Array.replicate]) ?_
 refine wpS_of_wp (wp_skip ?_)
 cases c₀
 simp_all [bodyPostS,results,Tryz.results65]
theorem awk_true:saysTrue (callK Tryz.prog 1000 [exE] [65] 50 8 [] [] 0 (2 ^ 300))=true:=by kernel_rfl
theorem aw_8:QY Tryz.prog 8 [] [] [] (fun v Φr Hr=>v=.bool true∧Φr=[]∧Hr=[]):=spec_trueK (E:=[]) (args:=[]) (callK_ok (fun e he=>by
 simp only [List.mem_cons,List.not_mem_nil,or_false] at he
 subst he
 exact ex_cl []) (fun g hg=>by
 simp only [List.mem_cons,List.not_mem_nil,or_false] at hg
 subst hg
 exact idleX_65) 50) rfl awk_true
end Go.Proofs.YtbgodclhmgmcgaaGreatDoor
namespace Go.Proofs
open Go.Shelf
def Tryz.lays160_ren:Go.Shelf.Ren:=⟨fun | 160=>142 | 232=>183 | 231=>182 | 227=>184 | 234=>186 | 233=>185 | 236=>188 | 235=>187 | 228=>216 | 271=>219 | 151=>218 | 197=>217 | 120=>233 | 152=>232 | 260=>231 | 137=>141 | 119=>237 | 224=>238 | 225=>239 | 217=>181 | 266=>215 | n=>n,fun | 9=>9 | 4=>4 | 3=>3 | 5=>5 | 117=>239 | 116=>238 | 0=>0 | 124=>242 | 21=>21 | 105=>261 | 46=>149 | 119=>273 | 139=>276 | 138=>275 | n=>n,fun | 3=>1 | 4=>2 | n=>n⟩
theorem Tryz.lays160:Go.Proofs.Lays.n160 Tryz.prog Tryz.lays160_ren:={
 mixed:=by kernel_rfl
 f119:=Tryz.func237.trans (congrArg some (by kernel_rfl))
 f120:=Tryz.func233.trans (congrArg some (by kernel_rfl))
 f137:=Tryz.func141.trans (congrArg some (by kernel_rfl))
 f151:=Tryz.func218.trans (congrArg some (by kernel_rfl))
 f152:=Tryz.func232.trans (congrArg some (by kernel_rfl))
 f160:=Tryz.func142.trans (congrArg some (by kernel_rfl))
 f197:=Tryz.func217.trans (congrArg some (by kernel_rfl))
 f217:=Tryz.func181.trans (congrArg some (by kernel_rfl))
 f224:=Tryz.func238.trans (congrArg some (by kernel_rfl))
 f225:=Tryz.func239.trans (congrArg some (by kernel_rfl))
 f227:=Tryz.func184.trans (congrArg some (by kernel_rfl))
 f228:=Tryz.func216.trans (congrArg some (by kernel_rfl))
 f231:=Tryz.func182.trans (congrArg some (by kernel_rfl))
 f232:=Tryz.func183.trans (congrArg some (by kernel_rfl))
 f233:=Tryz.func185.trans (congrArg some (by kernel_rfl))
 f234:=Tryz.func186.trans (congrArg some (by kernel_rfl))
 f235:=Tryz.func187.trans (congrArg some (by kernel_rfl))
 f236:=Tryz.func188.trans (congrArg some (by kernel_rfl))
 f260:=Tryz.func231.trans (congrArg some (by kernel_rfl))
 f266:=Tryz.func215.trans (congrArg some (by kernel_rfl))
 f271:=Tryz.func219.trans (congrArg some (by kernel_rfl))
 t0:=Tryz.underlying0
 a0:=Tryz.isAgg0
 z0:=Tryz.sizeOf0
 v0:=Tryz.zeroValue0
 t3:=Tryz.underlying3
 a3:=Tryz.isAgg3
 z3:=Tryz.sizeOf3
 v3:=Tryz.zeroValue3
 t4:=Tryz.underlying4
 a4:=Tryz.isAgg4
 z4:=Tryz.sizeOf4
 v4:=Tryz.zeroValue4
 t5:=Tryz.underlying5
 a5:=Tryz.isAgg5
 z5:=Tryz.sizeOf5
 v5:=Tryz.zeroValue5
 t9:=Tryz.underlying9
 a9:=Tryz.isAgg9
 z9:=Tryz.sizeOf9
 v9:=Tryz.zeroValue9
 t21:=Tryz.underlying21
 a21:=Tryz.isAgg21
 z21:=Tryz.sizeOf21
 v21:=Tryz.zeroValue21
 t46:=Tryz.underlying149
 a46:=Tryz.isAgg149
 z46:=Tryz.sizeOf149
 v46:=Tryz.zeroValue149
 t105:=Tryz.underlying261
 a105:=Tryz.isAgg261
 z105:=Tryz.sizeOf261
 v105:=Tryz.zeroValue261
 t116:=Tryz.underlying238
 a116:=Tryz.isAgg238
 z116:=Tryz.sizeOf238
 t117:=Tryz.underlying239
 a117:=Tryz.isAgg239
 z117:=Tryz.sizeOf239
 v117:=Tryz.zeroValue239
 t119:=Tryz.underlying273
 a119:=Tryz.isAgg273
 z119:=Tryz.sizeOf273
 t124:=Tryz.underlying242
 a124:=Tryz.isAgg242
 z124:=Tryz.sizeOf242
 v124:=Tryz.zeroValue242
 t138:=Tryz.underlying275
 a138:=Tryz.isAgg275
 z138:=Tryz.sizeOf275
 v138:=Tryz.zeroValue275
 t139:=Tryz.underlying276
 a139:=Tryz.isAgg276
 z139:=Tryz.sizeOf276
 v139:=Tryz.zeroValue276
 g3:=by kernel_rfl
 g4:=by kernel_rfl }
def Tryz.lays137_ren:Go.Shelf.Ren:=⟨fun | 137=>141 | 217=>181 | 266=>215 | n=>n,fun | 9=>9 | 5=>5 | 3=>3 | n=>n,fun | n=>n⟩
theorem Tryz.lays137:Go.Proofs.Lays.n137 Tryz.prog Tryz.lays137_ren:={
 mixed:=by kernel_rfl
 f137:=Tryz.func141.trans (congrArg some (by kernel_rfl))
 f217:=Tryz.func181.trans (congrArg some (by kernel_rfl))
 f266:=Tryz.func215.trans (congrArg some (by kernel_rfl))
 t3:=Tryz.underlying3
 a3:=Tryz.isAgg3
 z3:=Tryz.sizeOf3
 v3:=Tryz.zeroValue3
 t5:=Tryz.underlying5
 a5:=Tryz.isAgg5
 z5:=Tryz.sizeOf5
 v5:=Tryz.zeroValue5
 t9:=Tryz.underlying9
 a9:=Tryz.isAgg9
 z9:=Tryz.sizeOf9
 v9:=Tryz.zeroValue9 }
open Go.RowKit in
theorem Tryz.strings_IndexByte (s:ByteArray)(c:Int)(w:World) :
 Calls Tryz.prog 141 #[.string s,.int .u8 c] w fun e w'=>e=.returned (.int .i64 (Lib.indexByte s.data.toList c.toNat.toUInt8))∧w' =w:=Any.strings_IndexByte Tryz.lays137 s c w
def Tryz.lays264_ren:Go.Shelf.Ren:=⟨fun | 264=>195 | n=>n,fun | 53=>246 | 46=>149 | n=>n,fun | n=>n⟩
theorem Tryz.lays264:Go.Proofs.Lays.n264 Tryz.prog Tryz.lays264_ren:={
 mixed:=by kernel_rfl
 f264:=Tryz.func195.trans (congrArg some (by kernel_rfl))
 t46:=Tryz.underlying149
 a46:=Tryz.isAgg149
 z46:=Tryz.sizeOf149
 v46:=Tryz.zeroValue149
 t53:=Tryz.underlying246
 a53:=Tryz.isAgg246
 z53:=Tryz.sizeOf246
 v53:=Tryz.zeroValue246 }
open Go.RowKit Go.Lib in
theorem Tryz.bits_Mul64 (x y:Nat)(hx:x < 18446744073709551616)(hy:y < 18446744073709551616)(w:World) :
 Calls Tryz.prog 195 #[.int .u64 x,.int .u64 y] w fun e w'=>e=.returned (.tuple #[.int .u64 ((x * y / 18446744073709551616:Nat):Int),.int .u64 ((x * y % 18446744073709551616:Nat):Int)])∧w' =w:=Any.bits_Mul64 Tryz.lays264 x y hx hy w
end Go.Proofs
namespace Go.Proofs.YtbgodclhmgmcgaaGreatDoor
open Go Go.RowKit
theorem spec_pure {P:Program} {f:FuncId} {args:List Value} {v:Value} (h : ∀ w,Calls P f args.toArray w fun e w'=>e=.returned v∧Below w.heap.size w w'):QY P f args [] [] (fun u Φr Hr=>u=v∧Φr=[]∧Hr=[]):=by
 intro F N w hF _ _ _ _
 refine (h w).mono fun e w' ⟨he,hb⟩=>⟨v,[],[],he,⟨rfl,rfl,rfl⟩,?_⟩
 have h0:QC ⟨w,fun k=>∃ i,i < ([] : List Fact).length∧N i k,F⟩ [] [] w :=
  ⟨F,N,hF,fun _ h=>h,fun _ h=>.inl h,fun φ hφ=>(by cases hφ),fun i φ h=>(by simp at h),fun i k hi=>(by simp at hi),fun i j k hi=>(by simp at hi),Mod.refl _ _⟩
 exact h0.drew' hb
theorem spec_same {P:Program} {f:FuncId} {args:List Value} {v:Value} (h : ∀ w,Calls P f args.toArray w fun e w'=>e=.returned v∧w' =w):QY P f args [] [] (fun u Φr Hr=>u=v∧Φr=[]∧Hr=[]) :=
 spec_pure fun w=>(h w).mono fun e w' ⟨he,hw⟩=>⟨he,hw ▸ Below.refl _ _⟩
end Go.Proofs.YtbgodclhmgmcgaaGreatDoor
namespace Go.Proofs.YtbgodclhmgmcgaaGreatDoor
open Go Go.RowKit
theorem sh_IndexByte (s:ByteArray)(c:Int):QY Tryz.prog 141 [.string s,.int .u8 c] [] [] (fun u Φr Hr=>u=.int .i64 (Lib.indexByte s.data.toList c.toNat.toUInt8)∧Φr=[]∧Hr=[]):=spec_same fun w=>Tryz.strings_IndexByte s c w
theorem sh_Trim (s c:ByteArray)(hc:c.size < 4294967281)(ha : ∀ (j:Nat) b,c.data.toList[j]? =some b→b.toNat < 128)(hs:s.size≤9223372036854775807):QY Tryz.prog 142 [.string s,.string c] [] [] (fun u Φr Hr=>u=.string ⟨(Lib.trimS s.data.toList c.data.toList).toArray⟩∧Φr=[]∧Hr=[]):=spec_pure fun w=>Any.strings_Trim_laid Tryz.lays160 (by kernel_rfl) s c w hs hc ha
theorem sh_Mul64 (x y:Int)(hx : 0≤x∧x < 18446744073709551616)(hy : 0≤y∧y < 18446744073709551616):QY Tryz.prog 195 [.int .u64 x,.int .u64 y] [] [] (fun u Φr Hr=>u=.tuple #[.int .u64 ((x.toNat * y.toNat / 18446744073709551616:Nat):Int),.int .u64 ((x.toNat * y.toNat % 18446744073709551616:Nat):Int)]∧Φr=[]∧Hr=[]):=spec_same fun w=>by
 obtain ⟨a,rfl⟩:=Int.eq_ofNat_of_zero_le hx.1
 obtain ⟨b,rfl⟩:=Int.eq_ofNat_of_zero_le hy.1
 simp only [Int.toNat_natCast]
 exact Tryz.bits_Mul64 a b (by omega) (by omega) w
end Go.Proofs.YtbgodclhmgmcgaaGreatDoor
namespace Go.Proofs.YtbgodclhmgmcgaaGreatDoor
open Go Go.RowKit
section
variable {P:Program} {C:Ctx} {n:FD} {Q:Exit → Act → World → Prop} {Φ:List Fact} {H:List Fact} {S S' : List (Nat × Value)} {ops:Array Oper} {rest:List Oper} {o:Oper} {d:Nat} {lights L:List Nat} {D:List (Nat × Fact)}
def Reck (P:Program)(n:FD)(S:List (Nat×Value))(o:Oper)(v:Value):Prop:=∀ a w,Frm n S a→(execOp a.eval o).run P w=.ok (.value v) w
theorem Q64 {v:Value} (hg:Q18 ops S o=some true)(hd:o.dst=some d)(hn:Nat.blt d n=true)(hS:Q4p d S=S')(h:Reck P n S o v)(next:WL P C n Q Φ H ((d,v) :: S') ops rest):WL P C n Q Φ H S ops (o :: rest) :=
 Qc5 hg hd hn hS (fun a w hf _=>h a w hf) next
def tStr (P:Program)(t:Nat):Bool:=match P.underlying t with
 | some .string=>true
 | _=>false
theorem tStr_run {t:Nat} (h:tStr P t=true):P.underlying t=some .string:=by
 unfold tStr at h
 split at h
 · rename_i h2;exact h2
 · cases h
def tInt (P:Program)(t:Nat):Option IntKind:=match P.underlying t with
 | some (.int k)=>some k
 | _=>none
theorem Q6F {t:Nat} {k:IntKind} (h:tInt P t=some k):P.underlying t=some (.int k):=by
 unfold tInt at h
 split at h
 · rename_i h2;cases h;exact h2
 · cases h
theorem Qd3 {t:TypeId} {x:Operand} {s:ByteArray} (ho:o.op=.call { callee:=.builtin .len,args:=#[x],argTypes:=#[t] })(hx:evS S x=some (.string s))(ht:tStr P t=true):Reck P n S o (.int .i64 ((s.size:Nat):Int)) :=
 fun a w hf=>by simp [execOp,ho,resolve,invoke,builtin,Builtin.len_,hf.eval hx,run_underlying (tStr_run ht),goInt]
def minI (a b:Int):Int:=if b < a then b else a
theorem rk_min {ts:Array TypeId} {x y:Operand} {k j:IntKind} {a b:Int} (ho:o.op=.call { callee:=.builtin .min,args:=#[x,y],argTypes:=ts })(hx:evS S x=some (.int k a))(hy:evS S y=some (.int j b)):Reck P n S o (.int k (minI a b)) :=
 fun c w hf=>by simp [execOp,ho,resolve,invoke,builtin,Builtin.min_,Builtin.min2,hf.eval hx,hf.eval hy,minI]
theorem rk_strAt {t:TypeId} {x y:Operand} {s:ByteArray} {k:IntKind} {z:Int} {b:UInt8} (j:Nat)(ho:o.op=.index t x y)(hx:evS S x=some (.string s))(hy:evS S y=some (.int k z))(hz:z=(j:Int))(hb:s[j]? =some b)(ht:tStr P t=true):Reck P n S o (.int .u8 ((b.toNat:Nat):Int)):=by
 subst hz
 exact fun a w hf=>by simp [execOp,ho,hf.eval hx,hf.eval hy,Instr.index,asIntOf,run_underlying (tStr_run ht),hb]
theorem rk_conv {s t:TypeId} {x:Operand} {k k' k'' : IntKind} {z:Int} (ho:o.op=.convert s t x)(hx:evS S x=some (.int k z))(hs:tInt P s=some k')(ht:tInt P t=some k''):Reck P n S o (.int k'' (k''.wrap z)):=fun a w hf=>by
 simp [execOp,ho,hf.eval hx,convert,run_underlying (Q6F hs),run_underlying (Q6F ht),Conv.intToInt]
theorem rk_neg {t:TypeId} {x:Operand} {k:IntKind} {z:Int} (ho:o.op=.unOp .neg t x)(hx:evS S x=some (.int k z)):Reck P n S o (.int k (k.wrap (0 - z))):=fun a w hf=>by
 simp [execOp,ho,hf.eval hx,Op.unary,Op.intArith]
def fldTy (P:Program)(t k:Nat):Option (Nat×Nat):=match P.underlying t with
 | some (.struct fs)=>(fs[k]?).map fun f=>(f.type,f.offset)
 | _=>none
theorem rk_field {t k u off sz:Nat} {x:Operand} {cs:Array Value} {v:Value} {ag:Bool} (ho:o.op=.field t x k)(hx:evS S x=some (.agg cs))(hk:fldTy P t k=some (u,off))(ha:Q58 P u=some ag)(hs:Q1m P u=some sz)(hv:(if ag=true then some (.agg (cs.extract off (off+sz))) else cs[off]?)=some v):Reck P n S o v:=fun c w hf=>by
 unfold fldTy at hk
 split at hk
 ·rename_i fs hu
  cases hfs:fs[k]? with
  | none=>rw [hfs] at hk;cases hk
  | some f =>
    rw [hfs] at hk
    simp only [Option.map_some,Option.some.injEq,Prod.mk.injEq] at hk
    obtain ⟨rfl,rfl⟩:=hk
    have hp:(part f.type cs f.offset).run P w=.ok v w:=by
     unfold part
     simp only [Sem.run_bind,tAgg_run ha,Result.andThen]
     cases ag with
     | true =>
       simp only [if_true,Sem.run_bind,Q3f hs,Result.andThen] at hv ⊢
       cases hv;rfl
     | false =>
       simp only [Bool.false_eq_true,if_false] at hv ⊢
       rw [hv];rfl
    simp [execOp,ho,hf.eval hx,Instr.field,run_underlying hu,hfs,asAgg,hp]
 · cases hk
end
end Go.Proofs.YtbgodclhmgmcgaaGreatDoor
