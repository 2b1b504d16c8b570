import Derived.Shelf.Strings.Trim
import Derived.Shelf.Small.Utf8
import Derived.Shelf.Small.Bits
import Derived.Shelf.Small.Strs
import Derived.Shelf.Small.Wraps
import Derived.Shelf.Strconv.Itoa0
import Derived.Shelf.Strconv.Itoa1
import Derived.Shelf.LaysM
import Derived.Shelf.Strconv.Itoa2
import Derived.Shelf.Strconv.Itoa3
import Derived.Shelf.Strconv.Itoa4
import Derived.Shelf.Strings.Search1
import Derived.Shelf.Strings.Runes
import Derived.Shelf.Strings.AsciiSet
import Derived.Shelf.Bits.Mul64
import Derived.Shelf.Unicode.DecodeSlow
import Derived.Ground.Names2Prog
import Derived.Shelf.Slices.Clone
import Derived.Shelf.Slices.SearchI
import Derived.Ground.SlgmProg
import Derived.Shelf.SortM.Plain
import Derived.Shelf.SortM.SortNone
import Derived.Laws.BytesArg
import Derived.Laws.BytesString
import Derived.Laws.IdiomStrings
import Derived.Lib.LaidTab
import Derived.Lib.ItoaNum
import Derived.LaidSub
import Derived.Shelf.Strings.SlTrimAscii
import Derived.Deep.Draws
import Derived.Test.YtocfkfhdcnjklaaGreatDoorPool
import Derived.SizedLaws
import Derived.Lib.AppendZeros
import Derived.Defers
import Derived.Recover
namespace Go.Proofs.YtocfkfhdcnjklaaGreatDoor
end Go.Proofs.YtocfkfhdcnjklaaGreatDoor
namespace Go.Proofs
open Go.Shelf
def Tryz.lays160_ren:Go.Shelf.Ren:=⟨λ|160=>181|232=>268|231=>267|227=>269|234=>271|233=>270|236=>273|235=>272|228=>328|271=>331|151=>330|197=>329|120=>359|152=>358|260=>357|137=>180|119=>377|224=>378|225=>379|217=>266|266=>327|n=>n,λ|9=>9|4=>4|3=>3|5=>5|117=>431|116=>430|0=>0|124=>434|21=>21|105=>479|46=>230|119=>507|139=>510|138=>509|n=>n,λ|3=>2|4=>3|n=>n⟩
theorem Tryz.lays160:Go.Proofs.Lays.n160 Tryz.prog Tryz.lays160_ren:={
 mixed:=by kernel_rfl
 f119:=Tryz.func377.trans (congrArg some (by kernel_rfl))
 f120:=Tryz.func359.trans (congrArg some (by kernel_rfl))
 f137:=Tryz.func180.trans (congrArg some (by kernel_rfl))
 f151:=Tryz.func330.trans (congrArg some (by kernel_rfl))
 f152:=Tryz.func358.trans (congrArg some (by kernel_rfl))
 f160:=Tryz.func181.trans (congrArg some (by kernel_rfl))
 f197:=Tryz.func329.trans (congrArg some (by kernel_rfl))
 f217:=Tryz.func266.trans (congrArg some (by kernel_rfl))
 f224:=Tryz.func378.trans (congrArg some (by kernel_rfl))
 f225:=Tryz.func379.trans (congrArg some (by kernel_rfl))
 f227:=Tryz.func269.trans (congrArg some (by kernel_rfl))
 f228:=Tryz.func328.trans (congrArg some (by kernel_rfl))
 f231:=Tryz.func267.trans (congrArg some (by kernel_rfl))
 f232:=Tryz.func268.trans (congrArg some (by kernel_rfl))
 f233:=Tryz.func270.trans (congrArg some (by kernel_rfl))
 f234:=Tryz.func271.trans (congrArg some (by kernel_rfl))
 f235:=Tryz.func272.trans (congrArg some (by kernel_rfl))
 f236:=Tryz.func273.trans (congrArg some (by kernel_rfl))
 f260:=Tryz.func357.trans (congrArg some (by kernel_rfl))
 f266:=Tryz.func327.trans (congrArg some (by kernel_rfl))
 f271:=Tryz.func331.trans (congrArg some (by kernel_rfl))
 t0:=Tryz.underlying0
 a0:=Tryz.isAgg0
 z0:=Tryz.sizeOf0
 v0:=Tryz.zeroValue0
 t3:=Tryz.underlying3
 a3:=Tryz.isAgg3
 z3:=Tryz.sizeOf3
 v3:=Tryz.zeroValue3
 t4:=Tryz.underlying4
 a4:=Tryz.isAgg4
 z4:=Tryz.sizeOf4
 v4:=Tryz.zeroValue4
 t5:=Tryz.underlying5
 a5:=Tryz.isAgg5
 z5:=Tryz.sizeOf5
 v5:=Tryz.zeroValue5
 t9:=Tryz.underlying9
 a9:=Tryz.isAgg9
 z9:=Tryz.sizeOf9
 v9:=Tryz.zeroValue9
 t21:=Tryz.underlying21
 a21:=Tryz.isAgg21
 z21:=Tryz.sizeOf21
 v21:=Tryz.zeroValue21
 t46:=Tryz.underlying230
 a46:=Tryz.isAgg230
 z46:=Tryz.sizeOf230
 v46:=Tryz.zeroValue230
 t105:=Tryz.underlying479
 a105:=Tryz.isAgg479
 z105:=Tryz.sizeOf479
 v105:=Tryz.zeroValue479
 t116:=Tryz.underlying430
 a116:=Tryz.isAgg430
 z116:=Tryz.sizeOf430
 t117:=Tryz.underlying431
 a117:=Tryz.isAgg431
 z117:=Tryz.sizeOf431
 v117:=Tryz.zeroValue431
 t119:=Tryz.underlying507
 a119:=Tryz.isAgg507
 z119:=Tryz.sizeOf507
 t124:=Tryz.underlying434
 a124:=Tryz.isAgg434
 z124:=Tryz.sizeOf434
 v124:=Tryz.zeroValue434
 t138:=Tryz.underlying509
 a138:=Tryz.isAgg509
 z138:=Tryz.sizeOf509
 v138:=Tryz.zeroValue509
 t139:=Tryz.underlying510
 a139:=Tryz.isAgg510
 z139:=Tryz.sizeOf510
 v139:=Tryz.zeroValue510
 g3:=by kernel_rfl
 g4:=by kernel_rfl}
def Tryz.lays137_ren:Go.Shelf.Ren:=⟨λ|137=>180|217=>266|266=>327|n=>n,λ|9=>9|5=>5|3=>3|n=>n,λ|n=>n⟩
theorem Tryz.lays137:Go.Proofs.Lays.n137 Tryz.prog Tryz.lays137_ren:={
 mixed:=by kernel_rfl
 f137:=Tryz.func180.trans (congrArg some (by kernel_rfl))
 f217:=Tryz.func266.trans (congrArg some (by kernel_rfl))
 f266:=Tryz.func327.trans (congrArg some (by kernel_rfl))
 t3:=Tryz.underlying3
 a3:=Tryz.isAgg3
 z3:=Tryz.sizeOf3
 v3:=Tryz.zeroValue3
 t5:=Tryz.underlying5
 a5:=Tryz.isAgg5
 z5:=Tryz.sizeOf5
 v5:=Tryz.zeroValue5
 t9:=Tryz.underlying9
 a9:=Tryz.isAgg9
 z9:=Tryz.sizeOf9
 v9:=Tryz.zeroValue9}
open Go.RowKit in
theorem Tryz.strings_IndexByte (s:ByteArray)(c:Int)(w:World):
 Calls Tryz.prog 180 #[.string s,.int .u8 c] w λe U=>e=.returned (.int .i64 (Lib.indexByte s.data.toList c.toNat.toUInt8))/\U=w:=Any.strings_IndexByte Tryz.lays137 s c w
def Tryz.laysM171_ren:Go.Shelf.Ren:=⟨λ|171=>85|243=>165|246=>258|283=>316|284=>317|285=>318|286=>319|129=>191|317=>350|318=>351|319=>352|320=>353|337=>373|338=>374|n=>n,λ|3=>3|9=>9|2=>2|4=>4|171=>471|0=>0|53=>322|37=>329|5=>5|173=>473|212=>498|51=>320|20=>20|213=>499|46=>230|232=>515|233=>516|n=>n,λ|17=>0|18=>4|19=>5|n=>n⟩
theorem Tryz.laysM171:Go.Proofs.LaysM.n171 Tryz.prog Tryz.laysM171_ren:={
 mixed:=by kernel_rfl
 f129:=Tryz.func191.trans (congrArg some (by kernel_rfl))
 f171:=Tryz.func85.trans (congrArg some (by kernel_rfl))
 f243:=Tryz.func165.trans (congrArg some (by kernel_rfl))
 f246:=Tryz.func258.trans (congrArg some (by kernel_rfl))
 f283:=Tryz.func316.trans (congrArg some (by kernel_rfl))
 f284:=Tryz.func317.trans (congrArg some (by kernel_rfl))
 f285:=Tryz.func318.trans (congrArg some (by kernel_rfl))
 f286:=Tryz.func319.trans (congrArg some (by kernel_rfl))
 f317:=Tryz.func350.trans (congrArg some (by kernel_rfl))
 f318:=Tryz.func351.trans (congrArg some (by kernel_rfl))
 f319:=Tryz.func352.trans (congrArg some (by kernel_rfl))
 f320:=Tryz.func353.trans (congrArg some (by kernel_rfl))
 f337:=Tryz.func373.trans (congrArg some (by kernel_rfl))
 f338:=Tryz.func374.trans (congrArg some (by kernel_rfl))
 t0:=Tryz.underlying0
 a0:=Tryz.isAgg0
 z0:=Tryz.sizeOf0
 v0:=Tryz.zeroValue0
 t2:=Tryz.underlying2
 a2:=Tryz.isAgg2
 z2:=Tryz.sizeOf2
 v2:=Tryz.zeroValue2
 t3:=Tryz.underlying3
 a3:=Tryz.isAgg3
 z3:=Tryz.sizeOf3
 v3:=Tryz.zeroValue3
 t4:=Tryz.underlying4
 a4:=Tryz.isAgg4
 z4:=Tryz.sizeOf4
 v4:=Tryz.zeroValue4
 t5:=Tryz.underlying5
 a5:=Tryz.isAgg5
 z5:=Tryz.sizeOf5
 v5:=Tryz.zeroValue5
 t9:=Tryz.underlying9
 a9:=Tryz.isAgg9
 z9:=Tryz.sizeOf9
 v9:=Tryz.zeroValue9
 t20:=Tryz.underlying20
 a20:=Tryz.isAgg20
 z20:=Tryz.sizeOf20
 v20:=Tryz.zeroValue20
 t37:=Tryz.underlying329
 a37:=Tryz.isAgg329
 z37:=Tryz.sizeOf329
 v37:=Tryz.zeroValue329
 t46:=Tryz.underlying230
 a46:=Tryz.isAgg230
 z46:=Tryz.sizeOf230
 v46:=Tryz.zeroValue230
 t51:=Tryz.underlying320
 a51:=Tryz.isAgg320
 z51:=Tryz.sizeOf320
 v51:=Tryz.zeroValue320
 t53:=Tryz.underlying322
 a53:=Tryz.isAgg322
 z53:=Tryz.sizeOf322
 v53:=Tryz.zeroValue322
 t171:=Tryz.underlying471
 a171:=Tryz.isAgg471
 z171:=Tryz.sizeOf471
 v171:=Tryz.zeroValue471
 t173:=Tryz.underlying473
 a173:=Tryz.isAgg473
 z173:=Tryz.sizeOf473
 v173:=Tryz.zeroValue473
 t212:=Tryz.underlying498
 a212:=Tryz.isAgg498
 z212:=Tryz.sizeOf498
 v212:=Tryz.zeroValue498
 t213:=Tryz.underlying499
 a213:=Tryz.isAgg499
 z213:=Tryz.sizeOf499
 t232:=Tryz.underlying515
 a232:=Tryz.isAgg515
 z232:=Tryz.sizeOf515
 v232:=Tryz.zeroValue515
 t233:=Tryz.underlying516
 a233:=Tryz.isAgg516
 z233:=Tryz.sizeOf516
 v233:=Tryz.zeroValue516
 g17:=by kernel_rfl
 g18:=by kernel_rfl
 g19:=by kernel_rfl
 i0:=by kernel_rfl
 i2:=by kernel_rfl
 i3:=by kernel_rfl
 i4:=by kernel_rfl
 i5:=by kernel_rfl
 i9:=by kernel_rfl
 i20:=by kernel_rfl
 i37:=by kernel_rfl
 i46:=by kernel_rfl
 i51:=by kernel_rfl
 i53:=by kernel_rfl
 i171:=by kernel_rfl
 i173:=by kernel_rfl
 i212:=by kernel_rfl
 i232:=by kernel_rfl
 i233:=by kernel_rfl
 m17:=by kernel_rfl
 m18:=by kernel_rfl
 m19:=by kernel_rfl}
open Go.RowKit Go.Sort Go.Lib in
theorem Tryz.strconv_Itoa (n:Int)(h0:-9223372036854775808<=n)(h1:n<=9223372036854775807)(w:World)(U:Lib.TabIs Tryz.prog w "internal/strconv.uint64pow10" .u64 Lib.pow10Tab):
 Calls Tryz.prog 85 #[.int .i64 n] w λe w'=>e=.returned (.string ⟨(Lib.itoa n).toArray⟩)/\∃k os,w'=grow (w.drewN k) os:=Any.strconv_Itoa Tryz.laysM171 n h0 h1 w U
def Tryz.laysM173_ren:Go.Shelf.Ren:=⟨λ|173=>166|246=>258|283=>316|284=>317|285=>318|286=>319|129=>191|317=>350|318=>351|319=>352|320=>353|337=>373|338=>374|n=>n,λ|2=>2|3=>3|9=>9|4=>4|171=>471|0=>0|53=>322|37=>329|5=>5|173=>473|212=>498|51=>320|20=>20|213=>499|46=>230|232=>515|233=>516|n=>n,λ|17=>0|18=>4|19=>5|n=>n⟩
theorem Tryz.laysM173:Go.Proofs.LaysM.n173 Tryz.prog Tryz.laysM173_ren:={
 mixed:=by kernel_rfl
 f129:=Tryz.func191.trans (congrArg some (by kernel_rfl))
 f173:=Tryz.func166.trans (congrArg some (by kernel_rfl))
 f246:=Tryz.func258.trans (congrArg some (by kernel_rfl))
 f283:=Tryz.func316.trans (congrArg some (by kernel_rfl))
 f284:=Tryz.func317.trans (congrArg some (by kernel_rfl))
 f285:=Tryz.func318.trans (congrArg some (by kernel_rfl))
 f286:=Tryz.func319.trans (congrArg some (by kernel_rfl))
 f317:=Tryz.func350.trans (congrArg some (by kernel_rfl))
 f318:=Tryz.func351.trans (congrArg some (by kernel_rfl))
 f319:=Tryz.func352.trans (congrArg some (by kernel_rfl))
 f320:=Tryz.func353.trans (congrArg some (by kernel_rfl))
 f337:=Tryz.func373.trans (congrArg some (by kernel_rfl))
 f338:=Tryz.func374.trans (congrArg some (by kernel_rfl))
 t0:=Tryz.underlying0
 a0:=Tryz.isAgg0
 z0:=Tryz.sizeOf0
 v0:=Tryz.zeroValue0
 t2:=Tryz.underlying2
 a2:=Tryz.isAgg2
 z2:=Tryz.sizeOf2
 v2:=Tryz.zeroValue2
 t3:=Tryz.underlying3
 a3:=Tryz.isAgg3
 z3:=Tryz.sizeOf3
 v3:=Tryz.zeroValue3
 t4:=Tryz.underlying4
 a4:=Tryz.isAgg4
 z4:=Tryz.sizeOf4
 v4:=Tryz.zeroValue4
 t5:=Tryz.underlying5
 a5:=Tryz.isAgg5
 z5:=Tryz.sizeOf5
 v5:=Tryz.zeroValue5
 t9:=Tryz.underlying9
 a9:=Tryz.isAgg9
 z9:=Tryz.sizeOf9
 v9:=Tryz.zeroValue9
 t20:=Tryz.underlying20
 a20:=Tryz.isAgg20
 z20:=Tryz.sizeOf20
 v20:=Tryz.zeroValue20
 t37:=Tryz.underlying329
 a37:=Tryz.isAgg329
 z37:=Tryz.sizeOf329
 v37:=Tryz.zeroValue329
 t46:=Tryz.underlying230
 a46:=Tryz.isAgg230
 z46:=Tryz.sizeOf230
 v46:=Tryz.zeroValue230
 t51:=Tryz.underlying320
 a51:=Tryz.isAgg320
 z51:=Tryz.sizeOf320
 v51:=Tryz.zeroValue320
 t53:=Tryz.underlying322
 a53:=Tryz.isAgg322
 z53:=Tryz.sizeOf322
 v53:=Tryz.zeroValue322
 t171:=Tryz.underlying471
 a171:=Tryz.isAgg471
 z171:=Tryz.sizeOf471
 v171:=Tryz.zeroValue471
 t173:=Tryz.underlying473
 a173:=Tryz.isAgg473
 z173:=Tryz.sizeOf473
 v173:=Tryz.zeroValue473
 t212:=Tryz.underlying498
 a212:=Tryz.isAgg498
 z212:=Tryz.sizeOf498
 v212:=Tryz.zeroValue498
 t213:=Tryz.underlying499
 a213:=Tryz.isAgg499
 z213:=Tryz.sizeOf499
 t232:=Tryz.underlying515
 a232:=Tryz.isAgg515
 z232:=Tryz.sizeOf515
 v232:=Tryz.zeroValue515
 t233:=Tryz.underlying516
 a233:=Tryz.isAgg516
 z233:=Tryz.sizeOf516
 v233:=Tryz.zeroValue516
 g17:=by kernel_rfl
 g18:=by kernel_rfl
 g19:=by kernel_rfl
 i0:=by kernel_rfl
 i2:=by kernel_rfl
 i3:=by kernel_rfl
 i4:=by kernel_rfl
 i5:=by kernel_rfl
 i9:=by kernel_rfl
 i20:=by kernel_rfl
 i37:=by kernel_rfl
 i46:=by kernel_rfl
 i51:=by kernel_rfl
 i53:=by kernel_rfl
 i171:=by kernel_rfl
 i173:=by kernel_rfl
 i212:=by kernel_rfl
 i232:=by kernel_rfl
 i233:=by kernel_rfl
 m17:=by kernel_rfl
 m18:=by kernel_rfl
 m19:=by kernel_rfl}
open Go.RowKit Go.Sort Go.Lib in
theorem Tryz.strconv_FormatInt_10 (n:Int)(h0:-9223372036854775808<=n)(h1:n<=9223372036854775807)(w:World)(U:Lib.TabIs Tryz.prog w "internal/strconv.uint64pow10" .u64 Lib.pow10Tab):
 Calls Tryz.prog 166 #[.int .i64 n,.int .i64 10] w λe w'=>e=.returned (.string ⟨(Lib.itoa n).toArray⟩)/\∃k os,w'=grow (w.drewN k) os:=Any.strconv_FormatInt_10 Tryz.laysM173 n h0 h1 w U
def Tryz.lays264_ren:Go.Shelf.Ren:=⟨λ|264=>380|n=>n,λ|53=>322|46=>230|n=>n,λ|n=>n⟩
theorem Tryz.lays264:Go.Proofs.Lays.n264 Tryz.prog Tryz.lays264_ren:={
 mixed:=by kernel_rfl
 f264:=Tryz.func380.trans (congrArg some (by kernel_rfl))
 t46:=Tryz.underlying230
 a46:=Tryz.isAgg230
 z46:=Tryz.sizeOf230
 v46:=Tryz.zeroValue230
 t53:=Tryz.underlying322
 a53:=Tryz.isAgg322
 z53:=Tryz.sizeOf322
 v53:=Tryz.zeroValue322}
open Go.RowKit Go.Lib in
theorem Tryz.bits_Mul64 (x y:Nat)(U:x<18446744073709551616)(hy:y<18446744073709551616)(w:World):
 Calls Tryz.prog 380 #[.int .u64 x,.int .u64 y] w λe w'=>e=.returned (.tuple #[.int .u64 ((x*y/18446744073709551616:Nat):Int),.int .u64 ((x*y%18446744073709551616:Nat):Int)])/\w'=w:=Any.bits_Mul64 Tryz.lays264 x y U hy w
end Go.Proofs
namespace Go.Proofs.YtocfkfhdcnjklaaGreatDoor
section
open Go Go.RowKit
theorem wa {P:Program} {f:FuncId} {args:List Value} {v:Value} (h:∀w,Calls P f args.toArray w λe U=>e=.returned v/\Below w.heap.size w U):QB P f args [] [] (λu bo Hr=>u=v/\bo=[]/\Hr=[]):=by
 intro F N w hF _ _ _ _;refine(h w).mono λe U ⟨he,hb⟩=>⟨v,[],[],he,⟨rfl,rfl,rfl⟩,?_⟩
 have h0:Qj ⟨w,λk=>∃i,i<([]:List Fact).length/\N i k,F⟩ [] [] w:=
  ⟨F,N,hF,λ_ h=>h,λ_ h=>.inl h,λφ bj=>(by cases bj),λi φ h=>(by simp at h),λi k hi=>(by simp at hi),λi j k hi=>(by simp at hi),Mod.refl _ _⟩
 exact h0.drew' hb
theorem wb {P:Program} {f:FuncId} {args:List Value} {v:Value} (h:∀w,Calls P f args.toArray w λe U=>e=.returned v/\U=w):QB P f args [] [] (λu bo Hr=>u=v/\bo=[]/\Hr=[]):=
 wa λw=>(h w).mono λe U ⟨he,hw⟩=>⟨he,hw▸Below.refl _ _⟩
end
section
open Go Go.RowKit
def Ln (P:Program)(name:String)(k:IntKind)(zs:List Int)(g:Nat)(hg:P.globalNamed name=some g):Fact:=
 .raw (λN w=>N g/\Lib.TabIs P w name k zs) (λU ha h=>⟨U _ h.1,by
  have:=h.2;unfold Lib.TabIs World.var? at this⊢;rw[hg]at this⊢;simp only[Option.bind_some]at this⊢;rw[ha g h.1];exact this⟩)
theorem OE {P:Program} {W:World} {name:String} {k:IntKind} {zs:List Int} {g:Nat} {U:P.globalNamed name=some g} (h:Lib.TabIs P W name k zs):(Ln P name k zs g U).p (λk=>k<W.heap.size) W:=by
 refine⟨?_,h⟩;unfold Lib.TabIs World.var? at h;rw[U]at h;simp only[Option.bind_some]at h;cases hb:W.heap[g]? with
 |none=>rw[hb]at h;cases h
 |some o=>exact(Array.getElem?_eq_some_iff.1 hb).1
theorem Ba {P:Program} {f:FuncId} {args:List Value} {v:Value} {name:String} {k:IntKind} {zs:List Int} {g:Nat} {hg:P.globalNamed name=some g} (h:∀w,Lib.TabIs P w name k zs->Calls P f args.toArray w λe U=>e=.returned v/\Below w.heap.size w U):QB P f args [Ln P name k zs g hg] [] (λu bo Hr=>u=v/\bo=[]/\Hr=[]):=by
 intro F N w hF ec _ _ _;have ht:Lib.TabIs P w name k zs:=(ec _ (List.mem_singleton.2 rfl)).2;refine(h w ht).mono λe U ⟨he,hb⟩=>⟨v,[],[],he,⟨rfl,rfl,rfl⟩,?_⟩
 have h0:Qj ⟨w,λk=>∃i,i<([]:List Fact).length/\N i k,F⟩ [] [] w:=
  ⟨F,N,hF,λ_ h=>h,λ_ h=>.inl h,λφ bj=>(by cases bj),λi φ h=>(by simp at h),λi k hi=>(by simp at hi),λi j k hi=>(by simp at hi),Mod.refl _ _⟩
 exact h0.drew' hb
theorem Qbm (w:World):∀n,Below w.heap.size w (w.drewN n)
 |0=>Below.refl _ _
 |n+1=>(Qbm w n).drew
def jl:Nat->Nat->List UInt8
 |0,_=>[]
 |f+1,u=>if u<10 then[UInt8.ofNat (48+u)]else jl f (u/10)++[UInt8.ofNat (48+u%10)]
theorem xv:∀(f u:Nat),u<10^f->0<f->jl f u=Lib.decDigits u
 |0,_,_,h=>an
 | f+1,u,h,_=>by
   unfold jl;rw[Lib.decDigits];split;· rfl
   ·rename_i hu;cases f with
    |zero=>simp at h;omega
    | succ f=>
      rw[xv (f+1) (u/10) (by rw[Nat.pow_succ]at h;omega) an]
def uz (n:Int):ByteArray:=⟨(if n<0 then 45::jl 20 n.natAbs else jl 20 n.toNat).toArray⟩
theorem Au {n:Int} (h:-9223372036854775808<=n/\n<=9223372036854775807):(⟨(Lib.itoa n).toArray⟩:ByteArray)=uz n:=by
 have e:(10:Nat)^20=100000000000000000000:=bf
 unfold uz Lib.itoa;split;· rw[xv 20 _ (by rw[e];omega) an]
 · rw[xv 20 _ (by rw[e];omega) an]
end
section
open Go Go.RowKit
theorem yo (s:ByteArray)(c:Int):QB Tryz.prog 180 [.string s,.int .u8 c] [] [] (λu U Hr=>u=.int .i64 (Lib.indexByte s.data.toList c.toNat.toUInt8)/\U=[]/\Hr=[]):=wb λw=>Tryz.strings_IndexByte s c w
theorem Ow (s c:ByteArray)(hc:c.size<4294967281)(ha:∀(j:Nat) b,c.data.toList[j]? =some b->b.toNat<128)(hs:s.size<=9223372036854775807):QB Tryz.prog 181 [.string s,.string c] [] [] (λu U Hr=>u=.string ⟨(Lib.trimS s.data.toList c.data.toList).toArray⟩/\U=[]/\Hr=[]):=wa λw=>Any.strings_Trim_laid Tryz.lays160 au s c w hs hc ha
theorem KM (x y:Int)(hx:0<=x/\x<18446744073709551616)(hy:0<=y/\y<18446744073709551616):QB Tryz.prog 380 [.int .u64 x,.int .u64 y] [] [] (λu U Hr=>u=.tuple #[.int .u64 ((x.toNat*y.toNat/18446744073709551616:Nat):Int),.int .u64 ((x.toNat*y.toNat%18446744073709551616:Nat):Int)]/\U=[]/\Hr=[]):=wb λw=>by
 obtain⟨a,rfl⟩:=Int.eq_ofNat_of_zero_le hx.1;obtain⟨b,rfl⟩:=Int.eq_ofNat_of_zero_le hy.1;simp only[Int.toNat_natCast];exact Tryz.bits_Mul64 a b an an w
theorem rf:Tryz.prog.globalNamed "internal/strconv.uint64pow10" =some 0:=au
abbrev tF:Fact:=Ln Tryz.prog "internal/strconv.uint64pow10" .u64 Lib.pow10Tab 0 rf
theorem yn (n:Int)(h:-9223372036854775808<=n/\n<=9223372036854775807):QB Tryz.prog 166 [.int .i64 n,.int .i64 10] [Ln Tryz.prog "internal/strconv.uint64pow10" .u64 Lib.pow10Tab 0 rf] [] (λu bo Hr=>u=.string (uz n)/\bo=[]/\Hr=[]):=by
 rw[<-Au h];refine Ba λw ht=>(Tryz.strconv_FormatInt_10 n h.1 h.2 w ht).mono λe w' ⟨he,k,os,hw⟩=>⟨he,?_⟩
 subst hw;have h1:=Qbm w k
 exact ⟨h1.os,h1.tape,h1.output,Nat.le_trans h1.size (by simp[Go.Sort.grow]),λq U=>by
  have h2:=h1.block q U;have h3:q<(w.drewN k).heap.size:=Nat.lt_of_lt_of_le U h1.size;simp only[Go.Sort.grow];rw[Array.getElem?_append_left h3];exact h2⟩
theorem Ov (n:Int)(h:-9223372036854775808<=n/\n<=9223372036854775807):QB Tryz.prog 85 [.int .i64 n] [Ln Tryz.prog "internal/strconv.uint64pow10" .u64 Lib.pow10Tab 0 rf] [] (λu bo Hr=>u=.string (uz n)/\bo=[]/\Hr=[]):=by
 rw[<-Au h];refine Ba λw ht=>(Tryz.strconv_Itoa n h.1 h.2 w ht).mono λe w' ⟨he,k,os,hw⟩=>⟨he,?_⟩
 subst hw;have h1:=Qbm w k
 exact ⟨h1.os,h1.tape,h1.output,Nat.le_trans h1.size (by simp[Go.Sort.grow]),λq U=>by
  have h2:=h1.block q U;have h3:q<(w.drewN k).heap.size:=Nat.lt_of_lt_of_le U h1.size;simp only[Go.Sort.grow];rw[Array.getElem?_append_left h3];exact h2⟩
end
section
open Go Go.RowKit Go.Deep
theorem Vo {k:IntKind} {n:Int} (h:(Lit.int k n).wf=true):r5 k n:=by
 simp only[Lit.wf,Bool.and_eq_true,decide_eq_true_eq]at h;exact h
theorem NX {x:Int} (h:r5 .i64 x):-9223372036854775808<=x/\x<=9223372036854775807:=by
 have U:IntKind.min .i64=-9223372036854775808:=bf
 have e2:IntKind.max .i64=9223372036854775807:=bf
 unfold r5 at h;rwa [U,e2]at h
section
variable {H:Type} {enc:TypeId×Value->H} {P:Program} {w:World} {base:Nat} {spare:Nat->Bool} {held:Bool} {fuel:Nat} {cs:List Value} {y:DataW H×List MemPlace}
def Y5 (P:Program)(t:TypeId)(d:DataW H):Prop:=∀n∈d.weights P t,n<=reachBytes
theorem zM {ts:List TypeId} {ds:List (DataW H)} (h:(DataW.weightsEach P ts ds).all (·<=reachBytes)=true)(j:Nat) {t:TypeId} {d:DataW H} (ht:ts[j]? =some t)(U:ds[j]? =some d):Y5 P t d:=λn hn=>by
 have:=List.all_eq_true.1 h n (DataW.weights_mem_each ht U n hn);simpa using this
theorem tn {r:Reach} {b t:Nat} {v:Value} {k:IntKind} (U:P.underlying t=some (.int k))(h:Value.okWide P w r b t v):v.cells.toList=[v]:=by
 unfold Value.okWide at h;rw[U]at h;unfold Cell.okWide at h;rw[U]at h;unfold Cell.ok at h;rw[U]at h;cases v<;>first|rfl|(simp at h)
end
end
section
open Go Go.RowKit Go.Deep
section
variable {α Λ:Type} (C:α->Option Addr×Nat->List Value) (kids:α->List α) (sz:Nat) (one:∀x r,∀u∈C x r,u.oneCell'=true)
def uQ:Nat->eO α
 |0=>⟨λ_ _ _ _=>False,λ_ _ h=>h,λh=>h.elim⟩
 |n+1=>Em C (λx r=>[.sli sz (uQ n) r.1 r.2 (kids x)]) one
def AV:eO α:=⟨λF w cs x=>∃n,(uQ C kids sz one n).p F w cs x,λU ha ⟨n,h⟩=>⟨n,(uQ C kids sz one n).good U ha h⟩,λ⟨n,h⟩=>(uQ C kids sz one n).one h⟩
end
section
variable {α:Type} {C:α->Option Addr×Nat->List Value} {kids:α->List α} {sz:Nat} {one:∀x r,∀u∈C x r,u.oneCell'=true}
theorem oR:∀{n m:Nat} {F:eh} {w:World} {cs:List Value} {x:α},n<=m->(uQ C kids sz one n).p F w cs x->(uQ C kids sz one m).p F w cs x
 |0,_,_,_,_,_,_,h=>h.elim
 |n+1,0,_,_,_,_,hm,_=>an
 | n +1,m+1,F,w,cs,x,hm,⟨r,h1,h2⟩=>⟨r,h1,λφ U=>by
     simp only[List.mem_cons,List.not_mem_nil,or_false]at U;subst U;exact Fj (R:=uQ C kids sz one n) (h2 _ (List.mem_cons_self)) (λcs x hr=>oR an hr)⟩
theorem GU:qg (AV C kids sz one) C (λ_ _=>True) (λx r=>[.sli sz (AV C kids sz one) r.1 r.2 (kids x)]):=λF w cs x ⟨n,h⟩=>by
 cases n with
 |zero=>exact h.elim
 | succ n=>
   obtain⟨r,h1,U⟩:=h;exact⟨r,h1,trivial,pt (Fj (R:=uQ C kids sz one n) (U _ (List.mem_cons_self)) (λcs x hr=>⟨n,hr⟩)) QL⟩
theorem se {F:eh} {w:World}:∀{l:List α} {U:List Value},fZ sz ((AV C kids sz one).p F w) U l->∃n,fZ sz ((uQ C kids sz one n).p F w) U l
 |[],U,h=>⟨0,h⟩
 | x::l,U,⟨cs,rest,e1,e2,⟨n,e3⟩,e4⟩=>by
   obtain⟨m,hm⟩:=se e4;exact⟨max n m,cs,rest,e1,e2,oR (Nat.le_max_left _ _) e3,hm.mono λcs x _ hr=>oR (Nat.le_max_right _ _) hr⟩
theorem AW {F:eh} {w:World} {x:α} {cs:List Value} (r:Option Addr×Nat)(qW:cs=C x r)(h:∀φ∈([.sli sz (AV C kids sz one) r.1 r.2 (kids x)]:List Fact),φ.p F w):(AV C kids sz one).p F w cs x:=by
 obtain⟨p,n,c,xs,hv,hn,hc,hm,U,eX⟩:=(h (.sli sz (AV C kids sz one) r.1 r.2 (kids x)) List.mem_cons_self:G5 F w sz ((AV C kids sz one).p F w) (.slice r.1 (kids x).length r.2) (kids x))
 obtain⟨m,U⟩:=se U;exact⟨m+1,r,qW,pt (⟨p,n,c,xs,hv,hn,hc,hm,U,eX⟩:G5 F w sz ((uQ C kids sz one m).p F w) (.slice r.1 (kids x).length r.2) (kids x)) QL⟩
end
end
section
open Go.RowKit
abbrev MK (k z:Int):Int:=IntKind.wrap .i64 ((IntKind.wrap .i64 (1000003*(IntKind.wrap .i64 (k+7))))+z)
abbrev WI (x:Int):Prop:=-9223372036854775808<=x/\x<=9223372036854775807
abbrev WN (x:Nat):Prop:=x<=9223372036854775807
structure Q7 where
 name:ByteArray
 fields:Int
def Qbh (x:Q7)(_:Unit):List Value:=[.string x.name,.int .i64 x.fields]
def pr (_:Q7)(_:Unit):List Fact:=[]
def Qd:eO Q7:=Em Qbh pr (by intro x r u hu;simp[Qbh]at hu;rcases hu with rfl|rfl<;>rfl)
theorem Q5I:qg Qd Qbh (λ_ _=>True) pr:=Hp
def C_V (x:V)(_:Unit):List Value:=[.int .u8 x.k,.int .i64 x.n,.string x.s]
def F_V (_:V)(_:Unit):List Fact:=[]
def dq:eO V:=Em C_V F_V (by intro x r u hu;simp[C_V]at hu;rcases hu with rfl|rfl|rfl<;>rfl)
theorem MB:qg dq C_V (λ_ _=>True) F_V:=Hp
def wG (x:Qq)(r:Option Addr×Nat):List Value:=[.int .i64 x.id,.int .i64 x.ty,.slice r.1 x.args.length r.2]
def Ea (x:Qq)(r:Option Addr×Nat):List Fact:=[.sli 3 dq r.1 r.2 x.args]
def j9:eO Qq:=Em wG Ea (by intro x r u hu;simp[wG]at hu;rcases hu with rfl|rfl|rfl<;>rfl)
theorem VQ:qg j9 wG (λ_ _=>True) Ea:=Hp
def Cl (x:Bool)(_:Unit):List Value:=[.bool x]
def HY (_:Bool)(_:Unit):List Fact:=[]
def Qf:eO Bool:=Em Cl HY (by intro x r u hu;simp[Cl]at hu;subst hu;rfl)
theorem LN:qg Qf Cl (λ_ _=>True) HY:=Hp
structure Q4 where
 kind:Int
 value:V
 var:Int
 op:Int
 kids:List Q4
structure Qp where
 kind:Int
 type:Int
 args:List eN
 test:Q4
def Ck (x:eN)(_:Unit):List Value:=[.int .u8 x.k,.int .i64 x.var,.int .u8 x.v.k,.int .i64 x.v.n,.string x.v.s]
def HX (_:eN)(_:Unit):List Fact:=[]
def il:eO eN:=Em Ck HX (by intro x r u hu;simp[Ck]at hu;rcases hu with rfl|rfl|rfl|rfl|rfl<;>rfl)
theorem Xy:qg il Ck (λ_ _=>True) HX:=Hp
def Qbf (x:Q4)(r:Option Addr×Nat):List Value:=[.int .u8 x.kind,.int .u8 x.value.k,.int .i64 x.value.n,.string x.value.s,.int .i64 x.var,.int .u8 x.op,.slice r.1 x.kids.length r.2]
def Qm:eO Q4:=AV Qbf (λx=>x.kids) 7 (by intro x r u hu;simp[Qbf]at hu;rcases hu with rfl|rfl|rfl|rfl|rfl|rfl|rfl<;>rfl)
def zc (x:Q4)(r:Option Addr×Nat):List Fact:=[.sli 7 Qm r.1 r.2 x.kids]
theorem Vy:qg Qm Qbf (λ_ _=>True) zc:=GU
def Qbe (x:Qp)(r:(Option Addr×Nat)×(Option Addr×Nat)):List Value:=[.int .u8 x.kind,.int .i64 x.type,.slice r.1.1 x.args.length r.1.2,.int .u8 x.test.kind,.int .u8 x.test.value.k,.int .i64 x.test.value.n,.string x.test.value.s,.int .i64 x.test.var,.int .u8 x.test.op,.slice r.2.1 x.test.kids.length r.2.2]
def po (x:Qp)(r:(Option Addr×Nat)×(Option Addr×Nat)):List Fact:=[.sli 5 il r.1.1 r.1.2 x.args,.sli 7 Qm r.2.1 r.2.2 x.test.kids]
def BQ:eO Qp:=Em Qbe po (by intro x r u hu;simp[Qbe]at hu;rcases hu with rfl|rfl|rfl|rfl|rfl|rfl|rfl|rfl|rfl|rfl<;>rfl)
theorem Q9w:qg BQ Qbe (λ_ _=>True) po:=Hp
structure wV where
 kind:Int
 type:Int
 which:Int
 exprs:List Q4
structure Qa where
 name:ByteArray
 salience:Int
 vars:Int
 conds:List Qp
 acts:List wV
def kP (x:wV)(r:Option Addr×Nat):List Value:=[.int .u8 x.kind,.int .i64 x.type,.int .i64 x.which,.slice r.1 x.exprs.length r.2]
def rE (x:wV)(r:Option Addr×Nat):List Fact:=[.sli 7 Qm r.1 r.2 x.exprs]
def Cw:eO wV:=Em kP rE (by intro x r u hu;simp[kP]at hu;rcases hu with rfl|rfl|rfl|rfl<;>rfl)
theorem oe:qg Cw kP (λ_ _=>True) rE:=Hp
def Qbg (x:Qa)(r:(Option Addr×Nat)×(Option Addr×Nat)):List Value:=[.string x.name,.int .i64 x.salience,.int .i64 x.vars,.slice r.1.1 x.conds.length r.1.2,.slice r.2.1 x.acts.length r.2.2]
def pq (x:Qa)(r:(Option Addr×Nat)×(Option Addr×Nat)):List Fact:=[.sli 10 BQ r.1.1 r.1.2 x.conds,.sli 4 Cw r.2.1 r.2.2 x.acts]
def Qe:eO Qa:=Em Qbg pq (by intro x r u hu;simp[Qbg]at hu;rcases hu with rfl|rfl|rfl|rfl|rfl<;>rfl)
theorem Q7g:qg Qe Qbg (λ_ _=>True) pq:=Hp
structure QA where
 rule:Int
 ids:List Int
def z7 (x:Int)(_:Unit):List Value:=[.int .i64 x]
def OR (_:Int)(_:Unit):List Fact:=[]
def jh:eO Int:=Em z7 OR (by intro x r u hu;simp[z7]at hu;subst hu;rfl)
theorem Q9x:qg jh z7 (λ_ _=>True) OR:=Hp
def Xx (x:QA)(r:Option Addr×Nat):List Value:=[.int .i64 x.rule,.slice r.1 x.ids.length r.2]
def ma (x:QA)(r:Option Addr×Nat):List Fact:=[.sli 1 jh r.1 r.2 x.ids]
def qK:eO QA:=Em Xx ma (by intro x r u hu;simp[Xx]at hu;rcases hu with rfl|rfl<;>rfl)
theorem Q6T:qg qK Xx (λ_ _=>True) ma:=Hp
def wQ (x:QA)(r:Option Addr×Nat):List Fact:=[.own 3 1 jh (.slice r.1 x.ids.length r.2) x.ids]
def BO:G6 QA (Option Addr×Nat):=⟨Xx,wQ,by intro x r u hu;simp[Xx]at hu;rcases hu with rfl|rfl<;>rfl⟩
theorem mn:∀x r N F w,ml (BO.G x r) N F w->qK.p (λq=>N q\/F q) w (BO.C x r) x:=by
 rintro x r N F w ⟨A0,B0,a0,b0,h0,_⟩;exact⟨r,rfl,pt (Uw h0 (λq U=>.inl (a0 q U)) (λ_ U=>.inr U)) (QL)⟩
def GQ (x:V):Prop:=r5 .u8 x.k/\r5 .i64 x.n/\x.s.size<=140737488351232
def Od (x:eN):Prop:=r5 .u8 x.k/\r5 .i64 x.var/\GQ x.v
inductive cw:Q4->Prop
 |mk (x:Q4) (h0:r5 .u8 x.kind) (h1:GQ x.value) (h2:r5 .i64 x.var) (h3:r5 .u8 x.op) (h4:x.kids.length<=1759218604390) (g4:∀y∈x.kids,cw y):cw x
def mZ (x:Qp):Prop:=r5 .u8 x.kind/\r5 .i64 x.type/\(x.args.length<=2932031007317/\∀y∈x.args,Od y)/\cw x.test
def AO (x:wV):Prop:=r5 .u8 x.kind/\r5 .i64 x.type/\r5 .i64 x.which/\(x.exprs.length<=1759218604390/\∀y∈x.exprs,cw y)
def yc (x:Qa):Prop:=x.name.size<=140737488351232/\r5 .i64 x.salience/\r5 .i64 x.vars/\(x.conds.length<=1172812402926/\∀y∈x.conds,mZ y)/\(x.acts.length<=2932031007317/\∀y∈x.acts,AO y)
end
section
open Go.RowKit
def Q80 (_:Nat)(h:ByteArray):Option (Bool):=if(!(h.toList==(⟨#[]⟩:ByteArray).toList))=true then(if(decide (h.size<=24))=true then(Qg (h[0]?) λq=>if(decide ((Lib.indexByte (⟨#[97,98,99,100,101,102,103,104,105,106,107,108,109,110,111,112,113,114,115,116,117,118,119,120,121,122]⟩:ByteArray).data.toList ((q.toNat:Int)).toNat.toUInt8)>=0))=true then(gd (WN h.size)<|some ((⟨(Lib.trimS h.data.toList (⟨#[97,98,99,100,101,102,103,104,105,106,107,108,109,110,111,112,113,114,115,116,117,118,119,120,121,122,48,49,50,51,52,53,54,55,56,57,95]⟩:ByteArray).data.toList).toArray⟩:ByteArray).toList==(⟨#[]⟩:ByteArray).toList))else(some false))else(some false))else(some false)
def Xv (N:Nat)(q:ByteArray):Option (Bool):=Qg (Q80 N q) λh=>some h
def yL (N:Nat)(q:Int)(z:Int)(s:ByteArray):Option (Bool):=if(q==1)=true then(some (s.toList==(⟨#[]⟩:ByteArray).toList))else(if(q==2)=true then(if(z==0)=true then(Qg (Xv N s) λh=>some h)else(some false))else(some false))
def VR (N:Nat)(h:ByteArray):Option (Bool):=Qg (yL N 2 0 h) λq=>some q
def Q4z (_:Nat)(_:ByteArray)(_:Int)(_:ByteArray):Option (Unit):=some ()
def WY (N:Nat)(s:List Q7)(z:ByteArray):Nat->Option (Nat⊕(Unit⊕Int)):=λh=>if(decide (h<s.length))=true then(Qg (s[h]?) λq=>Qg (Q4z N q.name q.fields z) λ_=>if(q.name.toList==z.toList)=true then(some (.inr (.inr (h:Int))))else(gd (WN (h+1))<|some (.inl (h+1))))else(some (.inr (.inl ())))
def Q3Q (N:Nat)(h:List Q7)(q:ByteArray):Option (Int):=ji (fk (WY N h q) N 0) λ_=>some (-1)
def Xb (N:Nat)(q:List Q7)(_:List Qa)(_:Int)(_:Int)(s:ByteArray):Option (Int):=Qg (Q3Q N q s) λh=>some h
def Q4A (_:Nat)(_:ByteArray)(_:Int)(_:Int)(_:List Qp)(_:List wV)(_:ByteArray):Option (Unit):=some ()
def WW (N:Nat)(s:List Qa)(z:ByteArray):Nat->Option (Nat⊕(Unit⊕Int)):=λh=>if(decide (h<s.length))=true then(Qg (s[h]?) λq=>Qg (Q4A N q.name q.salience q.vars q.conds q.acts z) λ_=>if(q.name.toList==z.toList)=true then(some (.inr (.inr (h:Int))))else(gd (WN (h+1))<|some (.inl (h+1))))else(some (.inr (.inl ())))
def Q3P (N:Nat)(h:List Qa)(q:ByteArray):Option (Int):=ji (fk (WW N h q) N 0) λ_=>some (-1)
def Xc (N:Nat)(_:List Q7)(q:List Qa)(_:Int)(_:Int)(s:ByteArray):Option (Int):=Qg (Q3P N q s) λh=>some h
def VG (_:Nat)(s:List Q7)(_:List Qa)(_:Int)(_:Int)(h:Int)(z:Int):Option (Bool):=if(decide (h>=0))=true then(if(decide (h<(s.length:Int)))=true then(gd (0<=h)<|Qg (s[h.toNat]?) λq=>some (q.fields==z))else(some false))else(some false)
def Q7Y (_:Nat)(a7:Bool)(z:Bool)(h:Bool)(q:Int)(s:List Q4)(a4:Int)(U:Int)(a2:Int)(a3:ByteArray):Option (Bool):=if a7=true then(if z=true then(if h=true then(some true)else(if(q==0)=true then(some (s.length==0))else(some false)))else(if(a4==0)=true then(if h=true then(some true)else(if(q==0)=true then(some (s.length==0))else(some false)))else(some false)))else(if(decide ((⟨U,a2,a3⟩:V)=(⟨0,0,(⟨#[]⟩:ByteArray)⟩:V)))=true then(if z=true then(if h=true then(some true)else(if(q==0)=true then(some (s.length==0))else(some false)))else(if(a4==0)=true then(if h=true then(some true)else(if(q==0)=true then(some (s.length==0))else(some false)))else(some false)))else(some false))
def P1 (N:Nat)(_:Int)(q:Int)(s:Int)(z:ByteArray)(a4:Int)(a5:Int)(l6:List Q4)(U:Bool)(a8:Bool)(a9:Bool):Option (Bool):=Qg (Q7Y N U a8 a9 a5 l6 a4 q s z) λh=>some h
def Xj (N:Nat)(_:List Q7)(_:List Qa)(h:Int)(_:Int)(s:Int)(q:Int)(z:Int)(U:Int)(a8:ByteArray)(a9:Bool):Option (Bool×Int):=if(s==1)=true then(if(q==0)=true then(some ((decide ((⟨z,U,a8⟩:V)=(⟨0,0,(⟨#[]⟩:ByteArray)⟩:V))),h))else(some (false,h)))else(if(s==2)=true then(gd (WI (h+1))<|if a9=true then(gd (WI ((h+1)-1))<|if(q==((h+1)-1))=true then(some ((decide ((⟨z,U,a8⟩:V)=(⟨0,0,(⟨#[]⟩:ByteArray)⟩:V))),h+1))else(some (false,h+1)))else(some (false,h+1)))else(if(s==3)=true then(if(decide (q>=0))=true then(if(decide (q<h))=true then(some ((decide ((⟨z,U,a8⟩:V)=(⟨0,0,(⟨#[]⟩:ByteArray)⟩:V))),h))else(some (false,h)))else(some (false,h)))else(if(s==4)=true then(if(q==0)=true then(Qg (yL N z U a8) λaA=>some (aA,h))else(some (false,h)))else(some (false,h)))))
def Q3I (_:Nat)(rc:(List Q7)->(List Qa)->Int->Int->Int->Int->Int->ByteArray->Int->Int->(List Q4)->Option (Bool))(q:Int)(s:Int)(z:Int)(a3:ByteArray)(a4:Int)(a5:Int)(U:List Q4)(l7:List Q7)(l8:List Qa)(a9:Int)(h:Int):Option (Bool):=Qg (rc l7 l8 a9 h q s z a3 a4 a5 U) λv6=>some (!v6)
def WT (N:Nat)(U:List Q4)(rc:(List Q7)->(List Qa)->Int->Int->Int->Int->Int->ByteArray->Int->Int->(List Q4)->Option (Bool))(l1:List Q7)(l2:List Qa)(a3:Int)(a4:Int):Nat->Option (Nat⊕(Unit⊕Int)):=λh=>if(decide (h<U.length))=true then(Qg (U[h]?) λq=>Qg (Q3I N rc q.kind q.value.k q.value.n q.value.s q.var q.op q.kids l1 l2 a3 a4) λz=>if z=true then(some (.inr (.inr (h:Int))))else(gd (WN (h+1))<|some (.inl (h+1))))else(some (.inr (.inl ())))
def Q33 (N:Nat)(rc:(List Q7)->(List Qa)->Int->Int->Int->Int->Int->ByteArray->Int->Int->(List Q4)->Option (Bool))(h:List Q4)(q:List Q7)(l2:List Qa)(s:Int)(z:Int):Option (Int):=ji (fk (WT N h rc q l2 s z) N 0) λ_=>some (-1)
def Q2w (N:Nat)(rc:(List Q7)->(List Qa)->Int->Int->Int->Int->Int->ByteArray->Int->Int->(List Q4)->Option (Bool))(h:List Q4)(q:List Q7)(l2:List Qa)(s:Int)(z:Int):Option (Bool):=Qg (Q33 N rc h q l2 s z) λU=>some (decide (U>=0))
def X2 (N:Nat)(rc:(List Q7)->(List Qa)->Int->Int->Int->Int->Int->ByteArray->Int->Int->(List Q4)->Option (Bool))(h:List Q7)(q:List Qa)(s:Int)(z:Int)(U:List Q4):Option (Bool):=Qg (Q2w N rc U h q s z) λv7=>some (!v7)
def Q4D (_:Nat)(q:Int):Option (Nat):=Qg (if(q==4)=true then(some true)else(some (q==11))) λh=>if h=true then(some 1)else(some 2)
def Q5P (N:Nat)(a4:Int)(a5:Int)(U:Int)(a7:ByteArray)(a8:Int)(s:Int)(h:List Q4)(q:Nat)(rc:(List Q7)->(List Qa)->Int->Int->Int->Int->Int->ByteArray->Int->Int->(List Q4)->Option (Bool))(l0:List Q7)(l1:List Qa)(a2:Int)(a3:Int):Option (Bool):=Qg (P1 N a4 a5 U a7 a8 s h false false true) λz=>if z=true then(if(decide (s>=1))=true then(if(decide (s<=11))=true then(if(h.length==q)=true then(Qg (X2 N rc l0 l1 a2 a3 h) λa0=>some a0)else(some false))else(some false))else(some false))else(some false)
def X6 (N:Nat)(rc:(List Q7)->(List Qa)->Int->Int->Int->Int->Int->ByteArray->Int->Int->(List Q4)->Option (Bool))(l0:List Q7)(l1:List Qa)(a2:Int)(a3:Int)(z:Int)(a5:Int)(a6:Int)(a7:ByteArray)(U:Int)(a9:Int)(h:List Q4):Option (Bool):=if(z==1)=true then(Qg (P1 N z a5 a6 a7 U a9 h true false false) λaD=>if aD=true then(Qg (yL N a5 a6 a7) λaE=>some aE)else(some false))else(if(z==2)=true then(Qg (P1 N z a5 a6 a7 U a9 h false true false) λaG=>if aG=true then(if(decide (U>=0))=true then(some (decide (U<a2)))else(some false))else(some false))else(if(z==3)=true then(Qg (Q4D N a9) λq=>Qg (Q5P N z a5 a6 a7 U a9 h q rc l0 l1 a2 a3) λs=>some s)else(some false)))
def OY:Nat->(List Q7)->(List Qa)->Int->Int->Int->Int->Int->ByteArray->Int->Int->(List Q4)->Option (Bool)
 |0=>λ_=>λ_=>λ_=>λ_=>λ_=>λ_=>λ_=>λ_=>λ_=>λ_=>λ_=>none
 |N+1=>X6 N (OY N)
def Q4C (N:Nat)(l0:List Q7)(l1:List Qa)(a2:Int)(a3:Int)(a5:Int)(l6:List eN)(U:Int)(a8:Int)(a9:Int)(h:ByteArray)(q:Int)(s:Int)(z:List Q4):Option (Bool):=Qg (VG N l0 l1 a2 a3 a5 (l6.length:Int)) λa0=>if(!a0)=true then(some true)else(if(U !=0)=true then(some true)else(Qg (P1 N U a8 a9 h q s z false false false) λa1=>some (!a1)))
def RH (N:Nat)(U:List eN)(l0:List Q7)(l1:List Qa)(a3:Int)(a4:Int):(Nat×Int)->Option ((Nat×Int)⊕(Int⊕(Bool×Int×Int))):=λ(h,q)=>if(decide (h<U.length))=true then(Qg (U[h]?) λz=>Qg (Xj N l0 l1 q a3 z.k z.var z.v.k z.v.n z.v.s (a4==1)) λ(a1,a0)=>if(!a1)=true then(some (.inr (.inr (false,a0,a3))))else(gd (WN (h+1))<|some (.inl (h+1,a0))))else(some (.inr (.inl q)))
def X8 (N:Nat)(U:List Q7)(l1:List Qa)(a2:Int)(s:Int)(a4:Int)(a5:Int)(l6:List eN)(a7:Int)(a8:Int)(a9:Int)(aA:ByteArray)(aB:Int)(aC:Int)(aD:List Q4):Option (Bool×Int×Int):=Qg (if(a4==1)=true then(some (a4==1))else(some (a4==2))) λa1=>if a1=true then(Qg (Q4C N U l1 a2 s a5 l6 a7 a8 a9 aA aB aC aD) λz=>if z=true then(some (false,a2,s))else(ji (fk (RH N l6 U l1 s a4) N (0,a2)) λq=>Qg (if(a4==1)=true then(gd (WI (s+1))<|some (s+1))else(some s)) λh=>some (true,q,h)))else(if(a4==3)=true then(if(a5==0)=true then(if(l6.length==0)=true then(Qg (OY N U l1 a2 s a7 a8 a9 aA aB aC aD) λaI=>some (aI,a2,s))else(some (false,a2,s)))else(some (false,a2,s)))else(some (false,a2,s)))
def Q4E (N:Nat)(q:Int)(s:Int)(z:Int)(a3:ByteArray)(a4:Int)(a5:Int)(U:List Q4)(l7:List Q7)(l8:List Qa)(a9:Int)(h:Int):Option (Bool):=Qg (OY N l7 l8 a9 h q s z a3 a4 a5 U) λv6=>some (!v6)
def WV (N:Nat)(U:List Q4)(l1:List Q7)(l2:List Qa)(a3:Int)(a4:Int):Nat->Option (Nat⊕(Unit⊕Int)):=λh=>if(decide (h<U.length))=true then(Qg (U[h]?) λq=>Qg (Q4E N q.kind q.value.k q.value.n q.value.s q.var q.op q.kids l1 l2 a3 a4) λz=>if z=true then(some (.inr (.inr (h:Int))))else(gd (WN (h+1))<|some (.inl (h+1))))else(some (.inr (.inl ())))
def Q3O (N:Nat)(h:List Q4)(q:List Q7)(l2:List Qa)(s:Int)(z:Int):Option (Int):=ji (fk (WV N h q l2 s z) N 0) λ_=>some (-1)
def Q32 (N:Nat)(h:List Q4)(q:List Q7)(l2:List Qa)(s:Int)(z:Int):Option (Bool):=Qg (Q3O N h q l2 s z) λU=>some (decide (U>=0))
def VF (N:Nat)(h:List Q7)(q:List Qa)(s:Int)(z:Int)(U:List Q4):Option (Bool):=Qg (Q32 N U h q s z) λv7=>some (!v7)
def Q6s (_:Nat)(q:Int)(s:List Q4)(h:Int)(z:Int):Option (Bool):=if(q==0)=true then(if(s.length==0)=true then(if(decide (h>=0))=true then(some (decide (h<z)))else(some false))else(some false))else(some false)
def Q6t (N:Nat)(s:Int)(z:Int)(q:List Q4)(U:List Q7)(l1:List Qa)(a2:Int)(a3:Int):Option (Bool):=if(s==0)=true then(if(z==0)=true then(if(decide (0<q.length))=true then(Qg (VF N U l1 a2 a3 q) λh=>some h)else(some false))else(some false))else(some false)
def Q6u (_:Nat)(h:Int)(q:Int)(s:Int)(z:List Q4):Option (Bool):=if(h==4)=true then(if(q==0)=true then(if(s==0)=true then(some (z.length==0))else(some false))else(some false))else(some false)
def Xi (N:Nat)(l0:List Q7)(l1:List Qa)(a2:Int)(a3:Int)(a4:Int)(a5:Int)(U:Int)(z:List Q4):Option (Bool):=if(a4==1)=true then(if(U==0)=true then(Qg (VG N l0 l1 a2 a3 a5 (z.length:Int)) λaC=>if aC=true then(Qg (VF N l0 l1 a2 a3 z) λaD=>some aD)else(some false))else(some false))else(if(a4==2)=true then(Qg (Q6s N a5 z U a3) λh=>some h)else(if(a4==3)=true then(Qg (Q6t N a5 U z l0 l1 a2 a3) λq=>some q)else(Qg (Q6u N a4 a5 U z) λs=>some s)))
def Q4F (N:Nat)(h:Int)(q:Int)(s:Int)(z:List Q4)(l4:List Q7)(l5:List Qa)(U:Int)(a7:Int):Option (Bool):=Qg (Xi N l4 l5 U a7 h q s z) λv6=>some (!v6)
def WZ (N:Nat)(z:List wV)(U:List Q7)(l2:List Qa)(a3:Int)(a4:Int):Nat->Option (Nat⊕(Unit⊕Int)):=λh=>if(decide (h<z.length))=true then(Qg (z[h]?) λq=>Qg (Q4F N q.kind q.type q.which q.exprs U l2 a3 a4) λs=>if s=true then(some (.inr (.inr (h:Int))))else(gd (WN (h+1))<|some (.inl (h+1))))else(some (.inr (.inl ())))
def Q45 (N:Nat)(h:List wV)(q:List Q7)(l2:List Qa)(s:Int)(z:Int):Option (Int):=ji (fk (WZ N h q l2 s z) N 0) λ_=>some (-1)
def Q3g (N:Nat)(h:List wV)(q:List Q7)(l2:List Qa)(s:Int)(z:Int):Option (Bool):=Qg (Q45 N h q l2 s z) λU=>some (decide (U>=0))
def Q4p (N:Nat)(s:ByteArray)(q:Int)(z:List Qp)(U:List wV):Option (Bool):=Qg (VR N s) λh=>if(!h)=true then(some true)else(if(decide (q< -1000))=true then(some true)else(if(decide (q>1000))=true then(some true)else(if(decide (8<z.length))=true then(some true)else(some (decide (8<U.length))))))
def RF (N:Nat)(l7:List Qp)(l0:List Q7)(l1:List Qa):(Nat×Int×Int)->Option ((Nat×Int×Int)⊕((Int×Int)⊕(Bool×Int×Int))):=λ(a0,h,q)=>if(decide (a0<l7.length))=true then(Qg (l7[a0]?) λz=>Qg (X8 N l0 l1 h q z.kind z.type z.args z.test.kind z.test.value.k z.test.value.n z.test.value.s z.test.var z.test.op z.test.kids) λ(a3,U,a2)=>if(!a3)=true then(some (.inr (.inr (false,U,a2))))else(gd (WN (a0+1))<|some (.inl (a0+1,U,a2))))else(some (.inr (.inl (h,q))))
def Xd (N:Nat)(U:List Q7)(l1:List Qa)(_:Int)(_:Int)(a4:ByteArray)(a5:Int)(a6:Int)(l7:List Qp)(l8:List wV):Option (Bool×Int×Int):=Qg (Q4p N a4 a5 l7 l8) λs=>if s=true then(some (false,0,0))else(ji (fk (RF N l7 U l1) N (0,0,0)) λ(h,q)=>if(a6==h)=true then(if(decide (h<=16))=true then(Qg (Q3g N l8 U l1 h q) λz=>some (!z,h,q))else(some (false,h,q)))else(some (false,h,q)))
def Q6b (N:Nat)(h:Q7)(U:List Q7)(l1:List Qa)(q:Nat):Option (Bool):=Qg (VR N h.name) λs=>if(!s)=true then(some true)else(if(decide (h.fields<0))=true then(some true)else(if(decide (h.fields>6))=true then(some true)else(Qg (Xb N U l1 0 0 h.name) λz=>some (z !=(q:Int)))))
def VI (N:Nat)(s:List Q7)(U:List Qa):Nat->Option (Nat⊕(Unit⊕Bool)):=λh=>if(decide (h<s.length))=true then(Qg (s[h]?) λz=>Qg (Q6b N z s U h) λq=>if q=true then(some (.inr (.inr false)))else(gd (WN (h+1))<|some (.inl (h+1))))else(some (.inr (.inl ())))
def VJ (N:Nat)(U:List Qa)(l0:List Q7):(Nat×Int×Int)->Option ((Nat×Int×Int)⊕(Unit⊕Bool)):=λ(h,q,s)=>if(decide (h<U.length))=true then(Qg (U[h]?) λz=>Qg (Qg (Xc N l0 U q s z.name) λa7=>if(a7 !=(h:Int))=true then(some (q,s,true))else(Qg (Xd N l0 U q s z.name z.salience z.vars z.conds z.acts) λ(a3,a4,a5)=>some (a4,a5,!a3))) λ(a0,a1,a2)=>if a2=true then(some (.inr (.inr false)))else(gd (WN (h+1))<|some (.inl (h+1,a0,a1))))else(some (.inr (.inl ())))
def Mz (N:Nat)(q:List Q7)(s:List Qa):Option (Bool):=Qg (if(decide (32<q.length))=true then(some true)else(some (decide (64<s.length)))) λh=>if h=true then(some false)else(ji (fk (VI N q s) N 0) λ_=>ji (fk (VJ N s q) N (0,0,0)) λ_=>some true)
def P3 (_:Nat)(h:Int):Option ((List Bool)×(List V)):=Qg (if(decide (h<0))=true then(some true)else(some (decide (h>16)))) λq=>if q=true then(some ([],[]))else(gd (0<=h)<|gd (h.toNat<=140737488355328)<|gd (0<=h)<|gd (h.toNat<=4398046511104)<|some (List.replicate h.toNat false,(List.replicate h.toNat (⟨0,0,(⟨#[]⟩:ByteArray)⟩:V))))
def VT (N:Nat)(h:Int)(q:Int)(s:ByteArray):Option (Int×Int×ByteArray×Nat):=Qg (yL N h q s) λz=>if(!z)=true then(some (0,0,(⟨#[]⟩:ByteArray),2))else(some (h,q,s,0))
def Q8d (N:Nat)(_:Int)(U:Int)(a2:Int)(a3:ByteArray)(_:Int)(_:Int)(_:List Q4):Option (Int×Int×ByteArray×Nat):=Qg (VT N U a2 a3) λ(h,q,s,z)=>some (h,q,s,z)
def Q8e (N:Nat)(_:Int)(_:Int)(_:Int)(_:ByteArray)(a4:Int)(_:Int)(_:List Q4)(U:List V):Option (Int×Int×ByteArray×Nat):=Qg (if(decide (a4<0))=true then(some true)else(some (decide (a4>=(U.length:Int))))) λh=>if h=true then(some (0,0,(⟨#[]⟩:ByteArray),2))else(gd (0<=a4)<|Qg (U[a4.toNat]?) λq=>Qg (VT N q.k q.n q.s) λ(z,a6,a7,a8)=>some (z,a6,a7,a8))
def Xo (_:Nat)(_:Int):Option (Unit):=some ()
def RQ (N:Nat)(h:Bool):Option (Int):=if h=true then(Qg (Xo N 1) λ_=>some 1)else(Qg (Xo N 0) λ_=>some 0)
def Hj (_:Nat)(h:Int):Option (Unit⊕(Unit⊕(Unit⊕(Unit⊕(Unit⊕(Unit⊕(Unit⊕(Unit⊕(Unit⊕Unit))))))))):=if(h==1)=true then(some (.inl ()))else(if(h==2)=true then(some (.inr (.inl ())))else(if(h==3)=true then(some (.inr (.inr (.inl ()))))else(if(h==4)=true then(some (.inr (.inr (.inr (.inl ())))))else(if(h==7)=true then(some (.inr (.inr (.inr (.inr (.inl ()))))))else(if(h==8)=true then(some (.inr (.inr (.inr (.inr (.inr (.inl ())))))))else(if(h==9)=true then(some (.inr (.inr (.inr (.inr (.inr (.inr (.inl ()))))))))else(if(h==10)=true then(some (.inr (.inr (.inr (.inr (.inr (.inr (.inr (.inl ())))))))))else(if(h==11)=true then(some (.inr (.inr (.inr (.inr (.inr (.inr (.inr (.inr (.inl ()))))))))))else(some (.inr (.inr (.inr (.inr (.inr (.inr (.inr (.inr (.inr ()))))))))))))))))))
def Q9a (_:Nat)(_:Int)(_:Int):Option (Unit):=some ()
def Q9b (_:Nat)(_:Int)(_:Int):Option (Unit):=some ()
def RM (_:Nat)(s:Int)(z:Int):Option (Int×Bool):=Qg (if(decide (s<0))=true then(some (IntKind.wrap .u64 (0-(IntKind.wrap .u64 s))))else(some (IntKind.wrap .u64 s))) λh=>Qg (if(decide (z<0))=true then(some (IntKind.wrap .u64 (0-(IntKind.wrap .u64 z))))else(some (IntKind.wrap .u64 z))) λq=>gd (0<=h/\h<18446744073709551616)<|gd (0<=q/\q<18446744073709551616)<|if((decide (s<0)) !=(decide (z<0)))=true then(if(((h.toNat*q.toNat/18446744073709551616:Nat):Int)==0)=true then(some ((IntKind.wrap .i64 (IntKind.wrap .u64 (0-((h.toNat*q.toNat%18446744073709551616:Nat):Int)))),(decide (((h.toNat*q.toNat%18446744073709551616:Nat):Int)<=9223372036854775808))))else(some ((IntKind.wrap .i64 (IntKind.wrap .u64 (0-((h.toNat*q.toNat%18446744073709551616:Nat):Int)))),false)))else(if(((h.toNat*q.toNat/18446744073709551616:Nat):Int)==0)=true then(some ((IntKind.wrap .i64 ((h.toNat*q.toNat%18446744073709551616:Nat):Int)),(decide (((h.toNat*q.toNat%18446744073709551616:Nat):Int)<9223372036854775808))))else(some ((IntKind.wrap .i64 ((h.toNat*q.toNat%18446744073709551616:Nat):Int)),false)))
def Q9c (_:Nat)(_:Int)(_:Int):Option (Unit):=some ()
def BP (N:Nat)(h:Bool):Option (Int):=Qg (RQ N h) λq=>some q
def Q7u (N:Nat)(q:Int)(s:Int):Option (Int):=Qg (BP N (decide (q<s))) λh=>some h
def Q7v (N:Nat)(q:Int)(s:Int):Option (Int):=Qg (BP N (decide (q<=s))) λh=>some h
def Q7w (N:Nat)(q:Int)(s:Int):Option (Int):=if(q !=0)=true then(Qg (BP N (s !=0)) λh=>some h)else(Qg (BP N false) λh=>some h)
def Q7x (N:Nat)(q:Int)(s:Int):Option (Int):=if(q !=0)=true then(Qg (BP N true) λh=>some h)else(Qg (BP N (s !=0)) λh=>some h)
def Q7y (N:Nat)(q:Int)(_:Int):Option (Int):=Qg (BP N (q==0)) λh=>some h
def VP (_:Nat)(q:Int):Option (Nat):=Qg (if(q==4)=true then(some true)else(some (q==11))) λh=>if h=true then(some 1)else(some 2)
def P4 (N:Nat)(U:List V)(q:Nat)(z:Bool):Option (Bool⊕((Nat×Bool)⊕(Bool⊕(Nat×Int×Nat)))):=Qg (U[q]?) λh=>Qg (yL N h.k h.n h.s) λa0=>if(!a0)=true then(some (.inr (.inr (.inr (0,0,2)))))else(if z=true then(some (.inl true))else(some (.inl (h.k==2))))
def BN (N:Nat)(z:List V):(Nat×Bool)->Option ((Nat×Bool)⊕(Bool⊕(Nat×Int×Nat))):=λ(h,q)=>if(decide (h<z.length))=true then(ji (P4 N z h q) λs=>gd (WN (h+1))<|some (.inl (h+1,s)))else(some (.inr (.inl q)))
def QG (N:Nat)(a0:Int)(h:V)(q:V):Option (Int×Bool):=Qg (Hj N a0) λ
 | .inl _=>(Qg (Q9a N h.n q.n) λ_=>some (IntKind.wrap .i64 (h.n+q.n),(decide ((IntKind.wrap .i64 (h.n+q.n))<h.n))==(decide (q.n<0))))
 | .inr (.inl _)=>(Qg (Q9b N h.n q.n) λ_=>some (IntKind.wrap .i64 (h.n-q.n),(decide ((IntKind.wrap .i64 (h.n-q.n))>h.n))==(decide (q.n<0))))
 | .inr (.inr (.inl _))=>(Qg (RM N h.n q.n) λ(z,U)=>some (z,U))
 | .inr (.inr (.inr (.inl _)))=>(Qg (Q9c N h.n q.n) λ_=>some (IntKind.wrap .i64 (0-h.n),h.n !=-9223372036854775808))
 | .inr (.inr (.inr (.inr (.inl _))))=>(Qg (Q7u N h.n q.n) λs=>some (s,true))
 | .inr (.inr (.inr (.inr (.inr (.inl _)))))=>(Qg (Q7v N h.n q.n) λs=>some (s,true))
 | .inr (.inr (.inr (.inr (.inr (.inr (.inl _))))))=>(Qg (Q7w N h.n q.n) λs=>some (s,true))
 | .inr (.inr (.inr (.inr (.inr (.inr (.inr (.inl _)))))))=>(Qg (Q7x N h.n q.n) λs=>some (s,true))
 | .inr (.inr (.inr (.inr (.inr (.inr (.inr (.inr (.inl _))))))))=>(Qg (Q7y N h.n q.n) λs=>some (s,true))
 | .inr (.inr (.inr (.inr (.inr (.inr (.inr (.inr (.inr _))))))))=>(none)
def BR (N:Nat)(a0:Int)(U:List V):Option (Nat×Int×Nat):=Qg (VP N a0) λh=>Qg (if(decide (a0<1))=true then(some true)else(if(decide (a0>11))=true then(some true)else(some (U.length !=h)))) λs=>if s=true then(some (0,0,2))else(ji (fk (BN N U) N (0,false)) λa1=>Qg (U[0]?) λa2=>gd (WI ((h:Int)-1))<|gd (0<=(h:Int)-1)<|Qg (U[((h:Int)-1).toNat]?) λa3=>if(a0==5)=true then(Qg (RQ N (decide (a2=a3))) λa6=>some (1,a6,0))else(if(a0==6)=true then(Qg (RQ N (!decide (a2=a3))) λa7=>some (1,a7,0))else(if a1=true then(some (0,0,301))else(Qg (QG N a0 a2 a3) λ(q,z)=>if(!z)=true then(some (0,0,300))else(Qg (Xo N q) λ_=>some (1,q,0))))))
def VK (_:Nat)(l1:List Q4)(rc:Int->Int->Int->ByteArray->Int->Int->(List Q4)->(List V)->Option (Int×Int×ByteArray×Nat))(l0:List V):(Nat×(List V))->Option ((Nat×(List V))⊕((List V)⊕((List V)×Nat))):=λ(h,q)=>if(decide (h<l1.length))=true then(Qg (l1[h]?) λz=>Qg (rc z.kind z.value.k z.value.n z.value.s z.var z.op z.kids l0) λ(a0,U,a2,a3)=>if(a3 !=0)=true then(some (.inr (.inr ([],a3))))else(gd (q.length+([(⟨a0,U,a2⟩:V)]).length<=4398046511104)<|gd (WN (h+1))<|some (.inl (h+1,(q++([(⟨a0,U,a2⟩:V)]))))))else(some (.inr (.inl q)))
def Xu (N:Nat)(rc:Int->Int->Int->ByteArray->Int->Int->(List Q4)->(List V)->Option (Int×Int×ByteArray×Nat))(q:List V)(s:List Q4):Option ((List V)×Nat):=ji (fk (VK N s rc q) N (0,[])) λh=>some (h,0)
def Xk (N:Nat)(rc:Int->Int->Int->ByteArray->Int->Int->(List Q4)->(List V)->Option (Int×Int×ByteArray×Nat))(l0:List V)(_:Int)(_:Int)(_:Int)(_:ByteArray)(_:Int)(U:Int)(l7:List Q4):Option (Nat×Int×Nat):=Qg (Xu N rc l0 l7) λ(q,h)=>if(h !=0)=true then(some (0,0,h))else(Qg (BR N U q) λ(s,z,a0)=>some (s,z,a0))
def P2 (N:Nat)(rc:Int->Int->Int->ByteArray->Int->Int->(List Q4)->(List V)->Option (Int×Int×ByteArray×Nat))(a0:Int)(U:Int)(a2:Int)(a3:ByteArray)(a4:Int)(a5:Int)(l6:List Q4)(l7:List V):Option (Int×Int×ByteArray×Nat):=if(a0==1)=true then(Qg (Q8d N a0 U a2 a3 a4 a5 l6) λ(h,q,s,z)=>some (h,q,s,z))else(if(a0==2)=true then(Qg (Q8e N a0 U a2 a3 a4 a5 l6 l7) λ(h,q,s,z)=>some (h,q,s,z))else(if(a0==3)=true then(Qg (Xk N rc l7 a0 U a2 a3 a4 a5 l6) λ(h,q,s)=>some ((h:Int),q,(⟨#[]⟩:ByteArray),s))else(if(!false)=true then(some (0,0,(⟨#[]⟩:ByteArray),2))else(none))))
def wT:Nat->Int->Int->Int->ByteArray->Int->Int->(List Q4)->(List V)->Option (Int×Int×ByteArray×Nat)
 |0=>λ_=>λ_=>λ_=>λ_=>λ_=>λ_=>λ_=>λ_=>none
 |N+1=>P2 N (wT N)
def RG (_:Nat)(U:List Bool)(l1:List V):Nat->Option (Nat⊕(Unit⊕Bool)):=λh=>if(decide (h<U.length))=true then(Qg (U[h]?) λs=>Qg (if(!s)=true then(Qg (l1[h]?) λz=>some (!decide (z=(⟨0,0,(⟨#[]⟩:ByteArray)⟩:V))))else(some false)) λq=>if q=true then(some (.inr (.inr false)))else(gd (WN (h+1))<|some (.inl (h+1))))else(some (.inr (.inl ())))
def Xe (N:Nat)(h:List Bool)(q:List V):Option (Bool):=if(h.length !=q.length)=true then(some false)else(ji (fk (RG N h q) N 0) λ_=>some true)
def Q8V (_:Nat)(h:List Bool)(q:List V):Option (Unit):=gd (h.length<=140737488355328)<|gd (q.length<=4398046511104)<|some ()
def Q3y (_:Nat)(h:Bool)(q:Int)(s:List Bool)(z:List V)(U:Int)(a8:Int)(a9:ByteArray):Option ((List Bool)×(List V)):=if h=true then(gd (0<=q)<|Qg (s[q.toNat]?) λ_=>gd (0<=q)<|Qg (z[q.toNat]?) λ_=>some (s.set q.toNat true,(z.set q.toNat (⟨U,a8,a9⟩:V))))else(some (s,z))
def X3 (N:Nat)(z:List Bool)(U:List V)(a2:Int)(a3:Int)(a4:Int)(a5:Int)(a6:ByteArray)(a7:Int)(a8:Int)(a9:ByteArray):Option (Bool×(List Bool)×(List V)):=Qg (if(decide (a3>=0))=true then(some (decide (a3<(z.length:Int))))else(some false)) λh=>if(a2==1)=true then(some (true,z,U))else(if(a2==4)=true then(some ((decide ((⟨a4,a5,a6⟩:V)=(⟨a7,a8,a9⟩:V))),z,U))else(if(a2==3)=true then(if h=true then(gd (0<=a3)<|Qg (z[a3.toNat]?) λaE=>if aE=true then(gd (0<=a3)<|Qg (U[a3.toNat]?) λaG=>some ((decide (aG=(⟨a7,a8,a9⟩:V))),z,U))else(some (false,z,U)))else(some (false,z,U)))else(if(a2==2)=true then(Qg (Q3y N h a3 z U a7 a8 a9) λ(q,s)=>some (h,q,s))else(some (false,z,U)))))
def Q5j (N:Nat)(h:Bool)(U:Int)(q:Int)(l2:List eN)(s:List V)(z:List Bool)(a0:List V):Option (Bool):=if(!h)=true then(some true)else(if(U !=q)=true then(some true)else(if(l2.length !=s.length)=true then(some true)else(Qg (Xe N z a0) λa2=>some (!a2))))
def RB (N:Nat)(l2:List eN)(a5:List V):(Nat×(List Bool)×(List V))->Option ((Nat×(List Bool)×(List V))⊕(((List Bool)×(List V))⊕((List Bool)×(List V)×Bool))):=λ(h,q,z)=>if(decide (h<l2.length))=true then(Qg (l2[h]?) λa0=>Qg (a5[h]?) λU=>Qg (X3 N q z a0.k a0.var a0.v.k a0.v.n a0.v.s U.k U.n U.s) λ(a2,a3,a4)=>if(!a2)=true then(some (.inr (.inr ([],[],false))))else(gd (WN (h+1))<|some (.inl (h+1,a3,a4))))else(some (.inr (.inl (q,z))))
def LM (N:Nat)(a0:Int)(a1:Int)(l2:List eN)(_:Int)(_:Int)(_:Int)(_:ByteArray)(_:Int)(_:Int)(_:List Q4)(_:Int)(aB:Int)(U:List V)(z:List Bool)(a2:List V):Option ((List Bool)×(List V)×Bool):=Qg (if(a0==1)=true then(some true)else(some (a0==2))) λa9=>Qg (Q5j N a9 a1 aB l2 U z a2) λs=>if s=true then(some ([],[],false))else(Qg (Q8V N z a2) λ_=>ji (fk (RB N l2 U) N (0,z,a2)) λ(h,q)=>some (h,q,true))
def Q4S (_:Nat)(q:Bool)(s:Nat)(h:UInt8):Option (Bool):=if(!q)=true then(if(s==0)=true then(some true)else(if(decide (48<=h.toNat))=true then(if(decide (h.toNat<=57))=true then(some false)else(some (!(h.toNat==95))))else(some (!(h.toNat==95)))))else(some false)
def Q4T (N:Nat)(a0:ByteArray):Nat->Option (Nat⊕(Unit⊕Bool)):=λh=>if(decide (h<a0.size))=true then(Qg (a0[h]?) λs=>Qg (if(decide (97<=s.toNat))=true then(some (decide (s.toNat<=122)))else(some false)) λz=>Qg (Q4S N z h s) λq=>if q=true then(some (.inr (.inr false)))else(gd (WN (h+1))<|some (.inl (h+1))))else(some (.inr (.inl ())))
def Q5G (N:Nat)(h:ByteArray):Option (Bool):=ji (fk (Q4T N h) N 0) λ_=>if(decide (1<=h.size))=true then(some (decide (h.size<=24)))else(some false)
def X5 (N:Nat)(q:Int)(z:Int)(s:ByteArray):Option (Bool):=if(q==1)=true then(some (s.toList==(⟨#[]⟩:ByteArray).toList))else(if(q==2)=true then(if(z==0)=true then(Qg (Q5G N s) λh=>some h)else(some false))else(some false))
def Q44 (_:Nat)(_:Int):Option (Unit):=some ()
def Mu (N:Nat)(h:Bool):Option (Int):=if h=true then(Qg (Q44 N 1) λ_=>some 1)else(Qg (Q44 N 0) λ_=>some 0)
def Q5k (_:Nat)(h:Int)(q:Int):Option (Bool):=if(decide (h>0))=true then(gd (WI (9223372036854775807-h))<|if(decide (q>(9223372036854775807-h)))=true then(some true)else(if(decide (h<0))=true then(gd (WI (-9223372036854775808-h))<|some (decide (q<(-9223372036854775808-h))))else(some false)))else(if(decide (h<0))=true then(gd (WI (-9223372036854775808-h))<|some (decide (q<(-9223372036854775808-h))))else(some false))
def Q4Y (N:Nat)(q:Int)(s:Int):Option (Int×Bool):=Qg (Q5k N s q) λh=>if h=true then(some (0,false))else(gd (WI (q+s))<|some (q+s,true))
def Q54 (_:Nat)(s:Int)(q:Int):Option (Int×Bool):=Qg (if(s==0)=true then(some true)else(some (q==0))) λh=>if h=true then(some (0,true))else(if(s==-1)=true then(some (IntKind.wrap .i64 (0-q),q !=-9223372036854775808))else(if(q==-1)=true then(some (IntKind.wrap .i64 (0-s),s !=-9223372036854775808))else(gd (q≠0)<|some (IntKind.wrap .i64 (s*q),(IntKind.wrap .i64 (Int.tdiv (IntKind.wrap .i64 (s*q)) q))==s))))
def Mt (N:Nat)(a0:Int)(h:Int)(a2:Int):Option (Int×Bool):=if(a0==1)=true then(Qg (Q4Y N h a2) λ(q,s)=>some (q,s))else(if(a0==2)=true then(if(a2==-9223372036854775808)=true then(some (IntKind.wrap .i64 (h-a2),decide (h<0)))else(Qg (Q4Y N h (IntKind.wrap .i64 (0-a2))) λ(z,a3)=>some (z,a3)))else(if(a0==3)=true then(Qg (Q54 N h a2) λ(a4,a5)=>some (a4,a5))else(some (IntKind.wrap .i64 (0-h),h !=-9223372036854775808))))
def Q5D (_:Nat)(q:Int):Option (Nat):=Qg (if(q==4)=true then(some true)else(some (q==11))) λh=>if h=true then(some 1)else(some 2)
def Q5E (N:Nat)(U:List V)(h:Nat)(z:Bool):Option (Bool⊕((Nat×Bool)⊕(Bool⊕(Nat×Int×Nat)))):=Qg (U[h]?) λq=>Qg (X5 N q.k q.n q.s) λa0=>if(!a0)=true then(some (.inr (.inr (.inr (0,0,2)))))else(if z=true then(some (.inl true))else(Qg (U[h]?) λa1=>some (.inl (a1.k==2))))
def Q5F (N:Nat)(z:List V):(Nat×Bool)->Option ((Nat×Bool)⊕(Bool⊕(Nat×Int×Nat))):=λ(h,q)=>if(decide (h<z.length))=true then(ji (Q5E N z h q) λs=>gd (WN (h+1))<|some (.inl (h+1,s)))else(some (.inr (.inl q)))
def Q6Y (N:Nat)(z:Int)(U:List V):Option (Nat×Int×Nat):=Qg (Q5D N z) λa7=>Qg (if(decide (z<1))=true then(some true)else(if(decide (z>11))=true then(some true)else(some (U.length !=a7)))) λa3=>if a3=true then(some (0,0,2))else(ji (fk (Q5F N U) N (0,false)) λa8=>Qg (U[0]?) λh=>gd (WI ((U.length:Int)-1))<|gd (0<=(U.length:Int)-1)<|Qg (U[((U.length:Int)-1).toNat]?) λs=>Qg (if(z==5)=true then(some true)else(some (z==6))) λa4=>if a4=true then(Qg (Mu N ((decide (h=s))==(z==5))) λaA=>some (1,aA,0))else(if a8=true then(some (0,0,301))else(if(z==7)=true then(Qg (Mu N (decide (h.n<s.n))) λaB=>some (1,aB,0))else(if(z==8)=true then(Qg (Mu N (decide (h.n<=s.n))) λaC=>some (1,aC,0))else(if(z==9)=true then(if(h.n !=0)=true then(Qg (Mu N (s.n !=0)) λa1=>some (1,a1,0))else(Qg (Mu N false) λa1=>some (1,a1,0)))else(if(z==10)=true then(if(h.n !=0)=true then(Qg (Mu N true) λa2=>some (1,a2,0))else(Qg (Mu N (s.n !=0)) λa2=>some (1,a2,0)))else(if(z==11)=true then(Qg (Mu N (h.n==0)) λa9=>some (1,a9,0))else(Qg (Mt N z h.n s.n) λ(q,a5)=>if(!a5)=true then(some (0,0,300))else(Qg (Q44 N q) λ_=>some (1,q,0))))))))))
def Q3N (_:Nat)(l6:List Q4)(rc:Int->Int->Int->ByteArray->Int->Int->(List Q4)->(List V)->Option (Int×Int×ByteArray×Nat))(l7:List V):(Nat×(List V))->Option ((Nat×(List V))⊕((List V)⊕((Int×Int×ByteArray)⊕(Int×Int×ByteArray×Nat)))):=λ(z,h)=>if(decide (z<l6.length))=true then(Qg (l6[z]?) λq=>Qg (rc q.kind q.value.k q.value.n q.value.s q.var q.op q.kids l7) λ(a0,U,a2,a3)=>if(a3 !=0)=true then(some (.inr (.inr (.inr (0,0,(⟨#[]⟩:ByteArray),a3)))))else(gd (h.length+([(⟨a0,U,a2⟩:V)]).length<=4398046511104)<|gd (WN (z+1))<|some (.inl (z+1,(h++([(⟨a0,U,a2⟩:V)]))))))else(some (.inr (.inl h)))
def Q78 (N:Nat)(a0:Int)(a1:Int)(a2:Int)(a3:ByteArray)(a4:Int)(U:List V)(l6:List Q4)(rc:Int->Int->Int->ByteArray->Int->Int->(List Q4)->(List V)->Option (Int×Int×ByteArray×Nat))(a5:Int):Option ((Int×Int×ByteArray)⊕(Int×Int×ByteArray×Nat)):=if(a0==1)=true then(some (.inl (a1,a2,a3)))else(if(a0==2)=true then(Qg (if(decide (a4>=0))=true then(some (decide (a4<(U.length:Int))))else(some false)) λq=>if q=true then(gd (0<=a4)<|Qg (U[a4.toNat]?) λz=>some (.inl (z.k,z.n,z.s)))else(some (.inl (0,0,(⟨#[]⟩:ByteArray)))))else(if(a0==3)=true then(ji (fk (Q3N N l6 rc U) N (0,[])) λh=>Qg (Q6Y N a5 h) λ(a6,a7,a8)=>some (.inr ((a6:Int),a7,(⟨#[]⟩:ByteArray),a8)))else(some (.inl (0,0,(⟨#[]⟩:ByteArray))))))
def Q5l (N:Nat)(rc:Int->Int->Int->ByteArray->Int->Int->(List Q4)->(List V)->Option (Int×Int×ByteArray×Nat))(a0:Int)(U:Int)(a2:Int)(a3:ByteArray)(a4:Int)(a5:Int)(l6:List Q4)(l7:List V):Option (Int×Int×ByteArray×Nat):=ji (Q78 N a0 U a2 a3 a4 l7 l6 rc a5) λ(h,q,s)=>Qg (X5 N h q s) λz=>if(!z)=true then(some (0,0,(⟨#[]⟩:ByteArray),2))else(some (h,q,s,0))
def Q4K:Nat->Int->Int->Int->ByteArray->Int->Int->(List Q4)->(List V)->Option (Int×Int×ByteArray×Nat)
 |0=>λ_=>λ_=>λ_=>λ_=>λ_=>λ_=>λ_=>λ_=>none
 |N+1=>Q5l N (Q4K N)
def Xp (_:Nat)(_:Int):Option (Unit):=some ()
def X9 (N:Nat)(q:Int)(h:Int):Option (Int):=Qg (Xp N q) λ_=>Qg (Xp N h) λ_=>if(q !=q)=true then(if(h !=h)=true then(some 0)else(some (-1)))else(if(h !=h)=true then(some 1)else(if(decide (q<h))=true then(some (-1))else(if(decide (q>h))=true then(some 1)else(some 0))))
def OU (N:Nat)(U:List Int)(l1:List Int):Nat->Option (Nat⊕(Unit⊕Int)):=λh=>if(decide (h<U.length))=true then(Qg (U[h]?) λs=>if(decide (l1.length<=h))=true then(some (.inr (.inr 1)))else(Qg (l1[h]?) λz=>Qg (X9 N s z) λq=>if(q !=0)=true then(some (.inr (.inr q)))else(gd (WN (h+1))<|some (.inl (h+1)))))else(some (.inr (.inl ())))
def Q4L (N:Nat)(h:List Int)(q:List Int):Option (Int):=ji (fk (OU N h q) N 0) λ_=>if(decide (h.length<q.length))=true then(some (-1))else(some 0)
def OX (N:Nat)(_:Int)(h:List Int)(_:Int)(q:List Int):Option (Int):=Qg (Q4L N h q) λs=>some s
def Q6c (N:Nat)(h:Int)(q:Int)(s:ByteArray):Option (Bool):=Qg (yL N h q s) λz=>some (!z)
def WS (N:Nat)(U:List V):Nat->Option (Nat⊕(Unit⊕Int)):=λh=>if(decide (h<U.length))=true then(Qg (U[h]?) λq=>Qg (Q6c N q.k q.n q.s) λz=>if z=true then(some (.inr (.inr (h:Int))))else(gd (WN (h+1))<|some (.inl (h+1))))else(some (.inr (.inl ())))
def Q2R (N:Nat)(h:List V):Option (Int):=ji (fk (WS N h) N 0) λ_=>some (-1)
def Vx (N:Nat)(h:List V):Option (Bool):=Qg (Q2R N h) λq=>some (decide (q>=0))
def VM (_:Nat)(U:List Q4)(rc:Int->Int->Int->ByteArray->Int->Int->(List Q4)->Option (List Q4)):(Nat×(List Q4))->Option ((Nat×(List Q4))⊕(List Q4)):=λ(q,h)=>if(decide (q<U.length))=true then(Qg (h[q]?) λz=>Qg (rc z.kind z.value.k z.value.n z.value.s z.var z.op z.kids) λa0=>Qg (h[q]?) λ_=>gd (WN (q+1))<|some (.inl (q+1,(h.set q (⟨z.kind,z.value,z.var,z.op,a0⟩:Q4)))))else(some (.inr h))
def Xn (N:Nat)(rc:Int->Int->Int->ByteArray->Int->Int->(List Q4)->Option (List Q4))(_:Int)(_:Int)(_:Int)(_:ByteArray)(_:Int)(_:Int)(q:List Q4):Option (List Q4):=gd (q.length<=1759218604441)<|Qg (fk (VM N q rc) N (0,q)) λh=>some h
def VS:Nat->Int->Int->Int->ByteArray->Int->Int->(List Q4)->Option (List Q4)
 |0=>λ_=>λ_=>λ_=>λ_=>λ_=>λ_=>λ_=>none
 |N+1=>Xn N (VS N)
def VO (N:Nat)(_:Int)(_:Int)(l2:List eN)(h:Int)(q:Int)(s:Int)(z:ByteArray)(U:Int)(a8:Int)(l9:List Q4):Option (List Q4):=gd (l2.length<=2932031007402)<|Qg (VS N h q s z U a8 l9) λv9=>some v9
def XA (N:Nat)(s:Int)(h:Int)(q:ByteArray):Option (ByteArray):=Qg (yL N s h q) λz=>if(!z)=true then(some (⟨#[]⟩:ByteArray))else(if(s==2)=true then(gd (WN ((⟨#[39]⟩:ByteArray).size+q.size))<|some ((⟨#[39]⟩:ByteArray)++q))else(gd (WI h)<|some (uz h)))
end
section
theorem OD:yy Tryz.prog 2=some .i64:=au
theorem fY:yy Tryz.prog 3=some .i64:=au
theorem jE:Lg Tryz.prog 9=true:=au
theorem a0g:tS Tryz.prog 31=some 85:=au
theorem Fy:yy Tryz.prog 60=some .u8:=au
theorem kO:yy Tryz.prog 64=some .u8:=au
theorem La:tS Tryz.prog 117=some 209:=au
theorem Lb:tS Tryz.prog 127=some 133:=au
theorem yx:yy Tryz.prog 322=some .u64:=au
end
section
open Go Go.RowKit
inductive bu where
 |join (a:Nat)
 |nt (a:Nat)
 |test (a:Nat)
def bu.tag:bu->Nat
 | .join _=>116
 | .nt _=>121
 | .test _=>123
def bu.adr:bu->Nat
 | .join a=>a
 | .nt a=>a
 | .test a=>a
def C_p (x:Nat)(_:Unit):List Value:=[.pointer (some ⟨x,0,none⟩)]
def F_p (_:Nat)(_:Unit):List Fact:=[]
def gE:eO Nat:=Em C_p F_p (by intro x r u hu;simp[C_p]at hu;subst hu;rfl)
theorem P7:qg gE C_p (λ_ _=>True) F_p:=Hp
def Cm (x:bu)(_:Unit):List Value:=[.iface x.tag (.pointer (some ⟨x.adr,0,none⟩))]
def HZ (_:bu)(_:Unit):List Fact:=[]
def BV:eO bu:=Em Cm HZ (by intro x r u hu;simp[Cm]at hu;subst hu;rfl)
theorem Qat:qg BV Cm (λ_ _=>True) HZ:=Hp
def Qz:uq Tryz.prog 127 Nat:=Uk (e:=133) (i:=5) au au
structure fo where
 types:List Q7
 rows:List Nat
 rowsP:Option Addr
 rowsC:Nat
 alphas:MS ByteArray Nat
 alphasA:Nat
 facts:MS Int Qq
 factsA:Nat
 parts:Int
structure mi where
 net:Nat
 steps:List bu
 stepsP:Option Addr
 stepsC:Nat
 whole:MS Nat Bool
 wholeA:Nat
structure M3 where
 kind:Int
 args:List eN
 argsP:Option Addr
 argsC:Nat
 facts:MS Int Qq
 factsA:Nat
structure va where
 alpha:Nat
 row:Nat
 k:Int
 cond:Qp
 parts:MS Nat Bool
 partsA:Nat
structure kC where
 row:Nat
 k:Int
 cond:Qp
 parts:MS Nat Bool
 partsA:Nat
structure ir where
 has:List Bool
 vals:List V
 up:Option Nat
 id:Int
 kids:MS Nat Bool
 kidsA:Nat
 blocks:Option (Nat×MS Int Bool)
def Rq (x:fo)(r:Option Addr×Nat):List Value:=[.slice r.1 x.types.length r.2,.slice x.rowsP x.rows.length x.rowsC,.map (some x.alphasA),.map (some x.factsA),.int .i64 (x.parts)]
def Cq (x:fo)(r:Option Addr×Nat):List Fact:=[.sli 2 Qd r.1 r.2 x.types]
def Rt (x:mi)(_:Unit):List Value:=[.pointer (some ⟨x.net,0,none⟩),.slice x.stepsP x.steps.length x.stepsC,.map (some x.wholeA)]
def Cs (_:mi)(_:Unit):List Fact:=[]
def HW (x:M3)(_:Unit):List Value:=[.int .i64 (x.kind),.slice x.argsP x.args.length x.argsC,.map (some x.factsA)]
def rF (_:M3)(_:Unit):List Fact:=[]
def Mq (x:va)(r:(Option Addr×Nat)×(Option Addr×Nat)):List Value:=[.pointer (some ⟨x.alpha,0,none⟩),.pointer (some ⟨x.row,0,none⟩),.int .i64 (x.k),.int .u8 (x.cond.kind),.int .i64 (x.cond.type),.slice r.1.1 x.cond.args.length r.1.2,.int .u8 (x.cond.test.kind),.int .u8 (x.cond.test.value.k),.int .i64 (x.cond.test.value.n),.string x.cond.test.value.s,.int .i64 (x.cond.test.var),.int .u8 (x.cond.test.op),.slice r.2.1 x.cond.test.kids.length r.2.2,.map (some x.partsA)]
def wJ (x:va)(r:(Option Addr×Nat)×(Option Addr×Nat)):List Fact:=[.sli 5 il r.1.1 r.1.2 x.cond.args,.sli 7 Qm r.2.1 r.2.2 x.cond.test.kids]
def Rr (x:va)(r:(Option Addr×Nat)×(Option Addr×Nat)):List Value:=[.pointer (some ⟨x.alpha,0,none⟩),.pointer (some ⟨x.row,0,none⟩),.int .i64 (x.k),.int .u8 (x.cond.kind),.int .i64 (x.cond.type),.slice r.1.1 x.cond.args.length r.1.2,.int .u8 (x.cond.test.kind),.int .u8 (x.cond.test.value.k),.int .i64 (x.cond.test.value.n),.string x.cond.test.value.s,.int .i64 (x.cond.test.var),.int .u8 (x.cond.test.op),.slice r.2.1 x.cond.test.kids.length r.2.2,.map (some x.partsA)]
def Cr (x:va)(r:(Option Addr×Nat)×(Option Addr×Nat)):List Fact:=[.sli 5 il r.1.1 r.1.2 x.cond.args,.sli 7 Qm r.2.1 r.2.2 x.cond.test.kids]
def Ms (x:kC)(r:(Option Addr×Nat)×(Option Addr×Nat)):List Value:=[.pointer (some ⟨x.row,0,none⟩),.int .i64 (x.k),.int .u8 (x.cond.kind),.int .i64 (x.cond.type),.slice r.1.1 x.cond.args.length r.1.2,.int .u8 (x.cond.test.kind),.int .u8 (x.cond.test.value.k),.int .i64 (x.cond.test.value.n),.string x.cond.test.value.s,.int .i64 (x.cond.test.var),.int .u8 (x.cond.test.op),.slice r.2.1 x.cond.test.kids.length r.2.2,.map (some x.partsA)]
def wL (x:kC)(r:(Option Addr×Nat)×(Option Addr×Nat)):List Fact:=[.sli 5 il r.1.1 r.1.2 x.cond.args,.sli 7 Qm r.2.1 r.2.2 x.cond.test.kids]
def Mr (x:ir)(r:(Option Addr×Nat)×(Option Addr×Nat)):List Value:=[.slice r.1.1 x.has.length r.1.2,.slice r.2.1 x.vals.length r.2.2,.pointer (Option.map pA x.up),.int .i64 (x.id),.map (some x.kidsA),.map (Option.map Prod.fst x.blocks)]
def wK (x:ir)(r:(Option Addr×Nat)×(Option Addr×Nat)):List Fact:=[.sli 1 Qf r.1.1 r.1.2 x.has,.sli 3 dq r.2.1 r.2.2 x.vals]
inductive PO where
 |net (x:fo)
 |row (x:mi)
 |alpha (x:M3)
 |join (x:va)
 |nt (x:va)
 |test (x:kC)
 |part (x:ir)
def PO.kind:PO->Nat
 | .net _=>0
 | .row _=>1
 | .alpha _=>2
 | .join _=>3
 | .nt _=>4
 | .test _=>5
 | .part _=>6
def kL {R:Type} (x:bu)(f g h:Nat->WM R):WM R:=λQ=>(∀a,x=.join a->f a Q)/\(∀a,x=.nt a->g a Q)/\(∀a,x=.test a->h a Q)
abbrev Q8:=Nat->Option PO
def gNet (s:Q8)(a:Nat):Option fo:=match s a with
 |some (.net x)=>some x
 |_=>none
theorem oB {s:Q8} {a:Nat} {x:fo} (h:gNet s a=some x):s a=some (.net x):=by
 unfold gNet at h;split at h;· cases h;assumption
 · cases h
def gRow (s:Q8)(a:Nat):Option mi:=match s a with
 |some (.row x)=>some x
 |_=>none
theorem oC {s:Q8} {a:Nat} {x:mi} (h:gRow s a=some x):s a=some (.row x):=by
 unfold gRow at h;split at h;· cases h;assumption
 · cases h
def uh (s:Q8)(a:Nat):Option M3:=match s a with
 |some (.alpha x)=>some x
 |_=>none
theorem zT {s:Q8} {a:Nat} {x:M3} (h:uh s a=some x):s a=some (.alpha x):=by
 unfold uh at h;split at h;· cases h;assumption
 · cases h
def iz (s:Q8)(a:Nat):Option va:=match s a with
 |some (.join x)=>some x
 |_=>none
theorem D6 {s:Q8} {a:Nat} {x:va} (h:iz s a=some x):s a=some (.join x):=by
 unfold iz at h;split at h;· cases h;assumption
 · cases h
def iA (s:Q8)(a:Nat):Option va:=match s a with
 |some (.nt x)=>some x
 |_=>none
theorem Gp {s:Q8} {a:Nat} {x:va} (h:iA s a=some x):s a=some (.nt x):=by
 unfold iA at h;split at h;· cases h;assumption
 · cases h
def pG (s:Q8)(a:Nat):Option kC:=match s a with
 |some (.test x)=>some x
 |_=>none
theorem D9 {s:Q8} {a:Nat} {x:kC} (h:pG s a=some x):s a=some (.test x):=by
 unfold pG at h;split at h;· cases h;assumption
 · cases h
def gPart (s:Q8)(a:Nat):Option ir:=match s a with
 |some (.part x)=>some x
 |_=>none
theorem D8 {s:Q8} {a:Nat} {x:ir} (h:gPart s a=some x):s a=some (.part x):=by
 unfold gPart at h;split at h;· cases h;assumption
 · cases h
def gg (a:Nat):PO->List Fact
 | .net x=>[pz a 85 Rq Cq x,.own 108 1 gE (.slice x.rowsP x.rows.length x.rowsC) x.rows,QE (Cz (ze jE)).X false gE x.alphasA x.alphas,QE (QZ (Qy fY)).X true j9 x.factsA x.facts]
 | .row x=>[pz a 112 Rt Cs x,.own 213 1 BV (.slice x.stepsP x.steps.length x.stepsC) x.steps,QE Qz false Qf x.wholeA x.whole]
 | .alpha x=>[pz a 209 HW rF x,.own 76 5 il (.slice x.argsP x.args.length x.argsC) x.args,QE (QZ (Qy fY)).X true j9 x.factsA x.facts]
 | .join x=>[pz a 120 Mq wJ x,QE Qz false Qf x.partsA x.parts]
 | .nt x=>[pz a 122 Rr Cr x,QE Qz false Qf x.partsA x.parts]
 | .test x=>[pz a 125 Ms wL x,QE Qz false Qf x.partsA x.parts]
 | .part x=>[pz a 133 Mr wK x,QE Qz false Qf x.kidsA x.kids,jy x.blocks (λb m=>QE (QZ (Qy fY)).X false Qf b m)]
theorem ME:Ii gg:=λa o=>by
 cases o<;>exact⟨_,_,_,_,_,_,_,rfl⟩
end
section
open Go Go.RowKit
set_option maxRecDepth 100000
set_option maxHeartbeats 4000000
theorem I5:∀{ks l:List Nat},ks.Nodup->(∀z∈ks,z∈l)->ks.length<=l.length
 |[],l,_,_=>Nat.zero_le _
 | k::ks,l,h,hs=>by
   have h1:=List.nodup_cons.1 h;have hk:k∈l:=hs k ax;have:=I5 (l:=l.erase k) h1.2 λz U=>(List.mem_erase_of_ne (λe=>h1.1 (by rw[<-e];exact U))).2 (hs z (by simp[U]));rw[List.length_erase_of_mem hk]at this;have:=List.length_pos_of_mem hk;simp only[List.length_cons];omega
theorem Kk {ks l:List Nat} {y:Nat} (h:ks.Nodup)(hs:∀z∈ks,z∈l)(hy:y∈l)(hn:y∉ks):ks.length<l.length:=by
 have:=I5 (List.nodup_cons.2 ⟨hn,h⟩) (l:=l) (by
  intro z U;rcases List.mem_cons.1 U with rfl|U;· exact hy
  · exact hs z U)
 simp only[List.length_cons]at this;omega
theorem DB {ks:List Nat} {y:Nat} (h:ks.Nodup)(hn:y∉ks):(ks++[y]).Nodup:=List.nodup_append.2 ⟨h,ax,λa ha b U e=>hn (by simp at U;rw[<-U,<-e];exact ha)⟩
theorem Xt {α:Type} {m:MS Nat α} {k:Nat} (h:k∈m.keys):∃x,m.look k=some x:=by
 obtain⟨e,he,rfl⟩:=List.mem_map.1 h
 have:fW e.1 m.es≠none:=λhn=>by
  have key:∀l:List (Nat×α×Nat),fW e.1 l=none->e∉l:=by
   intro l;induction l with
   |nil=>intro _ h;cases h
   | cons y l ih=>
     intro h hm;unfold fW at h;split at h;· cases h
     ·rename_i db;rcases List.mem_cons.1 hm with rfl|hm;· exact db rfl
      · exact ih h hm
  exact key _ hn he
 cases U:fW e.1 m.es with
 |none=>exact absurd U this
 |some x=>exact⟨x.1,by simp[MS.look,U]⟩
theorem BD {C:Ctx} {n:FD} {Q:Exit->Act->World->Prop} {Φ H H':List Fact} {S:List (Nat×Value)} {e:Exit} {U α:Type} {m:MS U α} {g b:Nat} {done:List U} {last:Option U} (i:Nat)(hi:H[i]? =some (dw m g b done last))(hH:H.set i (dw m g b done none)=H')(h:WE C n Q Φ H' S e):WE C n Q Φ H S e:=by
 subst hH;exactλa w hf hw=>h a w hf (hw.itForget i hi)
def rG (ks l:List Nat):Prop:=ks.Nodup/\∀y,y∈ks↔y∈l
def K8 {R:Type} (m:MS Nat R):WM (List Nat):=λQ=>m.keys.length<=4398046511104/\∀ks,rG ks m.keys->Q ks
theorem EZ {α R:Type} {m:MS Nat α} {K:List Nat->WM R} {Q:R->Prop} (h:eH (K8 m) K Q):m.keys.length<=4398046511104/\∀ks,rG ks m.keys->K ks Q:=h
theorem a0c:Tryz.prog.underlying 109=some (.map 127 4):=au
theorem a1y:QP Tryz.prog 109=some 1:=au
theorem a1v:eY Tryz.prog 109=some false:=au
theorem UZ:QP Tryz.prog 535=some 1:=au
theorem a0a:eY Tryz.prog 535=some false:=au
theorem a1x:QP Tryz.prog 127=some 1:=au
theorem a0b:fR Tryz.prog 535=some 127:=au
theorem K9 (b:Nat):QB Tryz.prog 407 [.map (some b)] [] [] (λv bo Hr=>∃g,v=.func (.func 414) #[] #[.pointer (some ⟨g,0,none⟩)]/\bo=[]/\Hr=[.blk g [.map (some b)] 109]):=by
 refine Ql Tryz.func407 rfl rfl rfl rfl λC=>?_;refine Q6 ?_;refine Qb ?_;refine u9 rfl rfl rfl (Q0 rfl) rfl rfl rfl (λg=>?_);refine Qt rfl rfl rfl (Q0 rfl) rfl ?_;refine Q2 ?_;refine Qw ?_;refine Q6 ?_;refine Qb ?_;refine wU rfl rfl rfl (Q0 rfl) rfl rfl ?_;refine Qt (S':=[_,_,_]) rfl rfl rfl rfl rfl ?_;refine Q2 ?_;refine Qw ?_;refine Qk ?_;exact rK (Hr:=[_]) [0] Tryz.results407 (iS rfl) ⟨g,rfl,rfl,rfl⟩ (λ_ _ U=>ask [] rfl U) rfl rfl (.inl rfl)
abbrev KF (g:Nat) (ks:List Nat) (p:Option Addr) (c:Nat):List Fact:=[.blk g [.slice p ks.length c] 535,.own 127 1 gE (.slice p ks.length c) ks]
theorem Uj {l fn D g gk b:Nat} {tmps:Array Value} {assign body:Code} {ps:Array Tmp} {m:MS Nat Bool} (NQ:ps.size=1)
  (rs:∀(ks:List Nat) (y:Nat) p c,ks.length<m.keys.length->xg Tryz.prog l fn ((ps.zip #[.pointer (some ⟨y,0,none⟩)]).foldl (λtmps (t,a)=>tmps.setIfInBounds t a) tmps) assign body [] (qh l {state:=.ready,pending:=none,fn:=fn,tmps:=tmps,params:=ps,assign:=assign,body:=body,defers:=D}::KF g ks p c) (λv bo Hr=>∃p' c',v=.bool true/\bo=[]/\Hr=qh l {state:=.ready,pending:=none,fn:=fn,tmps:=tmps,params:=ps,assign:=assign,body:=body,defers:=D}::KF g (ks++[y]) p' c')):
  QB Tryz.prog 414 [.func (.yield l) #[] #[],.pointer (some ⟨gk,0,none⟩)] [] (qh l {state:=.ready,pending:=none,fn:=fn,tmps:=tmps,params:=ps,assign:=assign,body:=body,defers:=D}::(KF g [] none 0++[.blk gk [.map (some b)] 109,QE Qz false Qf b m]))
   (λ_ bo Hr=>∃rr Hx,rr.state≠.busy/\rr.pending=none/\Hr=qh l rr::Hx/\(∃ks p c,rG ks m.keys/\bo=[]/\Hx=KF g ks p c++[.blk gk [.map (some b)] 109,QE Qz false Qf b m])):=by
 refine Ql Tryz.func414 rfl rfl rfl rfl λC=>?_;refine Q6 ?_;refine Qb ?_;refine LY 3 0 rfl rfl rfl (Q0 rfl) rfl rfl rfl (cs:=[_]) rfl a1y a1v rfl rfl ?_;refine MJ 4 rfl rfl rfl (Q0 rfl) rfl rfl rfl a0c (λgi=>?_);refine Q2 ?_;refine Qw ?_;refine Qn ?_
 refine Sf (σ:=List Nat×Option Addr×Nat) (λ(ks,_,_)=>ks.Nodup/\∀y∈ks,y∈m.keys) (λ(ks,_,_)=>m.keys.length-ks.length) (λ_=>[(5,.pointer (some ⟨gi,0,none⟩)),(0,.func (.yield l) #[] #[])]) (λ_=>[])
  (λ(ks,p,c)=>dw m gi b ks none::qh l {state:=.ready,pending:=none,fn:=fn,tmps:=tmps,params:=ps,assign:=assign,body:=body,defers:=D}::(KF g ks p c++[.blk gk [.map (some b)] 109,QE Qz false Qf b m])) ([],none,0) ⟨List.nodup_nil,λ_ h=>by cases h⟩ [5,0] rfl (λ_ _ U=>ask [] rfl U) rfl (λs_ hm=>?_)
 obtain⟨ks,p,c⟩:=s_;try dsimp only at hm⊢
 refine Q6 ?_;refine Qb ?_;refine MQ 0 5 rfl rfl rfl (Q0 rfl) rfl rfl rfl rfl (λmJ=>?_) (λk kv hk Dn=>?_)
 ·refine Qt rfl rfl rfl (Q0 rfl) rfl ?_;refine Q2 ?_;refine Qw ?_;refine Q6 ?_;refine Cx rfl ?_;refine ie ?_;refine Qc ?_;refine Qc ?_;refine Qx ?_;exact tC (Hr:=[_,_,_,_,_]) [1,2,3,4,5] Tryz.results414 ⟨_,_,ax,rfl,rfl,ks,p,c,⟨hm.1,λy=>⟨hm.2 y,λh=>mJ y h⟩⟩,rfl,rfl⟩ (λ_ _ U=>ask [] rfl U) rfl rfl (.inr rfl)
 ·refine Qt rfl rfl rfl (Q0 rfl) rfl ?_;refine Q2 ?_;refine Qw ?_;refine Q6 ?_;refine M1 rfl ?_;refine QV ?_;refine Qw ?_;refine Qn ?_;refine Q6 ?_;refine Qb ?_;obtain⟨x,hx⟩:∃x,m.look k=some x:=Xt hk;refine MH (a:=x) LN 0 5 rfl rfl rfl (Q0 rfl) rfl rfl rfl rfl hx (u:=λ_=>.bool x) (λ_=>rfl) (v:=λ_=>.tuple #[.pointer (some ⟨k,0,none⟩),.bool x]) (λ_=>rfl) (λ_ _=>?_);refine Qt rfl rfl rfl (Q0 rfl) rfl ?_;refine Qt rfl rfl rfl (Q0 rfl) rfl ?_;refine Q2 ?_;refine Qw ?_;refine Q6 ?_;refine u6 ?_;refine Pq (P:=Tryz.prog) (l2:=[_,_]) [_,_] rfl rfl ?_;refine Qt rfl rfl rfl (Q0 rfl) rfl ?_;refine Qt rfl rfl rfl (Q0 rfl) rfl ?_;refine Q2 ?_;refine Ro ?_;have bq:=Kk hm.1 hm.2 hk Dn;refine wy [1,2,3] [0,4,5] rfl rfl rfl (Q0 rfl) rfl rfl rfl rfl NQ.symm (rs ks k p c bq) (λ_ _ U=>ask [] rfl U) rfl rfl ?_;rintro _ _ _ ⟨p',c',rfl,rfl,rfl⟩;refine Pq (P:=Tryz.prog) (l2:=[]) [_] rfl rfl ?_;refine Qt rfl rfl rfl (Q0 rfl) rfl ?_;refine Q2 ?_;refine ph ?_;refine Qw ?_;refine Cx rfl ?_;refine QV ?_;refine Q9 ?_;refine BD 3 rfl rfl ?_;refine Qh [3,0,1,2,4,5] rfl (H':=[_,_,_,_,_,_]) rfl ?_
  refine MG (ks++[k],p',c') (by simp only[List.length_append,List.length_cons,List.length_nil];omega) ⟨DB hm.1 Dn,λy hy=>by
   rcases List.mem_append.1 hy with h|h;· exact hm.2 y h
   · rw[List.mem_singleton.1 h];exact hk⟩ [5,0] rfl (λ_ _ U=>ask [] rfl U) rfl
theorem a1w:gO Tryz.prog 127=some (.pointer none,1,8):=au
theorem a1z:gW Tryz.prog 127=some (.pointer none):=au
theorem Is {b gk:Nat} {m:MS Nat Bool} (hlen:m.keys.length<=4398046511104):QB Tryz.prog 413 [.slice none 0 0,.func (.func 414) #[] #[.pointer (some ⟨gk,0,none⟩)]] [] [.blk gk [.map (some b)] 109,QE Qz false Qf b m]
  (λv bo Hr=>∃ks p c,rG ks m.keys/\v=.slice p ks.length c/\bo=[]/\Hr=[.own 127 1 gE (.slice p ks.length c) ks,.blk gk [.map (some b)] 109,QE Qz false Qf b m]):=by
 refine B8 Tryz.func413 rfl rfl rfl rfl λC=>?_;refine Q6 ?_;refine Qb ?_;refine u9 rfl rfl rfl (Q0 rfl) rfl rfl rfl (λg=>?_);refine Qt rfl rfl rfl (Q0 rfl) rfl ?_;refine Q2 ?_;refine I6 127 1 gE ?_;refine Qw ?_;refine Q6 ?_;refine Q6 ?_;refine Qb ?_;refine Qt rfl rfl rfl (Q0 rfl) rfl ?_;refine Q2 ?_;refine Qw ?_;refine Qn ?_;refine kc [6,2] (S':=[_,_]) rfl ?_;refine BB (Φf:=[]) (H':=[rO []]) [0,3,2,5,6] [1,4] rfl au (λ_ _=>rfl) (λ_ _ bj=>ask [] rfl bj) rfl (λ_ _=>rfl) (λfn l D a hf=>Uj rfl λks y p c bq=>?_) (λD bo Hx hR=>?_)
 ·refine B3 (Jq (k:=13) hf rfl rfl) λC=>?_
  ·refine Qb2 ?_;refine Pq (P:=Tryz.prog) (l2:=[]) [_] rfl rfl ?_;refine Qt rfl rfl rfl (Q0 rfl) rfl ?_;refine Q2 ?_;refine ph ?_;refine BC 0 rfl rfl rfl ?_;refine wu ?_;refine Qb2 ?_;refine Pq (P:=Tryz.prog) (l2:=[]) [_,_,_,_,_] rfl rfl ?_;refine LY 1 0 rfl rfl rfl (Q0 rfl) rfl rfl rfl (cs:=[_]) rfl UZ a0a rfl rfl ?_;refine Qt rfl rfl rfl (Q0 rfl) rfl ?_;refine QW rfl rfl rfl (Q0 rfl) rfl a0b a1x a1z rfl (zs:=[.pointer none]) au rfl (out:=[_]) rfl (λg2=>?_);refine FU [y] 3 0 rfl rfl rfl (Q0 rfl) rfl rfl rfl rfl rfl (λF w bj=>⟨[.pointer (some ⟨y,0,none⟩)],[],rfl,rfl,⟨(),rfl,QL⟩,rfl⟩) a0b a1w rfl rfl (by simp only[List.length_cons,List.length_nil];omega) (by simp only[List.length_cons,List.length_nil];omega) (H2:=λp' U=>[_,_,_,.own 127 1 gE (.slice p' ((ks++[y]).length) U) (ks++[y])]) (λ_ _=>rfl) (λp' U=>?_);refine BH 2 0 rfl rfl rfl rfl rfl rfl rfl UZ rfl rfl rfl (all':=[_]) rfl (H':=[_,_,_,_]) rfl ?_;refine Q2 ?_;refine ph ?_;refine Q9 ?_;refine Qh [1,2,3] rfl (H':=[_,_,_]) rfl ?_;exact pZ 0 rfl rfl ⟨p',U,rfl,rfl,rfl⟩
 ·obtain⟨ks,p,c,hk,rfl,rfl⟩:=hR;refine FJ (Ds:=[]) (Es:=[D]) 5 4 rfl rfl rfl rfl ?_;refine Q9 ?_;refine Qw ?_;refine Q6 ?_;refine Qb ?_;refine LY 0 0 rfl rfl rfl (Q0 rfl) rfl rfl rfl (cs:=[_]) rfl UZ a0a rfl rfl ?_;refine Qt (S':=[_,_,_]) rfl rfl rfl rfl rfl ?_;refine Q2 ?_;refine Qw ?_;refine Qk ?_;refine Qh [4,1,2,3] rfl (H':=[rO [D],_,_,_]) rfl ?_;exact BE (Ds:=[D]) (.inr rfl) rfl rfl (results_tmp Tryz.results413 rfl) ⟨ks,p,c,hk,rfl,rfl,rfl⟩
theorem vm {b gk:Nat} {m:MS Nat Bool} (hlen:m.keys.length<=4398046511104):QB Tryz.prog 406 [.func (.func 414) #[] #[.pointer (some ⟨gk,0,none⟩)]] [] [.blk gk [.map (some b)] 109,QE Qz false Qf b m]
  (λv bo Hr=>∃ks p c,rG ks m.keys/\v=.slice p ks.length c/\bo=[]/\Hr=[.own 127 1 gE (.slice p ks.length c) ks,.blk gk [.map (some b)] 109,QE Qz false Qf b m]):=by
 refine Ql Tryz.func406 rfl rfl rfl rfl λC=>?_;refine Q6 ?_;refine Qb ?_;refine Qt rfl rfl rfl (Q0 rfl) rfl ?_;refine Q2 ?_;refine Qw ?_;refine Q6 ?_;refine Qb ?_;refine Qt rfl rfl rfl (Q0 rfl) rfl ?_;refine yI [0,1] [] rfl rfl rfl (Q0 rfl) rfl rfl au rfl (Is hlen) (λ_ _ U=>ask [] rfl U) rfl (H':=[]) rfl ?_;rintro _ _ _ ⟨ks,p,c,hk,rfl,rfl,rfl⟩;refine Qt (S':=[_,_,_]) rfl rfl rfl rfl rfl ?_;refine Q2 ?_;refine Qw ?_;refine Qk ?_;exact rK (Hr:=[_,_,_]) [0,1,2] Tryz.results406 (iS rfl) ⟨ks,p,c,hk,rfl,rfl,rfl⟩ (λ_ _ U=>ask [] rfl U) rfl rfl (.inl rfl)
end
section
open Go Go.RowKit
section
variable {P:Program} {C:Ctx} {n:FD} {Q:Exit->Act->World->Prop} {Φ Φ':List Fact} {H H':List Fact} {S S':List (Nat×Value)} {ops:Array Oper} {rest:List Oper} {o:Oper} {d:Nat}
def Kv (P:Program)(t:TypeId):Bool:=match P.underlying t with
 |some (.interface _)=>false
 |some _=>true
 |none=>false
theorem Qb5 {t:TypeId} {x:Operand} {v:Value} (hg:QI ops S o=some true)(hd:o.dst=some d)(hn:Nat.blt d n=true)(hS:eL d S=S')(ho:o.op=.makeInterface t x)(hx:de S x=some v)(U:Kv P t=true)
  (next:WL P C n Q Φ H ((d,.iface t v)::S') ops rest):WL P C n Q Φ H S ops (o::rest):=
 HF hg hd hn hS (λa w hf _=>by
  unfold Kv at U;unfold execOp;simp only[ho,hf.eval hx,Instr.makeInterface,Sem.run_bind];split at U;· cases U
  ·rename_i u db hu;simp only[run_underlying hu,Result.andThen_ok];rfl
  · cases U) next
end
end
end Go.Proofs.YtocfkfhdcnjklaaGreatDoor
