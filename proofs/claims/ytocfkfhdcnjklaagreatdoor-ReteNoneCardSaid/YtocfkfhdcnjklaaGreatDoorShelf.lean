import Derived.Shelf.Strings.Trim
import Derived.Shelf.Small.Utf8
import Derived.Shelf.Small.Bits
import Derived.Shelf.Small.Strs
import Derived.Shelf.Small.Wraps
import Derived.Shelf.Strconv.Itoa0
import Derived.Shelf.Strconv.Itoa1
import Derived.Shelf.LaysM
import Derived.Shelf.Strconv.Itoa2
import Derived.Shelf.Strconv.Itoa3
import Derived.Shelf.Strconv.Itoa4
import Derived.Shelf.Strings.Search1
import Derived.Shelf.Strings.Runes
import Derived.Shelf.Strings.AsciiSet
import Derived.Shelf.Bits.Mul64
import Derived.Shelf.Unicode.DecodeSlow
import Derived.Ground.Names2Prog
import Derived.Shelf.Slices.Clone
import Derived.Shelf.Slices.SearchI
import Derived.Ground.SlgmProg
import Derived.Shelf.SortM.Plain
import Derived.Shelf.SortM.SortNone
import Derived.Laws.BytesArg
import Derived.Laws.BytesString
import Derived.Laws.IdiomStrings
import Derived.Lib.LaidTab
import Derived.Lib.ItoaNum
import Derived.LaidSub
import Derived.Shelf.Strings.SlTrimAscii
import Derived.Deep.Draws
import Derived.Test.YtocfkfhdcnjklaaGreatDoorPool
import Derived.SizedLaws
import Derived.Lib.AppendZeros
import Derived.Defers
import Derived.Recover
namespace Go.Proofs.YtocfkfhdcnjklaaGreatDoor
end Go.Proofs.YtocfkfhdcnjklaaGreatDoor
namespace Go.Proofs
open Go.Shelf
def Tryz.lays160_ren:Go.Shelf.Ren:=⟨λ|160=>181|232=>268|231=>267|227=>269|234=>271|233=>270|236=>273|235=>272|228=>328|271=>331|151=>330|197=>329|120=>359|152=>358|260=>357|137=>180|119=>377|224=>378|225=>379|217=>266|266=>327|n=>n,λ|9=>9|4=>4|3=>3|5=>5|117=>431|116=>430|0=>0|124=>434|21=>21|105=>479|46=>230|119=>507|139=>510|138=>509|n=>n,λ|3=>2|4=>3|n=>n⟩
theorem Tryz.lays160:Go.Proofs.Lays.n160 Tryz.prog Tryz.lays160_ren:={
 mixed:=by kernel_rfl
 f119:=Tryz.func377.trans (congrArg some (by kernel_rfl))
 f120:=Tryz.func359.trans (congrArg some (by kernel_rfl))
 f137:=Tryz.func180.trans (congrArg some (by kernel_rfl))
 f151:=Tryz.func330.trans (congrArg some (by kernel_rfl))
 f152:=Tryz.func358.trans (congrArg some (by kernel_rfl))
 f160:=Tryz.func181.trans (congrArg some (by kernel_rfl))
 f197:=Tryz.func329.trans (congrArg some (by kernel_rfl))
 f217:=Tryz.func266.trans (congrArg some (by kernel_rfl))
 f224:=Tryz.func378.trans (congrArg some (by kernel_rfl))
 f225:=Tryz.func379.trans (congrArg some (by kernel_rfl))
 f227:=Tryz.func269.trans (congrArg some (by kernel_rfl))
 f228:=Tryz.func328.trans (congrArg some (by kernel_rfl))
 f231:=Tryz.func267.trans (congrArg some (by kernel_rfl))
 f232:=Tryz.func268.trans (congrArg some (by kernel_rfl))
 f233:=Tryz.func270.trans (congrArg some (by kernel_rfl))
 f234:=Tryz.func271.trans (congrArg some (by kernel_rfl))
 f235:=Tryz.func272.trans (congrArg some (by kernel_rfl))
 f236:=Tryz.func273.trans (congrArg some (by kernel_rfl))
 f260:=Tryz.func357.trans (congrArg some (by kernel_rfl))
 f266:=Tryz.func327.trans (congrArg some (by kernel_rfl))
 f271:=Tryz.func331.trans (congrArg some (by kernel_rfl))
 t0:=Tryz.underlying0
 a0:=Tryz.isAgg0
 z0:=Tryz.sizeOf0
 v0:=Tryz.zeroValue0
 t3:=Tryz.underlying3
 a3:=Tryz.isAgg3
 z3:=Tryz.sizeOf3
 v3:=Tryz.zeroValue3
 t4:=Tryz.underlying4
 a4:=Tryz.isAgg4
 z4:=Tryz.sizeOf4
 v4:=Tryz.zeroValue4
 t5:=Tryz.underlying5
 a5:=Tryz.isAgg5
 z5:=Tryz.sizeOf5
 v5:=Tryz.zeroValue5
 t9:=Tryz.underlying9
 a9:=Tryz.isAgg9
 z9:=Tryz.sizeOf9
 v9:=Tryz.zeroValue9
 t21:=Tryz.underlying21
 a21:=Tryz.isAgg21
 z21:=Tryz.sizeOf21
 v21:=Tryz.zeroValue21
 t46:=Tryz.underlying230
 a46:=Tryz.isAgg230
 z46:=Tryz.sizeOf230
 v46:=Tryz.zeroValue230
 t105:=Tryz.underlying479
 a105:=Tryz.isAgg479
 z105:=Tryz.sizeOf479
 v105:=Tryz.zeroValue479
 t116:=Tryz.underlying430
 a116:=Tryz.isAgg430
 z116:=Tryz.sizeOf430
 t117:=Tryz.underlying431
 a117:=Tryz.isAgg431
 z117:=Tryz.sizeOf431
 v117:=Tryz.zeroValue431
 t119:=Tryz.underlying507
 a119:=Tryz.isAgg507
 z119:=Tryz.sizeOf507
 t124:=Tryz.underlying434
 a124:=Tryz.isAgg434
 z124:=Tryz.sizeOf434
 v124:=Tryz.zeroValue434
 t138:=Tryz.underlying509
 a138:=Tryz.isAgg509
 z138:=Tryz.sizeOf509
 v138:=Tryz.zeroValue509
 t139:=Tryz.underlying510
 a139:=Tryz.isAgg510
 z139:=Tryz.sizeOf510
 v139:=Tryz.zeroValue510
 g3:=by kernel_rfl
 g4:=by kernel_rfl}
def Tryz.lays137_ren:Go.Shelf.Ren:=⟨λ|137=>180|217=>266|266=>327|n=>n,λ|9=>9|5=>5|3=>3|n=>n,λ|n=>n⟩
theorem Tryz.lays137:Go.Proofs.Lays.n137 Tryz.prog Tryz.lays137_ren:={
 mixed:=by kernel_rfl
 f137:=Tryz.func180.trans (congrArg some (by kernel_rfl))
 f217:=Tryz.func266.trans (congrArg some (by kernel_rfl))
 f266:=Tryz.func327.trans (congrArg some (by kernel_rfl))
 t3:=Tryz.underlying3
 a3:=Tryz.isAgg3
 z3:=Tryz.sizeOf3
 v3:=Tryz.zeroValue3
 t5:=Tryz.underlying5
 a5:=Tryz.isAgg5
 z5:=Tryz.sizeOf5
 v5:=Tryz.zeroValue5
 t9:=Tryz.underlying9
 a9:=Tryz.isAgg9
 z9:=Tryz.sizeOf9
 v9:=Tryz.zeroValue9}
open Go.RowKit in
theorem Tryz.strings_IndexByte (s:ByteArray)(c:Int)(w:World):
 Calls Tryz.prog 180 #[.string s,.int .u8 c] w λe U=>e=.returned (.int .i64 (Lib.indexByte s.data.toList c.toNat.toUInt8))/\U=w:=Any.strings_IndexByte Tryz.lays137 s c w
def Tryz.laysM171_ren:Go.Shelf.Ren:=⟨λ|171=>85|243=>165|246=>258|283=>316|284=>317|285=>318|286=>319|129=>191|317=>350|318=>351|319=>352|320=>353|337=>373|338=>374|n=>n,λ|3=>3|9=>9|2=>2|4=>4|171=>471|0=>0|53=>322|37=>329|5=>5|173=>473|212=>498|51=>320|20=>20|213=>499|46=>230|232=>515|233=>516|n=>n,λ|17=>0|18=>4|19=>5|n=>n⟩
theorem Tryz.laysM171:Go.Proofs.LaysM.n171 Tryz.prog Tryz.laysM171_ren:={
 mixed:=by kernel_rfl
 f129:=Tryz.func191.trans (congrArg some (by kernel_rfl))
 f171:=Tryz.func85.trans (congrArg some (by kernel_rfl))
 f243:=Tryz.func165.trans (congrArg some (by kernel_rfl))
 f246:=Tryz.func258.trans (congrArg some (by kernel_rfl))
 f283:=Tryz.func316.trans (congrArg some (by kernel_rfl))
 f284:=Tryz.func317.trans (congrArg some (by kernel_rfl))
 f285:=Tryz.func318.trans (congrArg some (by kernel_rfl))
 f286:=Tryz.func319.trans (congrArg some (by kernel_rfl))
 f317:=Tryz.func350.trans (congrArg some (by kernel_rfl))
 f318:=Tryz.func351.trans (congrArg some (by kernel_rfl))
 f319:=Tryz.func352.trans (congrArg some (by kernel_rfl))
 f320:=Tryz.func353.trans (congrArg some (by kernel_rfl))
 f337:=Tryz.func373.trans (congrArg some (by kernel_rfl))
 f338:=Tryz.func374.trans (congrArg some (by kernel_rfl))
 t0:=Tryz.underlying0
 a0:=Tryz.isAgg0
 z0:=Tryz.sizeOf0
 v0:=Tryz.zeroValue0
 t2:=Tryz.underlying2
 a2:=Tryz.isAgg2
 z2:=Tryz.sizeOf2
 v2:=Tryz.zeroValue2
 t3:=Tryz.underlying3
 a3:=Tryz.isAgg3
 z3:=Tryz.sizeOf3
 v3:=Tryz.zeroValue3
 t4:=Tryz.underlying4
 a4:=Tryz.isAgg4
 z4:=Tryz.sizeOf4
 v4:=Tryz.zeroValue4
 t5:=Tryz.underlying5
 a5:=Tryz.isAgg5
 z5:=Tryz.sizeOf5
 v5:=Tryz.zeroValue5
 t9:=Tryz.underlying9
 a9:=Tryz.isAgg9
 z9:=Tryz.sizeOf9
 v9:=Tryz.zeroValue9
 t20:=Tryz.underlying20
 a20:=Tryz.isAgg20
 z20:=Tryz.sizeOf20
 v20:=Tryz.zeroValue20
 t37:=Tryz.underlying329
 a37:=Tryz.isAgg329
 z37:=Tryz.sizeOf329
 v37:=Tryz.zeroValue329
 t46:=Tryz.underlying230
 a46:=Tryz.isAgg230
 z46:=Tryz.sizeOf230
 v46:=Tryz.zeroValue230
 t51:=Tryz.underlying320
 a51:=Tryz.isAgg320
 z51:=Tryz.sizeOf320
 v51:=Tryz.zeroValue320
 t53:=Tryz.underlying322
 a53:=Tryz.isAgg322
 z53:=Tryz.sizeOf322
 v53:=Tryz.zeroValue322
 t171:=Tryz.underlying471
 a171:=Tryz.isAgg471
 z171:=Tryz.sizeOf471
 v171:=Tryz.zeroValue471
 t173:=Tryz.underlying473
 a173:=Tryz.isAgg473
 z173:=Tryz.sizeOf473
 v173:=Tryz.zeroValue473
 t212:=Tryz.underlying498
 a212:=Tryz.isAgg498
 z212:=Tryz.sizeOf498
 v212:=Tryz.zeroValue498
 t213:=Tryz.underlying499
 a213:=Tryz.isAgg499
 z213:=Tryz.sizeOf499
 t232:=Tryz.underlying515
 a232:=Tryz.isAgg515
 z232:=Tryz.sizeOf515
 v232:=Tryz.zeroValue515
 t233:=Tryz.underlying516
 a233:=Tryz.isAgg516
 z233:=Tryz.sizeOf516
 v233:=Tryz.zeroValue516
 g17:=by kernel_rfl
 g18:=by kernel_rfl
 g19:=by kernel_rfl
 i0:=by kernel_rfl
 i2:=by kernel_rfl
 i3:=by kernel_rfl
 i4:=by kernel_rfl
 i5:=by kernel_rfl
 i9:=by kernel_rfl
 i20:=by kernel_rfl
 i37:=by kernel_rfl
 i46:=by kernel_rfl
 i51:=by kernel_rfl
 i53:=by kernel_rfl
 i171:=by kernel_rfl
 i173:=by kernel_rfl
 i212:=by kernel_rfl
 i232:=by kernel_rfl
 i233:=by kernel_rfl
 m17:=by kernel_rfl
 m18:=by kernel_rfl
 m19:=by kernel_rfl}
open Go.RowKit Go.Sort Go.Lib in
theorem Tryz.strconv_Itoa (n:Int)(h0:-9223372036854775808<=n)(h1:n<=9223372036854775807)(w:World)(U:Lib.TabIs Tryz.prog w "internal/strconv.uint64pow10" .u64 Lib.pow10Tab):
 Calls Tryz.prog 85 #[.int .i64 n] w λe w'=>e=.returned (.string ⟨(Lib.itoa n).toArray⟩)/\∃k os,w'=grow (w.drewN k) os:=Any.strconv_Itoa Tryz.laysM171 n h0 h1 w U
def Tryz.laysM173_ren:Go.Shelf.Ren:=⟨λ|173=>166|246=>258|283=>316|284=>317|285=>318|286=>319|129=>191|317=>350|318=>351|319=>352|320=>353|337=>373|338=>374|n=>n,λ|2=>2|3=>3|9=>9|4=>4|171=>471|0=>0|53=>322|37=>329|5=>5|173=>473|212=>498|51=>320|20=>20|213=>499|46=>230|232=>515|233=>516|n=>n,λ|17=>0|18=>4|19=>5|n=>n⟩
theorem Tryz.laysM173:Go.Proofs.LaysM.n173 Tryz.prog Tryz.laysM173_ren:={
 mixed:=by kernel_rfl
 f129:=Tryz.func191.trans (congrArg some (by kernel_rfl))
 f173:=Tryz.func166.trans (congrArg some (by kernel_rfl))
 f246:=Tryz.func258.trans (congrArg some (by kernel_rfl))
 f283:=Tryz.func316.trans (congrArg some (by kernel_rfl))
 f284:=Tryz.func317.trans (congrArg some (by kernel_rfl))
 f285:=Tryz.func318.trans (congrArg some (by kernel_rfl))
 f286:=Tryz.func319.trans (congrArg some (by kernel_rfl))
 f317:=Tryz.func350.trans (congrArg some (by kernel_rfl))
 f318:=Tryz.func351.trans (congrArg some (by kernel_rfl))
 f319:=Tryz.func352.trans (congrArg some (by kernel_rfl))
 f320:=Tryz.func353.trans (congrArg some (by kernel_rfl))
 f337:=Tryz.func373.trans (congrArg some (by kernel_rfl))
 f338:=Tryz.func374.trans (congrArg some (by kernel_rfl))
 t0:=Tryz.underlying0
 a0:=Tryz.isAgg0
 z0:=Tryz.sizeOf0
 v0:=Tryz.zeroValue0
 t2:=Tryz.underlying2
 a2:=Tryz.isAgg2
 z2:=Tryz.sizeOf2
 v2:=Tryz.zeroValue2
 t3:=Tryz.underlying3
 a3:=Tryz.isAgg3
 z3:=Tryz.sizeOf3
 v3:=Tryz.zeroValue3
 t4:=Tryz.underlying4
 a4:=Tryz.isAgg4
 z4:=Tryz.sizeOf4
 v4:=Tryz.zeroValue4
 t5:=Tryz.underlying5
 a5:=Tryz.isAgg5
 z5:=Tryz.sizeOf5
 v5:=Tryz.zeroValue5
 t9:=Tryz.underlying9
 a9:=Tryz.isAgg9
 z9:=Tryz.sizeOf9
 v9:=Tryz.zeroValue9
 t20:=Tryz.underlying20
 a20:=Tryz.isAgg20
 z20:=Tryz.sizeOf20
 v20:=Tryz.zeroValue20
 t37:=Tryz.underlying329
 a37:=Tryz.isAgg329
 z37:=Tryz.sizeOf329
 v37:=Tryz.zeroValue329
 t46:=Tryz.underlying230
 a46:=Tryz.isAgg230
 z46:=Tryz.sizeOf230
 v46:=Tryz.zeroValue230
 t51:=Tryz.underlying320
 a51:=Tryz.isAgg320
 z51:=Tryz.sizeOf320
 v51:=Tryz.zeroValue320
 t53:=Tryz.underlying322
 a53:=Tryz.isAgg322
 z53:=Tryz.sizeOf322
 v53:=Tryz.zeroValue322
 t171:=Tryz.underlying471
 a171:=Tryz.isAgg471
 z171:=Tryz.sizeOf471
 v171:=Tryz.zeroValue471
 t173:=Tryz.underlying473
 a173:=Tryz.isAgg473
 z173:=Tryz.sizeOf473
 v173:=Tryz.zeroValue473
 t212:=Tryz.underlying498
 a212:=Tryz.isAgg498
 z212:=Tryz.sizeOf498
 v212:=Tryz.zeroValue498
 t213:=Tryz.underlying499
 a213:=Tryz.isAgg499
 z213:=Tryz.sizeOf499
 t232:=Tryz.underlying515
 a232:=Tryz.isAgg515
 z232:=Tryz.sizeOf515
 v232:=Tryz.zeroValue515
 t233:=Tryz.underlying516
 a233:=Tryz.isAgg516
 z233:=Tryz.sizeOf516
 v233:=Tryz.zeroValue516
 g17:=by kernel_rfl
 g18:=by kernel_rfl
 g19:=by kernel_rfl
 i0:=by kernel_rfl
 i2:=by kernel_rfl
 i3:=by kernel_rfl
 i4:=by kernel_rfl
 i5:=by kernel_rfl
 i9:=by kernel_rfl
 i20:=by kernel_rfl
 i37:=by kernel_rfl
 i46:=by kernel_rfl
 i51:=by kernel_rfl
 i53:=by kernel_rfl
 i171:=by kernel_rfl
 i173:=by kernel_rfl
 i212:=by kernel_rfl
 i232:=by kernel_rfl
 i233:=by kernel_rfl
 m17:=by kernel_rfl
 m18:=by kernel_rfl
 m19:=by kernel_rfl}
open Go.RowKit Go.Sort Go.Lib in
theorem Tryz.strconv_FormatInt_10 (n:Int)(h0:-9223372036854775808<=n)(h1:n<=9223372036854775807)(w:World)(U:Lib.TabIs Tryz.prog w "internal/strconv.uint64pow10" .u64 Lib.pow10Tab):
 Calls Tryz.prog 166 #[.int .i64 n,.int .i64 10] w λe w'=>e=.returned (.string ⟨(Lib.itoa n).toArray⟩)/\∃k os,w'=grow (w.drewN k) os:=Any.strconv_FormatInt_10 Tryz.laysM173 n h0 h1 w U
def Tryz.lays264_ren:Go.Shelf.Ren:=⟨λ|264=>380|n=>n,λ|53=>322|46=>230|n=>n,λ|n=>n⟩
theorem Tryz.lays264:Go.Proofs.Lays.n264 Tryz.prog Tryz.lays264_ren:={
 mixed:=by kernel_rfl
 f264:=Tryz.func380.trans (congrArg some (by kernel_rfl))
 t46:=Tryz.underlying230
 a46:=Tryz.isAgg230
 z46:=Tryz.sizeOf230
 v46:=Tryz.zeroValue230
 t53:=Tryz.underlying322
 a53:=Tryz.isAgg322
 z53:=Tryz.sizeOf322
 v53:=Tryz.zeroValue322}
open Go.RowKit Go.Lib in
theorem Tryz.bits_Mul64 (x y:Nat)(U:x<18446744073709551616)(hy:y<18446744073709551616)(w:World):
 Calls Tryz.prog 380 #[.int .u64 x,.int .u64 y] w λe w'=>e=.returned (.tuple #[.int .u64 ((x*y/18446744073709551616:Nat):Int),.int .u64 ((x*y%18446744073709551616:Nat):Int)])/\w'=w:=Any.bits_Mul64 Tryz.lays264 x y U hy w
end Go.Proofs
namespace Go.Proofs.YtocfkfhdcnjklaaGreatDoor
section
open Go Go.RowKit
theorem vX {P:Program} {f:FuncId} {args:List Value} {v:Value} (h:∀w,Calls P f args.toArray w λe U=>e=.returned v/\Below w.heap.size w U):QA P f args [] [] (λu bo Hr=>u=v/\bo=[]/\Hr=[]):=by
 intro F N w hF _ _ _ _;refine(h w).mono λe U ⟨he,hb⟩=>⟨v,[],[],he,⟨rfl,rfl,rfl⟩,?_⟩
 have h0:Qj ⟨w,λk=>∃i,i<([]:List Fact).length/\N i k,F⟩ [] [] w:=
  ⟨F,N,hF,λ_ h=>h,λ_ h=>.inl h,λφ bh=>(by cases bh),λi φ h=>(by simp at h),λi k hi=>(by simp at hi),λi j k hi=>(by simp at hi),Mod.refl _ _⟩
 exact h0.drew' hb
theorem vY {P:Program} {f:FuncId} {args:List Value} {v:Value} (h:∀w,Calls P f args.toArray w λe U=>e=.returned v/\U=w):QA P f args [] [] (λu bo Hr=>u=v/\bo=[]/\Hr=[]):=
 vX λw=>(h w).mono λe U ⟨he,hw⟩=>⟨he,hw▸Below.refl _ _⟩
end
section
open Go Go.RowKit
def L6 (P:Program)(name:String)(k:IntKind)(zs:List Int)(g:Nat)(hg:P.globalNamed name=some g):Fact:=
 .raw (λN w=>N g/\Lib.TabIs P w name k zs) (λU ha h=>⟨U _ h.1,by
  have:=h.2;unfold Lib.TabIs World.var? at this⊢;rw[hg]at this⊢;simp only[Option.bind_some]at this⊢;rw[ha g h.1];exact this⟩)
theorem Oi {P:Program} {W:World} {name:String} {k:IntKind} {zs:List Int} {g:Nat} {U:P.globalNamed name=some g} (h:Lib.TabIs P W name k zs):(L6 P name k zs g U).p (λk=>k<W.heap.size) W:=by
 refine⟨?_,h⟩;unfold Lib.TabIs World.var? at h;rw[U]at h;simp only[Option.bind_some]at h;cases hb:W.heap[g]? with
 |none=>rw[hb]at h;cases h
 |some o=>exact(Array.getElem?_eq_some_iff.1 hb).1
theorem AX {P:Program} {f:FuncId} {args:List Value} {v:Value} {name:String} {k:IntKind} {zs:List Int} {g:Nat} {hg:P.globalNamed name=some g} (h:∀w,Lib.TabIs P w name k zs->Calls P f args.toArray w λe U=>e=.returned v/\Below w.heap.size w U):QA P f args [L6 P name k zs g hg] [] (λu bo Hr=>u=v/\bo=[]/\Hr=[]):=by
 intro F N w hF dV _ _ _;have ht:Lib.TabIs P w name k zs:=(dV _ (List.mem_singleton.2 rfl)).2;refine(h w ht).mono λe U ⟨he,hb⟩=>⟨v,[],[],he,⟨rfl,rfl,rfl⟩,?_⟩
 have h0:Qj ⟨w,λk=>∃i,i<([]:List Fact).length/\N i k,F⟩ [] [] w:=
  ⟨F,N,hF,λ_ h=>h,λ_ h=>.inl h,λφ bh=>(by cases bh),λi φ h=>(by simp at h),λi k hi=>(by simp at hi),λi j k hi=>(by simp at hi),Mod.refl _ _⟩
 exact h0.drew' hb
theorem Qbv (w:World):∀n,Below w.heap.size w (w.drewN n)
 |0=>Below.refl _ _
 |n+1=>(Qbv w n).drew
def jf:Nat->Nat->List UInt8
 |0,_=>[]
 |f+1,u=>if u<10 then[UInt8.ofNat (48+u)]else jf f (u/10)++[UInt8.ofNat (48+u%10)]
theorem xi:∀(f u:Nat),u<10^f->0<f->jf f u=Lib.decDigits u
 |0,_,_,h=>an
 | f+1,u,h,_=>by
   unfold jf;rw[Lib.decDigits];split;· rfl
   ·rename_i hu;cases f with
    |zero=>simp at h;omega
    | succ f=>
      rw[xi (f+1) (u/10) (by rw[Nat.pow_succ]at h;omega) an]
def ui (n:Int):ByteArray:=⟨(if n<0 then 45::jf 20 n.natAbs else jf 20 n.toNat).toArray⟩
theorem Af {n:Int} (h:-9223372036854775808<=n/\n<=9223372036854775807):(⟨(Lib.itoa n).toArray⟩:ByteArray)=ui n:=by
 have e:(10:Nat)^20=100000000000000000000:=bj
 unfold ui Lib.itoa;split;· rw[xi 20 _ (by rw[e];omega) an]
 · rw[xi 20 _ (by rw[e];omega) an]
end
section
open Go Go.RowKit
theorem yd (s:ByteArray)(c:Int):QA Tryz.prog 180 [.string s,.int .u8 c] [] [] (λu U Hr=>u=.int .i64 (Lib.indexByte s.data.toList c.toNat.toUInt8)/\U=[]/\Hr=[]):=vY λw=>Tryz.strings_IndexByte s c w
theorem Ob (s c:ByteArray)(hc:c.size<4294967281)(ha:∀(j:Nat) b,c.data.toList[j]? =some b->b.toNat<128)(hs:s.size<=9223372036854775807):QA Tryz.prog 181 [.string s,.string c] [] [] (λu U Hr=>u=.string ⟨(Lib.trimS s.data.toList c.data.toList).toArray⟩/\U=[]/\Hr=[]):=vX λw=>Any.strings_Trim_laid Tryz.lays160 au s c w hs hc ha
theorem Kw (x y:Int)(hx:0<=x/\x<18446744073709551616)(hy:0<=y/\y<18446744073709551616):QA Tryz.prog 380 [.int .u64 x,.int .u64 y] [] [] (λu U Hr=>u=.tuple #[.int .u64 ((x.toNat*y.toNat/18446744073709551616:Nat):Int),.int .u64 ((x.toNat*y.toNat%18446744073709551616:Nat):Int)]/\U=[]/\Hr=[]):=vY λw=>by
 obtain⟨a,rfl⟩:=Int.eq_ofNat_of_zero_le hx.1;obtain⟨b,rfl⟩:=Int.eq_ofNat_of_zero_le hy.1;simp only[Int.toNat_natCast];exact Tryz.bits_Mul64 a b an an w
theorem qS:Tryz.prog.globalNamed "internal/strconv.uint64pow10" =some 0:=au
abbrev tF:Fact:=L6 Tryz.prog "internal/strconv.uint64pow10" .u64 Lib.pow10Tab 0 qS
theorem yc (n:Int)(h:-9223372036854775808<=n/\n<=9223372036854775807):QA Tryz.prog 166 [.int .i64 n,.int .i64 10] [L6 Tryz.prog "internal/strconv.uint64pow10" .u64 Lib.pow10Tab 0 qS] [] (λu bo Hr=>u=.string (ui n)/\bo=[]/\Hr=[]):=by
 rw[<-Af h];refine AX λw ht=>(Tryz.strconv_FormatInt_10 n h.1 h.2 w ht).mono λe w' ⟨he,k,os,hw⟩=>⟨he,?_⟩
 subst hw;have h1:=Qbv w k
 exact ⟨h1.os,h1.tape,h1.output,Nat.le_trans h1.size (by simp[Go.Sort.grow]),λq U=>by
  have h2:=h1.block q U;have h3:q<(w.drewN k).heap.size:=Nat.lt_of_lt_of_le U h1.size;simp only[Go.Sort.grow];rw[Array.getElem?_append_left h3];exact h2⟩
theorem Oa (n:Int)(h:-9223372036854775808<=n/\n<=9223372036854775807):QA Tryz.prog 85 [.int .i64 n] [L6 Tryz.prog "internal/strconv.uint64pow10" .u64 Lib.pow10Tab 0 qS] [] (λu bo Hr=>u=.string (ui n)/\bo=[]/\Hr=[]):=by
 rw[<-Af h];refine AX λw ht=>(Tryz.strconv_Itoa n h.1 h.2 w ht).mono λe w' ⟨he,k,os,hw⟩=>⟨he,?_⟩
 subst hw;have h1:=Qbv w k
 exact ⟨h1.os,h1.tape,h1.output,Nat.le_trans h1.size (by simp[Go.Sort.grow]),λq U=>by
  have h2:=h1.block q U;have h3:q<(w.drewN k).heap.size:=Nat.lt_of_lt_of_le U h1.size;simp only[Go.Sort.grow];rw[Array.getElem?_append_left h3];exact h2⟩
end
section
open Go Go.RowKit Go.Deep
theorem DO {k:IntKind} {n:Int} (h:(Lit.int k n).wf=true):nR k n:=by
 simp only[Lit.wf,Bool.and_eq_true,decide_eq_true_eq]at h;exact h
theorem NG {x:Int} (h:nR .i64 x):-9223372036854775808<=x/\x<=9223372036854775807:=by
 have U:IntKind.min .i64=-9223372036854775808:=bj
 have e2:IntKind.max .i64=9223372036854775807:=bj
 unfold nR at h;rwa [U,e2]at h
section
variable {H:Type} {enc:TypeId×Value->H} {P:Program} {w:World} {base:Nat} {spare:Nat->Bool} {held:Bool} {fuel:Nat} {cs:List Value} {y:DataW H×List MemPlace}
def hX (P:Program)(t:TypeId)(d:DataW H):Prop:=∀n∈d.weights P t,n<=reachBytes
theorem QbB {e:TypeId} {n:Nat}:∀{ds:List (DataW H)} {d:DataW H},d∈ds->n∈d.weights P e->n∈DataW.weightsAll P e ds
 | d0::ds,d,U,hn=>by
   simp only[DataW.weightsAll,List.mem_append];rcases List.mem_cons.1 U with rfl|U;· exact .inl hn
   · exact .inr (QbB U hn)
theorem pQ {t:TypeId} {fs:Array Field} (ht:P.underlying t=some (.struct fs))(h:DataW.trod enc P w base spare held fuel t cs=some y)(hw:hX P t y.1):
  ∃n,cs.length=P.cellsOf t/\∀(i:Nat) (f:Field),fs[i]? =some f->∃z,DataW.trod enc P w base spare held n f.type ((cs.drop f.offset).take (P.cellsOf f.type))=some z/\hX P f.type z.1:=by
 obtain⟨xs,n,_,rfl,hl,hlen,hf⟩:=DataW.trod_struct ht h;refine⟨n,hl,λi f hi=>?_⟩;have U:i<xs.length:=by rw[hlen];exact(Array.getElem?_eq_some_iff.1 hi).1
 refine⟨xs[i],by have:=hf i f hi;simpa[List.getElem?_eq_getElem U]using this,λk hk=>hw k ?_⟩;simp only[DataW.weights,ht];refine DataW.weights_mem_each (j:=i) (t:=f.type) (d:=xs[i].1) ?_ ?_ k hk;· rw[List.getElem?_map,Array.getElem?_toList,hi];rfl
 · rw[List.getElem?_map,List.getElem?_eq_getElem U];rfl
theorem fC.pure {α:Type} {sz:Nat} {R:List Value->α->Prop} {q:α->Prop}:∀{l:List α} {xs:List Value},fC sz (λcs x=>R cs x/\q x) xs l->fC sz R xs l/\∀x∈l,q x
 |[],xs,h=>⟨h,ax⟩
 | x::l,xs,⟨cs,rest,h1,h2,h3,h4⟩=>by
   obtain⟨h5,h6⟩:=fC.pure h4;refine⟨⟨cs,rest,h1,h2,h3.1,h5⟩,λz U=>?_⟩;rcases List.mem_cons.1 U with rfl|U;· exact h3.2
   · exact h6 z U
theorem Gq {α:Type} {t e sz:Nat} {R:List Value->α->Prop} (ht:P.underlying t=some (.slice e))(hC:P.cellsOf e=sz)(hz:0<sz)
  (YE:∀n cs y,DataW.trod enc P w base spare held n e cs=some y->hX P e y.1->∃a,R cs a) (h:DataW.trod enc P w base spare held fuel t cs=some y) (hw:hX P t y.1):
  ∃v l,cs=[v]/\zc (λk=>k<w.heap.size) w sz R v l/\l.length*P.bytesOf e<=reachBytes:=by
 rcases open_slice ht h with⟨rfl,_⟩|⟨a,len,cap,m,n,D,Pl,rfl,hb,hl,hm,hmm,rfl,hi⟩
 · exact⟨_,[],rfl,zc.nil,ax⟩
 ·subst hC;have hle:len<=m:=by rw[hmm];split<;>omega
  have hD:∀i,i<len->hX P e (D i):=λi bp k hk=>hw k (by
   simp only[DataW.weights,ht,List.mem_cons,List.mem_append];exact .inr (.inl (QbB (d:=D i) (List.mem_map.2 ⟨i,List.mem_range.2 bp,rfl⟩) hk)))
  have iJ:len*P.bytesOf e<=reachBytes:=by
   have:=hw _ (by simp only[DataW.weights,ht];exact List.mem_cons_self);simp only[List.length_map,List.length_range]at this;exact Nat.le_trans (Nat.mul_le_mul_right _ an) this
  have key:∀k,k<=len->∃xs l,l.length=k/\fC (P.cellsOf e) R xs l/\∀j u,xs[j]? =some u->w.cell? (a.add j)=some u:=by
   intro k;induction k with
   |zero=>intro _;exact⟨[],[],rfl,rfl,ax⟩
   | succ k ih=>
     intro hk;obtain⟨xs,l,Ev,hx,hc⟩:=ih an;obtain⟨vf,h1,U⟩:=hi k an;obtain⟨_,hlen,Hj⟩:=World.cells?_some h1;obtain⟨y,hy⟩:=YE _ _ _ U (hD k an);refine⟨xs++vf,l++[y],by simp[Ev],hx.append (fC.one hy hlen),λj u hj=>?_⟩;have W9:=hx.length;rw[Ev]at W9;by_cases Hm:j<xs.length;· rw[List.getElem?_append_left Hm]at hj;exact hc j u hj
     ·rw[List.getElem?_append_right an]at hj;have h3:=(List.getElem?_eq_some_iff.1 hj).1;have:=Hj (j-xs.length) an
      rw[hj,Go.Deep.add_add]at this;rw[<-this];congr 2;omega
  obtain⟨xs,l,Ev,hx,hc⟩:=key len (Nat.le_refl _);refine⟨_,l,rfl,⟨some a,len,cap,xs,rfl,Ev.symm,hl,hm,hx,λh0=>?_⟩,by rw[Ev];exact iJ⟩;have h1:0<xs.length:=by rw[hx.length,Ev];exact Nat.mul_pos h0 hz
  have U:=hc 0 _ (List.getElem?_eq_getElem h1);have h3:a.add 0=a:=rfl;rw[h3]at U
  have hsp:a=⟨a.block,a.off,none⟩:=by
   rcases a with⟨b,o,s⟩;cases s with
   |none=>rfl
   | some s=>
     exfalso;simp only[World.cell?]at U;split at U<;>simp at U
  have bp:=World.block_lt_of_cell? w a U;refine⟨a.block,a.off,by rw[<-hsp],bp,λj u hj=>?_⟩;have:=hc j u hj;rw[hsp,Cg]at this;exact this
theorem Dj {α:Type} {t e sz:Nat} {R:eI α} {q:α->Prop} (ht:P.underlying t=some (.slice e))(hC:P.cellsOf e=sz)(hz:0<sz)
  (U:∀n cs y,DataW.trod enc P w base spare held n e cs=some y->hX P e y.1->∃a,R.p (λk=>k<w.heap.size) w cs a/\q a) {us:List Value} (h:DataW.trod enc P w base spare held fuel t us=some y) (hw:hX P t y.1):
  ∃(p:Option Addr) (c:Nat) (l:List α),us=[.slice p l.length c]/\(Fact.sli sz R p c l).p (λk=>k<w.heap.size) w/\l.length*P.bytesOf e<=reachBytes/\∀x∈l,q x:=by
 obtain⟨v,l,e1,hs,iJ⟩:=Gq (R:=λcs x=>R.p (λk=>k<w.heap.size) w cs x/\q x) ht hC hz U h hw;subst e1;obtain⟨p,n,c,xs,e2,hn,hc,hm,lT,eP⟩:=hs;subst hn;subst e2;obtain⟨h1,h2⟩:=fC.pure lT;exact⟨p,c,l,rfl,⟨p,l.length,c,xs,rfl,rfl,hc,hm,h1,eP⟩,iJ,h2⟩
theorem Am {n b k r m:Nat} (h:n*b<=r)(U:b=k)(hr:r=140737488351232)(hk:0<k)(hm:140737488351232/k=m):n<=m:=by
 subst U;subst hr;subst hm;exact(Nat.le_div_iff_mul_le hk).2 h
theorem II {U:List TypeId} {ds:List (DataW H)} (h:(DataW.weightsEach P U ds).all (·<=reachBytes)=true)(j:Nat) {t:TypeId} {d:DataW H} (ht:U[j]? =some t)(hd:ds[j]? =some d):hX P t d:=λn hn=>by
 have:=List.all_eq_true.1 h n (DataW.weights_mem_each ht hd n hn);simpa using this
theorem IJ {t:TypeId} {s:ByteArray} (h:hX P t (.lit (.string s.data.toList):DataW H)):s.size<=reachBytes:=by
 have:=h s.data.toList.length (by simp[DataW.weights]);simpa using this
end
end
section
open Go Go.RowKit Go.Deep
section
variable {α Λ:Type} (C:α->Option Addr×Nat->List Value) (kids:α->List α) (sz:Nat) (one:∀x r,∀u∈C x r,u.oneCell'=true)
def uH:Nat->eI α
 |0=>⟨λ_ _ _ _=>False,λ_ _ h=>h,λh=>h.elim⟩
 |n+1=>za C (λx r=>[.sli sz (uH n) r.1 r.2 (kids x)]) one
def AH:eI α:=⟨λF w cs x=>∃n,(uH C kids sz one n).p F w cs x,λU ha ⟨n,h⟩=>⟨n,(uH C kids sz one n).good U ha h⟩,λ⟨n,h⟩=>(uH C kids sz one n).one h⟩
end
section
variable {α:Type} {C:α->Option Addr×Nat->List Value} {kids:α->List α} {sz:Nat} {one:∀x r,∀u∈C x r,u.oneCell'=true}
theorem oK:∀{n m:Nat} {F:dW} {w:World} {cs:List Value} {x:α},n<=m->(uH C kids sz one n).p F w cs x->(uH C kids sz one m).p F w cs x
 |0,_,_,_,_,_,_,h=>h.elim
 |n+1,0,_,_,_,_,hm,_=>an
 | n +1,m+1,F,w,cs,x,hm,⟨r,h1,h2⟩=>⟨r,h1,λφ U=>by
     simp only[List.mem_cons,List.not_mem_nil,or_false]at U;subst U;exact EU (R:=uH C kids sz one n) (h2 _ (List.mem_cons_self)) (λcs x hr=>oK an hr)⟩
theorem Gu:po (AH C kids sz one) C (λ_ _=>True) (λx r=>[.sli sz (AH C kids sz one) r.1 r.2 (kids x)]):=λF w cs x ⟨n,h⟩=>by
 cases n with
 |zero=>exact h.elim
 | succ n=>
   obtain⟨r,h1,U⟩:=h;exact⟨r,h1,trivial,pW (EU (R:=uH C kids sz one n) (U _ (List.mem_cons_self)) (λcs x hr=>⟨n,hr⟩)) QP⟩
theorem rQ {F:dW} {w:World}:∀{l:List α} {U:List Value},fC sz ((AH C kids sz one).p F w) U l->∃n,fC sz ((uH C kids sz one n).p F w) U l
 |[],U,h=>⟨0,h⟩
 | x::l,U,⟨cs,rest,e1,e2,⟨n,e3⟩,e4⟩=>by
   obtain⟨m,hm⟩:=rQ e4;exact⟨max n m,cs,rest,e1,e2,oK (Nat.le_max_left _ _) e3,hm.mono λcs x _ hr=>oK (Nat.le_max_right _ _) hr⟩
theorem AJ {F:dW} {w:World} {x:α} {cs:List Value} (r:Option Addr×Nat)(qM:cs=C x r)(h:∀φ∈([.sli sz (AH C kids sz one) r.1 r.2 (kids x)]:List Fact),φ.p F w):(AH C kids sz one).p F w cs x:=by
 obtain⟨p,n,c,xs,hv,hn,hc,hm,U,eP⟩:=(h (.sli sz (AH C kids sz one) r.1 r.2 (kids x)) List.mem_cons_self:zc F w sz ((AH C kids sz one).p F w) (.slice r.1 (kids x).length r.2) (kids x))
 obtain⟨m,U⟩:=rQ U;exact⟨m+1,r,qM,pW (⟨p,n,c,xs,hv,hn,hc,hm,U,eP⟩:zc F w sz ((uH C kids sz one m).p F w) (.slice r.1 (kids x).length r.2) (kids x)) QP⟩
end
end
section
open Go.RowKit
abbrev MK (k z:Int):Int:=IntKind.wrap .i64 ((IntKind.wrap .i64 (1000003*(IntKind.wrap .i64 (k+7))))+z)
abbrev WI (x:Int):Prop:=-9223372036854775808<=x/\x<=9223372036854775807
abbrev WN (x:Nat):Prop:=x<=9223372036854775807
structure Q9 where
 name:ByteArray
 fields:Int
def Qbq (x:Q9)(_:Unit):List Value:=[.string x.name,.int .i64 x.fields]
def pj (_:Q9)(_:Unit):List Fact:=[]
def Qd:eI Q9:=za Qbq pj (by intro x r u hu;simp[Qbq]at hu;rcases hu with rfl|rfl<;>rfl)
theorem Q5N:po Qd Qbq (λ_ _=>True) pj:=Ft
def C_V (x:V)(_:Unit):List Value:=[.int .u8 x.k,.int .i64 x.n,.string x.s]
def F_V (_:V)(_:Unit):List Fact:=[]
def dq:eI V:=za C_V F_V (by intro x r u hu;simp[C_V]at hu;rcases hu with rfl|rfl|rfl<;>rfl)
theorem Ly:po dq C_V (λ_ _=>True) F_V:=Ft
def qA (x:Qq)(r:Option Addr×Nat):List Value:=[.int .i64 x.id,.int .i64 x.ty,.slice r.1 x.args.length r.2]
def DW (x:Qq)(r:Option Addr×Nat):List Fact:=[.sli 3 dq r.1 r.2 x.args]
def j0:eI Qq:=za qA DW (by intro x r u hu;simp[qA]at hu;rcases hu with rfl|rfl|rfl<;>rfl)
theorem Vr:po j0 qA (λ_ _=>True) DW:=Ft
def C5 (x:Bool)(_:Unit):List Value:=[.bool x]
def HF (_:Bool)(_:Unit):List Fact:=[]
def Qe:eI Bool:=za C5 HF (by intro x r u hu;simp[C5]at hu;subst hu;rfl)
theorem Lv:po Qe C5 (λ_ _=>True) HF:=Ft
structure Q4 where
 kind:Int
 value:V
 var:Int
 op:Int
 kids:List Q4
structure Qv where
 kind:Int
 type:Int
 args:List fl
 test:Q4
def C4 (x:fl)(_:Unit):List Value:=[.int .u8 x.k,.int .i64 x.var,.int .u8 x.v.k,.int .i64 x.v.n,.string x.v.s]
def HE (_:fl)(_:Unit):List Fact:=[]
def iC:eI fl:=za C4 HE (by intro x r u hu;simp[C4]at hu;rcases hu with rfl|rfl|rfl|rfl|rfl<;>rfl)
theorem Xj:po iC C4 (λ_ _=>True) HE:=Ft
def Qbo (x:Q4)(r:Option Addr×Nat):List Value:=[.int .u8 x.kind,.int .u8 x.value.k,.int .i64 x.value.n,.string x.value.s,.int .i64 x.var,.int .u8 x.op,.slice r.1 x.kids.length r.2]
def Qm:eI Q4:=AH Qbo (λx=>x.kids) 7 (by intro x r u hu;simp[Qbo]at hu;rcases hu with rfl|rfl|rfl|rfl|rfl|rfl|rfl<;>rfl)
def yV (x:Q4)(r:Option Addr×Nat):List Fact:=[.sli 7 Qm r.1 r.2 x.kids]
theorem Vd:po Qm Qbo (λ_ _=>True) yV:=Gu
def Qbn (x:Qv)(r:(Option Addr×Nat)×(Option Addr×Nat)):List Value:=[.int .u8 x.kind,.int .i64 x.type,.slice r.1.1 x.args.length r.1.2,.int .u8 x.test.kind,.int .u8 x.test.value.k,.int .i64 x.test.value.n,.string x.test.value.s,.int .i64 x.test.var,.int .u8 x.test.op,.slice r.2.1 x.test.kids.length r.2.2]
def pg (x:Qv)(r:(Option Addr×Nat)×(Option Addr×Nat)):List Fact:=[.sli 5 iC r.1.1 r.1.2 x.args,.sli 7 Qm r.2.1 r.2.2 x.test.kids]
def GU:eI Qv:=za Qbn pg (by intro x r u hu;simp[Qbn]at hu;rcases hu with rfl|rfl|rfl|rfl|rfl|rfl|rfl|rfl|rfl|rfl<;>rfl)
theorem Q9F:po GU Qbn (λ_ _=>True) pg:=Ft
structure wJ where
 kind:Int
 type:Int
 which:Int
 exprs:List Q4
structure Qb where
 name:ByteArray
 salience:Int
 vars:Int
 conds:List Qv
 acts:List wJ
def kJ (x:wJ)(r:Option Addr×Nat):List Value:=[.int .u8 x.kind,.int .i64 x.type,.int .i64 x.which,.slice r.1 x.exprs.length r.2]
def rj (x:wJ)(r:Option Addr×Nat):List Fact:=[.sli 7 Qm r.1 r.2 x.exprs]
def Cf:eI wJ:=za kJ rj (by intro x r u hu;simp[kJ]at hu;rcases hu with rfl|rfl|rfl|rfl<;>rfl)
theorem nW:po Cf kJ (λ_ _=>True) rj:=Ft
def Qbp (x:Qb)(r:(Option Addr×Nat)×(Option Addr×Nat)):List Value:=[.string x.name,.int .i64 x.salience,.int .i64 x.vars,.slice r.1.1 x.conds.length r.1.2,.slice r.2.1 x.acts.length r.2.2]
def ph (x:Qb)(r:(Option Addr×Nat)×(Option Addr×Nat)):List Fact:=[.sli 10 GU r.1.1 r.1.2 x.conds,.sli 4 Cf r.2.1 r.2.2 x.acts]
def Qf:eI Qb:=za Qbp ph (by intro x r u hu;simp[Qbp]at hu;rcases hu with rfl|rfl|rfl|rfl|rfl<;>rfl)
theorem Q7o:po Qf Qbp (λ_ _=>True) ph:=Ft
structure QB where
 rule:Int
 ids:List Int
def uP (x:Int)(_:Unit):List Value:=[.int .i64 x]
def Ox (_:Int)(_:Unit):List Fact:=[]
def j6:eI Int:=za uP Ox (by intro x r u hu;simp[uP]at hu;subst hu;rfl)
theorem Q9G:po j6 uP (λ_ _=>True) Ox:=Ft
def Xi (x:QB)(r:Option Addr×Nat):List Value:=[.int .i64 x.rule,.slice r.1 x.ids.length r.2]
def lW (x:QB)(r:Option Addr×Nat):List Fact:=[.sli 1 j6 r.1 r.2 x.ids]
def qB:eI QB:=za Xi lW (by intro x r u hu;simp[Xi]at hu;rcases hu with rfl|rfl<;>rfl)
theorem Q6X:po qB Xi (λ_ _=>True) lW:=Ft
def wz (x:QB)(r:Option Addr×Nat):List Fact:=[.own 3 1 j6 (.slice r.1 x.ids.length r.2) x.ids]
def BB:FH QB (Option Addr×Nat):=⟨Xi,wz,by intro x r u hu;simp[Xi]at hu;rcases hu with rfl|rfl<;>rfl⟩
theorem mi:∀x r N F w,mh (BB.G x r) N F w->qB.p (λq=>N q\/F q) w (BB.C x r) x:=by
 rintro x r N F w ⟨A0,B0,a0,b0,h0,_⟩;exact⟨r,rfl,pW (Uc h0 (λq U=>.inl (a0 q U)) (λ_ U=>.inr U)) (QP)⟩
structure HK where
 drop:Bool
 fact:Qq
def Q5G (x:HK)(r:Option Addr×Nat):List Value:=[.bool x.drop,.int .i64 x.fact.id,.int .i64 x.fact.ty,.slice r.1 x.fact.args.length r.2]
def Q82 (x:HK)(r:Option Addr×Nat):List Fact:=[.sli 3 dq r.1 r.2 x.fact.args]
def Ri:eI HK:=za Q5G Q82 (by intro x r u hu;simp[Q5G]at hu;rcases hu with rfl|rfl|rfl|rfl<;>rfl)
theorem Q42:po Ri Q5G (λ_ _=>True) Q82:=Ft
def HD (x:ByteArray)(_:Unit):List Value:=[.string x]
def Wl (_:ByteArray)(_:Unit):List Fact:=[]
def XM:eI ByteArray:=za HD Wl (by intro x r u hu;simp[HD]at hu;subst hu;rfl)
def R9 (x:Int)(_:Unit):List Value:=[.int .u8 x]
def a0g (_:Int)(_:Unit):List Fact:=[]
def a0i:eI Int:=za R9 a0g (by intro x r u hu;simp[R9]at hu;subst hu;rfl)
def xU (x:V):Prop:=nR .u8 x.k/\nR .i64 x.n/\x.s.size<=140737488351232
def NX (x:fl):Prop:=nR .u8 x.k/\nR .i64 x.var/\xU x.v
inductive cx:Q4->Prop
 |mk (x:Q4) (h0:nR .u8 x.kind) (h1:xU x.value) (h2:nR .i64 x.var) (h3:nR .u8 x.op) (h4:x.kids.length<=1759218604390) (g4:∀y∈x.kids,cx y):cx x
def mS (x:Qv):Prop:=nR .u8 x.kind/\nR .i64 x.type/\(x.args.length<=2932031007317/\∀y∈x.args,NX y)/\cx x.test
def AA (x:wJ):Prop:=nR .u8 x.kind/\nR .i64 x.type/\nR .i64 x.which/\(x.exprs.length<=1759218604390/\∀y∈x.exprs,cx y)
def xT (x:Qb):Prop:=x.name.size<=140737488351232/\nR .i64 x.salience/\nR .i64 x.vars/\(x.conds.length<=1172812402926/\∀y∈x.conds,mS y)/\(x.acts.length<=2932031007317/\∀y∈x.acts,AA y)
def AB (x:Qq):Prop:=nR .i64 x.id/\nR .i64 x.ty/\(x.args.length<=4398046510976/\∀y∈x.args,xU y)
end
section
open Go.RowKit
def Q89 (_:Nat)(h:ByteArray):Option (Bool):=if(!(h.toList==(⟨#[]⟩:ByteArray).toList))=true then(if(decide (h.size<=24))=true then(Qg (h[0]?) λs=>if(decide ((Lib.indexByte (⟨#[97,98,99,100,101,102,103,104,105,106,107,108,109,110,111,112,113,114,115,116,117,118,119,120,121,122]⟩:ByteArray).data.toList ((s.toNat:Int)).toNat.toUInt8)>=0))=true then(gd (WN h.size)<|some ((⟨(Lib.trimS h.data.toList (⟨#[97,98,99,100,101,102,103,104,105,106,107,108,109,110,111,112,113,114,115,116,117,118,119,120,121,122,48,49,50,51,52,53,54,55,56,57,95]⟩:ByteArray).data.toList).toArray⟩:ByteArray).toList==(⟨#[]⟩:ByteArray).toList))else(some false))else(some false))else(some false)
def Xf (N:Nat)(s:ByteArray):Option (Bool):=Qg (Q89 N s) λh=>some h
def yC (N:Nat)(s:Int)(U:Int)(z:ByteArray):Option (Bool):=if(s==1)=true then(some (z.toList==(⟨#[]⟩:ByteArray).toList))else(if(s==2)=true then(if(U==0)=true then(Qg (Xf N z) λh=>some h)else(some false))else(some false))
def Vs (N:Nat)(h:ByteArray):Option (Bool):=Qg (yC N 2 0 h) λs=>some s
def Q4C (_:Nat)(_:ByteArray)(_:Int)(_:ByteArray):Option (Unit):=some ()
def Wy (N:Nat)(z:List Q9)(U:ByteArray):Nat->Option (Nat⊕(Unit⊕Int)):=λh=>if(decide (h<z.length))=true then(Qg (z[h]?) λs=>Qg (Q4C N s.name s.fields U) λ_=>if(s.name.toList==U.toList)=true then(some (.inr (.inr (h:Int))))else(gd (WN (h+1))<|some (.inl (h+1))))else(some (.inr (.inl ())))
def Q3N (N:Nat)(h:List Q9)(s:ByteArray):Option (Int):=j7 (fF (Wy N h s) N 0) λ_=>some (-1)
def WU (N:Nat)(s:List Q9)(_:List Qb)(_:Int)(_:Int)(z:ByteArray):Option (Int):=Qg (Q3N N s z) λh=>some h
def Q4D (_:Nat)(_:ByteArray)(_:Int)(_:Int)(_:List Qv)(_:List wJ)(_:ByteArray):Option (Unit):=some ()
def Wx (N:Nat)(z:List Qb)(U:ByteArray):Nat->Option (Nat⊕(Unit⊕Int)):=λh=>if(decide (h<z.length))=true then(Qg (z[h]?) λs=>Qg (Q4D N s.name s.salience s.vars s.conds s.acts U) λ_=>if(s.name.toList==U.toList)=true then(some (.inr (.inr (h:Int))))else(gd (WN (h+1))<|some (.inl (h+1))))else(some (.inr (.inl ())))
def Q3M (N:Nat)(h:List Qb)(s:ByteArray):Option (Int):=j7 (fF (Wx N h s) N 0) λ_=>some (-1)
def WV (N:Nat)(_:List Q9)(s:List Qb)(_:Int)(_:Int)(z:ByteArray):Option (Int):=Qg (Q3M N s z) λh=>some h
def Vk (_:Nat)(z:List Q9)(_:List Qb)(_:Int)(_:Int)(h:Int)(a5:Int):Option (Bool):=if(decide (h>=0))=true then(if(decide (h<(z.length:Int)))=true then(gd (0<=h)<|Qg (z[h.toNat]?) λs=>some (s.fields==a5))else(some false))else(some false)
def Q87 (_:Nat)(a7:Bool)(U:Bool)(h:Bool)(s:Int)(z:List Q4)(a4:Int)(a1:Int)(a2:Int)(a3:ByteArray):Option (Bool):=if a7=true then(if U=true then(if h=true then(some true)else(if(s==0)=true then(some (z.length==0))else(some false)))else(if(a4==0)=true then(if h=true then(some true)else(if(s==0)=true then(some (z.length==0))else(some false)))else(some false)))else(if(decide ((⟨a1,a2,a3⟩:V)=(⟨0,0,(⟨#[]⟩:ByteArray)⟩:V)))=true then(if U=true then(if h=true then(some true)else(if(s==0)=true then(some (z.length==0))else(some false)))else(if(a4==0)=true then(if h=true then(some true)else(if(s==0)=true then(some (z.length==0))else(some false)))else(some false)))else(some false))
def OI (N:Nat)(_:Int)(s:Int)(z:Int)(a3:ByteArray)(a4:Int)(a5:Int)(l6:List Q4)(U:Bool)(a8:Bool)(a9:Bool):Option (Bool):=Qg (Q87 N U a8 a9 a5 l6 a4 s z a3) λh=>some h
def X3 (N:Nat)(_:List Q9)(_:List Qb)(h:Int)(_:Int)(z:Int)(s:Int)(U:Int)(a7:Int)(a8:ByteArray)(a9:Bool):Option (Bool×Int):=if(z==1)=true then(if(s==0)=true then(some ((decide ((⟨U,a7,a8⟩:V)=(⟨0,0,(⟨#[]⟩:ByteArray)⟩:V))),h))else(some (false,h)))else(if(z==2)=true then(gd (WI (h+1))<|if a9=true then(gd (WI ((h+1)-1))<|if(s==((h+1)-1))=true then(some ((decide ((⟨U,a7,a8⟩:V)=(⟨0,0,(⟨#[]⟩:ByteArray)⟩:V))),h+1))else(some (false,h+1)))else(some (false,h+1)))else(if(z==3)=true then(if(decide (s>=0))=true then(if(decide (s<h))=true then(some ((decide ((⟨U,a7,a8⟩:V)=(⟨0,0,(⟨#[]⟩:ByteArray)⟩:V))),h))else(some (false,h)))else(some (false,h)))else(if(z==4)=true then(if(s==0)=true then(Qg (yC N U a7 a8) λaB=>some (aB,h))else(some (false,h)))else(some (false,h)))))
def Q3F (_:Nat)(rc:(List Q9)->(List Qb)->Int->Int->Int->Int->Int->ByteArray->Int->Int->(List Q4)->Option (Bool))(s:Int)(z:Int)(a2:Int)(a3:ByteArray)(a4:Int)(a5:Int)(U:List Q4)(l7:List Q9)(l8:List Qb)(a9:Int)(h:Int):Option (Bool):=Qg (rc l7 l8 a9 h s z a2 a3 a4 a5 U) λv6=>some (!v6)
def Wt (N:Nat)(U:List Q4)(rc:(List Q9)->(List Qb)->Int->Int->Int->Int->Int->ByteArray->Int->Int->(List Q4)->Option (Bool))(l1:List Q9)(l2:List Qb)(a3:Int)(a4:Int):Nat->Option (Nat⊕(Unit⊕Int)):=λh=>if(decide (h<U.length))=true then(Qg (U[h]?) λz=>Qg (Q3F N rc z.kind z.value.k z.value.n z.value.s z.var z.op z.kids l1 l2 a3 a4) λa0=>if a0=true then(some (.inr (.inr (h:Int))))else(gd (WN (h+1))<|some (.inl (h+1))))else(some (.inr (.inl ())))
def Q31 (N:Nat)(rc:(List Q9)->(List Qb)->Int->Int->Int->Int->Int->ByteArray->Int->Int->(List Q4)->Option (Bool))(h:List Q4)(s:List Q9)(l2:List Qb)(z:Int)(a4:Int):Option (Int):=j7 (fF (Wt N h rc s l2 z a4) N 0) λ_=>some (-1)
def Q2u (N:Nat)(rc:(List Q9)->(List Qb)->Int->Int->Int->Int->Int->ByteArray->Int->Int->(List Q4)->Option (Bool))(h:List Q4)(s:List Q9)(l2:List Qb)(z:Int)(a4:Int):Option (Bool):=Qg (Q31 N rc h s l2 z a4) λU=>some (decide (U>=0))
def WB (N:Nat)(rc:(List Q9)->(List Qb)->Int->Int->Int->Int->Int->ByteArray->Int->Int->(List Q4)->Option (Bool))(h:List Q9)(s:List Qb)(z:Int)(a3:Int)(U:List Q4):Option (Bool):=Qg (Q2u N rc U h s z a3) λv7=>some (!v7)
def Q4G (_:Nat)(s:Int):Option (Nat):=Qg (if(s==4)=true then(some true)else(some (s==11))) λh=>if h=true then(some 1)else(some 2)
def Q5U (N:Nat)(a4:Int)(a5:Int)(a6:Int)(a7:ByteArray)(a8:Int)(z:Int)(h:List Q4)(s:Nat)(rc:(List Q9)->(List Qb)->Int->Int->Int->Int->Int->ByteArray->Int->Int->(List Q4)->Option (Bool))(l0:List Q9)(l1:List Qb)(a2:Int)(a3:Int):Option (Bool):=Qg (OI N a4 a5 a6 a7 a8 z h false false true) λa0=>if a0=true then(if(decide (z>=1))=true then(if(decide (z<=11))=true then(if(h.length==s)=true then(Qg (WB N rc l0 l1 a2 a3 h) λU=>some U)else(some false))else(some false))else(some false))else(some false)
def WK (N:Nat)(rc:(List Q9)->(List Qb)->Int->Int->Int->Int->Int->ByteArray->Int->Int->(List Q4)->Option (Bool))(l0:List Q9)(l1:List Qb)(a2:Int)(a3:Int)(a4:Int)(a5:Int)(a6:Int)(a7:ByteArray)(U:Int)(a9:Int)(h:List Q4):Option (Bool):=if(a4==1)=true then(Qg (OI N a4 a5 a6 a7 U a9 h true false false) λaE=>if aE=true then(Qg (yC N a5 a6 a7) λaF=>some aF)else(some false))else(if(a4==2)=true then(Qg (OI N a4 a5 a6 a7 U a9 h false true false) λaG=>if aG=true then(if(decide (U>=0))=true then(some (decide (U<a2)))else(some false))else(some false))else(if(a4==3)=true then(Qg (Q4G N a9) λs=>Qg (Q5U N a4 a5 a6 a7 U a9 h s rc l0 l1 a2 a3) λz=>some z)else(some false)))
def OE:Nat->(List Q9)->(List Qb)->Int->Int->Int->Int->Int->ByteArray->Int->Int->(List Q4)->Option (Bool)
 |0=>λ_=>λ_=>λ_=>λ_=>λ_=>λ_=>λ_=>λ_=>λ_=>λ_=>λ_=>none
 |N+1=>WK N (OE N)
def Q4F (N:Nat)(l0:List Q9)(l1:List Qb)(a2:Int)(a3:Int)(a5:Int)(l6:List fl)(U:Int)(a8:Int)(a9:Int)(h:ByteArray)(s:Int)(z:Int)(a0:List Q4):Option (Bool):=Qg (Vk N l0 l1 a2 a3 a5 (l6.length:Int)) λa1=>if(!a1)=true then(some true)else(if(U !=0)=true then(some true)else(Qg (OI N U a8 a9 h s z a0 false false false) λa4=>some (!a4)))
def Rp (N:Nat)(l6:List fl)(l0:List Q9)(l1:List Qb)(a3:Int)(a4:Int):(Nat×Int)->Option ((Nat×Int)⊕(Int⊕(Bool×Int×Int))):=λ(h,z)=>if(decide (h<l6.length))=true then(Qg (l6[h]?) λa0=>Qg (X3 N l0 l1 z a3 a0.k a0.var a0.v.k a0.v.n a0.v.s (a4==1)) λ(a2,U)=>if(!a2)=true then(some (.inr (.inr (false,U,a3))))else(gd (WN (h+1))<|some (.inl (h+1,U))))else(some (.inr (.inl z)))
def WQ (N:Nat)(U:List Q9)(l1:List Qb)(a2:Int)(z:Int)(a4:Int)(a5:Int)(l6:List fl)(a7:Int)(a8:Int)(a9:Int)(aB:ByteArray)(aC:Int)(aD:Int)(aE:List Q4):Option (Bool×Int×Int):=Qg (if(a4==1)=true then(some (a4==1))else(some (a4==2))) λa6=>if a6=true then(Qg (Q4F N U l1 a2 z a5 l6 a7 a8 a9 aB aC aD aE) λa0=>if a0=true then(some (false,a2,z))else(j7 (fF (Rp N l6 U l1 z a4) N (0,a2)) λs=>Qg (if(a4==1)=true then(gd (WI (z+1))<|some (z+1))else(some z)) λh=>some (true,s,h)))else(if(a4==3)=true then(if(a5==0)=true then(if(l6.length==0)=true then(Qg (OE N U l1 a2 z a7 a8 a9 aB aC aD aE) λaI=>some (aI,a2,z))else(some (false,a2,z)))else(some (false,a2,z)))else(some (false,a2,z)))
def Q4H (N:Nat)(s:Int)(z:Int)(a2:Int)(a3:ByteArray)(a4:Int)(a5:Int)(U:List Q4)(l7:List Q9)(l8:List Qb)(a9:Int)(h:Int):Option (Bool):=Qg (OE N l7 l8 a9 h s z a2 a3 a4 a5 U) λv6=>some (!v6)
def Ww (N:Nat)(U:List Q4)(l1:List Q9)(l2:List Qb)(a3:Int)(a4:Int):Nat->Option (Nat⊕(Unit⊕Int)):=λh=>if(decide (h<U.length))=true then(Qg (U[h]?) λz=>Qg (Q4H N z.kind z.value.k z.value.n z.value.s z.var z.op z.kids l1 l2 a3 a4) λa0=>if a0=true then(some (.inr (.inr (h:Int))))else(gd (WN (h+1))<|some (.inl (h+1))))else(some (.inr (.inl ())))
def Q3L (N:Nat)(h:List Q4)(s:List Q9)(l2:List Qb)(z:Int)(a4:Int):Option (Int):=j7 (fF (Ww N h s l2 z a4) N 0) λ_=>some (-1)
def Q30 (N:Nat)(h:List Q4)(s:List Q9)(l2:List Qb)(z:Int)(a4:Int):Option (Bool):=Qg (Q3L N h s l2 z a4) λU=>some (decide (U>=0))
def Vj (N:Nat)(h:List Q9)(s:List Qb)(z:Int)(a3:Int)(U:List Q4):Option (Bool):=Qg (Q30 N U h s z a3) λv7=>some (!v7)
def Q6v (_:Nat)(s:Int)(z:List Q4)(h:Int)(a3:Int):Option (Bool):=if(s==0)=true then(if(z.length==0)=true then(if(decide (h>=0))=true then(some (decide (h<a3)))else(some false))else(some false))else(some false)
def Q6w (N:Nat)(z:Int)(U:Int)(s:List Q4)(l0:List Q9)(l1:List Qb)(a2:Int)(a3:Int):Option (Bool):=if(z==0)=true then(if(U==0)=true then(if(decide (0<s.length))=true then(Qg (Vj N l0 l1 a2 a3 s) λh=>some h)else(some false))else(some false))else(some false)
def Q6x (_:Nat)(h:Int)(s:Int)(z:Int)(U:List Q4):Option (Bool):=if(h==4)=true then(if(s==0)=true then(if(z==0)=true then(some (U.length==0))else(some false))else(some false))else(some false)
def X2 (N:Nat)(l0:List Q9)(l1:List Qb)(a2:Int)(a3:Int)(a4:Int)(a5:Int)(a6:Int)(U:List Q4):Option (Bool):=if(a4==1)=true then(if(a6==0)=true then(Qg (Vk N l0 l1 a2 a3 a5 (U.length:Int)) λaD=>if aD=true then(Qg (Vj N l0 l1 a2 a3 U) λaE=>some aE)else(some false))else(some false))else(if(a4==2)=true then(Qg (Q6v N a5 U a6 a3) λh=>some h)else(if(a4==3)=true then(Qg (Q6w N a5 a6 U l0 l1 a2 a3) λs=>some s)else(Qg (Q6x N a4 a5 a6 U) λz=>some z)))
def Q4I (N:Nat)(h:Int)(s:Int)(z:Int)(l3:List Q4)(l4:List Q9)(l5:List Qb)(U:Int)(a7:Int):Option (Bool):=Qg (X2 N l4 l5 U a7 h s z l3) λv6=>some (!v6)
def Wz (N:Nat)(U:List wJ)(l1:List Q9)(l2:List Qb)(a3:Int)(a4:Int):Nat->Option (Nat⊕(Unit⊕Int)):=λh=>if(decide (h<U.length))=true then(Qg (U[h]?) λs=>Qg (Q4I N s.kind s.type s.which s.exprs l1 l2 a3 a4) λz=>if z=true then(some (.inr (.inr (h:Int))))else(gd (WN (h+1))<|some (.inl (h+1))))else(some (.inr (.inl ())))
def Q45 (N:Nat)(h:List wJ)(s:List Q9)(l2:List Qb)(z:Int)(a4:Int):Option (Int):=j7 (fF (Wz N h s l2 z a4) N 0) λ_=>some (-1)
def Q3d (N:Nat)(h:List wJ)(s:List Q9)(l2:List Qb)(z:Int)(a4:Int):Option (Bool):=Qg (Q45 N h s l2 z a4) λU=>some (decide (U>=0))
def Q4p (N:Nat)(z:ByteArray)(s:Int)(U:List Qv)(l8:List wJ):Option (Bool):=Qg (Vs N z) λh=>if(!h)=true then(some true)else(if(decide (s< -1000))=true then(some true)else(if(decide (s>1000))=true then(some true)else(if(decide (8<U.length))=true then(some true)else(some (decide (8<l8.length))))))
def Rj (N:Nat)(l7:List Qv)(l0:List Q9)(l1:List Qb):(Nat×Int×Int)->Option ((Nat×Int×Int)⊕((Int×Int)⊕(Bool×Int×Int))):=λ(U,h,z)=>if(decide (U<l7.length))=true then(Qg (l7[U]?) λa0=>Qg (WQ N l0 l1 h z a0.kind a0.type a0.args a0.test.kind a0.test.value.k a0.test.value.n a0.test.value.s a0.test.var a0.test.op a0.test.kids) λ(a4,a2,a3)=>if(!a4)=true then(some (.inr (.inr (false,a2,a3))))else(gd (WN (U+1))<|some (.inl (U+1,a2,a3))))else(some (.inr (.inl (h,z))))
def WW (N:Nat)(U:List Q9)(l1:List Qb)(_:Int)(_:Int)(a4:ByteArray)(a5:Int)(a6:Int)(l7:List Qv)(l8:List wJ):Option (Bool×Int×Int):=Qg (Q4p N a4 a5 l7 l8) λz=>if z=true then(some (false,0,0))else(j7 (fF (Rj N l7 U l1) N (0,0,0)) λ(h,s)=>if(a6==h)=true then(if(decide (h<=16))=true then(Qg (Q3d N l8 U l1 h s) λa0=>some (!a0,h,s))else(some (false,h,s)))else(some (false,h,s)))
def Q6f (N:Nat)(h:Q9)(U:List Q9)(l1:List Qb)(s:Nat):Option (Bool):=Qg (Vs N h.name) λz=>if(!z)=true then(some true)else(if(decide (h.fields<0))=true then(some true)else(if(decide (h.fields>6))=true then(some true)else(Qg (WU N U l1 0 0 h.name) λa0=>some (a0 !=(s:Int)))))
def Vm (N:Nat)(z:List Q9)(U:List Qb):Nat->Option (Nat⊕(Unit⊕Bool)):=λh=>if(decide (h<z.length))=true then(Qg (z[h]?) λa0=>Qg (Q6f N a0 z U h) λs=>if s=true then(some (.inr (.inr false)))else(gd (WN (h+1))<|some (.inl (h+1))))else(some (.inr (.inl ())))
def Vn (N:Nat)(U:List Qb)(l0:List Q9):(Nat×Int×Int)->Option ((Nat×Int×Int)⊕(Unit⊕Bool)):=λ(h,s,z)=>if(decide (h<U.length))=true then(Qg (U[h]?) λa0=>Qg (Qg (WV N l0 U s z a0.name) λa8=>if(a8 !=(h:Int))=true then(some (s,z,true))else(Qg (WW N l0 U s z a0.name a0.salience a0.vars a0.conds a0.acts) λ(a4,a5,a6)=>some (a5,a6,!a4))) λ(a1,a2,a3)=>if a3=true then(some (.inr (.inr false)))else(gd (WN (h+1))<|some (.inl (h+1,a1,a2))))else(some (.inr (.inl ())))
def OH (N:Nat)(s:List Q9)(z:List Qb):Option (Bool):=Qg (if(decide (32<s.length))=true then(some true)else(some (decide (64<z.length)))) λh=>if h=true then(some false)else(j7 (fF (Vm N s z) N 0) λ_=>j7 (fF (Vn N z s) N (0,0,0)) λ_=>some true)
def OK (_:Nat)(h:Int):Option ((List Bool)×(List V)):=Qg (if(decide (h<0))=true then(some true)else(some (decide (h>16)))) λs=>if s=true then(some ([],[]))else(gd (0<=h)<|gd (h.toNat<=140737488355328)<|gd (0<=h)<|gd (h.toNat<=4398046511104)<|some (List.replicate h.toNat false,(List.replicate h.toNat (⟨0,0,(⟨#[]⟩:ByteArray)⟩:V))))
def Vw (N:Nat)(h:Int)(s:Int)(z:ByteArray):Option (Int×Int×ByteArray×Nat):=Qg (yC N h s z) λv5=>if(!v5)=true then(some (0,0,(⟨#[]⟩:ByteArray),2))else(some (h,s,z,0))
def Q8m (N:Nat)(_:Int)(U:Int)(a2:Int)(a3:ByteArray)(_:Int)(_:Int)(_:List Q4):Option (Int×Int×ByteArray×Nat):=Qg (Vw N U a2 a3) λ(h,s,z,a6)=>some (h,s,z,a6)
def Q8n (N:Nat)(_:Int)(_:Int)(_:Int)(_:ByteArray)(a4:Int)(_:Int)(_:List Q4)(U:List V):Option (Int×Int×ByteArray×Nat):=Qg (if(decide (a4<0))=true then(some true)else(some (decide (a4>=(U.length:Int))))) λh=>if h=true then(some (0,0,(⟨#[]⟩:ByteArray),2))else(gd (0<=a4)<|Qg (U[a4.toNat]?) λz=>Qg (Vw N z.k z.n z.s) λ(a6,a7,a8,a9)=>some (a6,a7,a8,a9))
def Xc (_:Nat)(_:Int):Option (Unit):=some ()
def Rx (N:Nat)(h:Bool):Option (Int):=if h=true then(Qg (Xc N 1) λ_=>some 1)else(Qg (Xc N 0) λ_=>some 0)
def GQ (_:Nat)(h:Int):Option (Unit⊕(Unit⊕(Unit⊕(Unit⊕(Unit⊕(Unit⊕(Unit⊕(Unit⊕(Unit⊕Unit))))))))):=if(h==1)=true then(some (.inl ()))else(if(h==2)=true then(some (.inr (.inl ())))else(if(h==3)=true then(some (.inr (.inr (.inl ()))))else(if(h==4)=true then(some (.inr (.inr (.inr (.inl ())))))else(if(h==7)=true then(some (.inr (.inr (.inr (.inr (.inl ()))))))else(if(h==8)=true then(some (.inr (.inr (.inr (.inr (.inr (.inl ())))))))else(if(h==9)=true then(some (.inr (.inr (.inr (.inr (.inr (.inr (.inl ()))))))))else(if(h==10)=true then(some (.inr (.inr (.inr (.inr (.inr (.inr (.inr (.inl ())))))))))else(if(h==11)=true then(some (.inr (.inr (.inr (.inr (.inr (.inr (.inr (.inr (.inl ()))))))))))else(some (.inr (.inr (.inr (.inr (.inr (.inr (.inr (.inr (.inr ()))))))))))))))))))
def Q9h (_:Nat)(_:Int)(_:Int):Option (Unit):=some ()
def Q9i (_:Nat)(_:Int)(_:Int):Option (Unit):=some ()
def Ru (_:Nat)(z:Int)(U:Int):Option (Int×Bool):=Qg (if(decide (z<0))=true then(some (IntKind.wrap .u64 (0-(IntKind.wrap .u64 z))))else(some (IntKind.wrap .u64 z))) λh=>Qg (if(decide (U<0))=true then(some (IntKind.wrap .u64 (0-(IntKind.wrap .u64 U))))else(some (IntKind.wrap .u64 U))) λs=>gd (0<=h/\h<18446744073709551616)<|gd (0<=s/\s<18446744073709551616)<|if((decide (z<0)) !=(decide (U<0)))=true then(if(((h.toNat*s.toNat/18446744073709551616:Nat):Int)==0)=true then(some ((IntKind.wrap .i64 (IntKind.wrap .u64 (0-((h.toNat*s.toNat%18446744073709551616:Nat):Int)))),(decide (((h.toNat*s.toNat%18446744073709551616:Nat):Int)<=9223372036854775808))))else(some ((IntKind.wrap .i64 (IntKind.wrap .u64 (0-((h.toNat*s.toNat%18446744073709551616:Nat):Int)))),false)))else(if(((h.toNat*s.toNat/18446744073709551616:Nat):Int)==0)=true then(some ((IntKind.wrap .i64 ((h.toNat*s.toNat%18446744073709551616:Nat):Int)),(decide (((h.toNat*s.toNat%18446744073709551616:Nat):Int)<9223372036854775808))))else(some ((IntKind.wrap .i64 ((h.toNat*s.toNat%18446744073709551616:Nat):Int)),false)))
def Q9j (_:Nat)(_:Int)(_:Int):Option (Unit):=some ()
def BC (N:Nat)(h:Bool):Option (Int):=Qg (Rx N h) λs=>some s
def Q7D (N:Nat)(s:Int)(z:Int):Option (Int):=Qg (BC N (decide (s<z))) λh=>some h
def Q7E (N:Nat)(s:Int)(z:Int):Option (Int):=Qg (BC N (decide (s<=z))) λh=>some h
def Q7F (N:Nat)(s:Int)(z:Int):Option (Int):=if(s !=0)=true then(Qg (BC N (z !=0)) λh=>some h)else(Qg (BC N false) λh=>some h)
def Q7G (N:Nat)(s:Int)(z:Int):Option (Int):=if(s !=0)=true then(Qg (BC N true) λh=>some h)else(Qg (BC N (z !=0)) λh=>some h)
def Q7H (N:Nat)(s:Int)(_:Int):Option (Int):=Qg (BC N (s==0)) λh=>some h
def Vu (_:Nat)(s:Int):Option (Nat):=Qg (if(s==4)=true then(some true)else(some (s==11))) λh=>if h=true then(some 1)else(some 2)
def OL (N:Nat)(l1:List V)(z:Nat)(a0:Bool):Option (Bool⊕((Nat×Bool)⊕(Bool⊕(Nat×Int×Nat)))):=Qg (l1[z]?) λh=>Qg (yC N h.k h.n h.s) λU=>if(!U)=true then(some (.inr (.inr (.inr (0,0,2)))))else(if a0=true then(some (.inl true))else(some (.inl (h.k==2))))
def BA (N:Nat)(U:List V):(Nat×Bool)->Option ((Nat×Bool)⊕(Bool⊕(Nat×Int×Nat))):=λ(h,s)=>if(decide (h<U.length))=true then(j7 (OL N U h s) λz=>gd (WN (h+1))<|some (.inl (h+1,z)))else(some (.inr (.inl s)))
def QH (N:Nat)(a0:Int)(h:V)(s:V):Option (Int×Bool):=Qg (GQ N a0) λ
 | .inl _=>(Qg (Q9h N h.n s.n) λ_=>some (IntKind.wrap .i64 (h.n+s.n),(decide ((IntKind.wrap .i64 (h.n+s.n))<h.n))==(decide (s.n<0))))
 | .inr (.inl _)=>(Qg (Q9i N h.n s.n) λ_=>some (IntKind.wrap .i64 (h.n-s.n),(decide ((IntKind.wrap .i64 (h.n-s.n))>h.n))==(decide (s.n<0))))
 | .inr (.inr (.inl _))=>(Qg (Ru N h.n s.n) λ(U,a2)=>some (U,a2))
 | .inr (.inr (.inr (.inl _)))=>(Qg (Q9j N h.n s.n) λ_=>some (IntKind.wrap .i64 (0-h.n),h.n !=-9223372036854775808))
 | .inr (.inr (.inr (.inr (.inl _))))=>(Qg (Q7D N h.n s.n) λz=>some (z,true))
 | .inr (.inr (.inr (.inr (.inr (.inl _)))))=>(Qg (Q7E N h.n s.n) λz=>some (z,true))
 | .inr (.inr (.inr (.inr (.inr (.inr (.inl _))))))=>(Qg (Q7F N h.n s.n) λz=>some (z,true))
 | .inr (.inr (.inr (.inr (.inr (.inr (.inr (.inl _)))))))=>(Qg (Q7G N h.n s.n) λz=>some (z,true))
 | .inr (.inr (.inr (.inr (.inr (.inr (.inr (.inr (.inl _))))))))=>(Qg (Q7H N h.n s.n) λz=>some (z,true))
 | .inr (.inr (.inr (.inr (.inr (.inr (.inr (.inr (.inr _))))))))=>(none)
def BD (N:Nat)(a0:Int)(U:List V):Option (Nat×Int×Nat):=Qg (Vu N a0) λh=>Qg (if(decide (a0<1))=true then(some true)else(if(decide (a0>11))=true then(some true)else(some (U.length !=h)))) λz=>if z=true then(some (0,0,2))else(j7 (fF (BA N U) N (0,false)) λa2=>Qg (U[0]?) λa3=>gd (WI ((h:Int)-1))<|gd (0<=(h:Int)-1)<|Qg (U[((h:Int)-1).toNat]?) λa4=>if(a0==5)=true then(Qg (Rx N (decide (a3=a4))) λa7=>some (1,a7,0))else(if(a0==6)=true then(Qg (Rx N (!decide (a3=a4))) λa8=>some (1,a8,0))else(if a2=true then(some (0,0,301))else(Qg (QH N a0 a3 a4) λ(s,a1)=>if(!a1)=true then(some (0,0,300))else(Qg (Xc N s) λ_=>some (1,s,0))))))
def Vo (_:Nat)(l1:List Q4)(rc:Int->Int->Int->ByteArray->Int->Int->(List Q4)->(List V)->Option (Int×Int×ByteArray×Nat))(l0:List V):(Nat×(List V))->Option ((Nat×(List V))⊕((List V)⊕((List V)×Nat))):=λ(h,z)=>if(decide (h<l1.length))=true then(Qg (l1[h]?) λa0=>Qg (rc a0.kind a0.value.k a0.value.n a0.value.s a0.var a0.op a0.kids l0) λ(U,a2,a3,a4)=>if(a4 !=0)=true then(some (.inr (.inr ([],a4))))else(gd (z.length+([(⟨U,a2,a3⟩:V)]).length<=4398046511104)<|gd (WN (h+1))<|some (.inl (h+1,(z++([(⟨U,a2,a3⟩:V)]))))))else(some (.inr (.inl z)))
def Xe (N:Nat)(rc:Int->Int->Int->ByteArray->Int->Int->(List Q4)->(List V)->Option (Int×Int×ByteArray×Nat))(s:List V)(z:List Q4):Option ((List V)×Nat):=j7 (fF (Vo N z rc s) N (0,[])) λh=>some (h,0)
def X4 (N:Nat)(rc:Int->Int->Int->ByteArray->Int->Int->(List Q4)->(List V)->Option (Int×Int×ByteArray×Nat))(l0:List V)(_:Int)(_:Int)(_:Int)(_:ByteArray)(_:Int)(U:Int)(l7:List Q4):Option (Nat×Int×Nat):=Qg (Xe N rc l0 l7) λ(s,h)=>if(h !=0)=true then(some (0,0,h))else(Qg (BD N U s) λ(z,a0,a7)=>some (z,a0,a7))
def OJ (N:Nat)(rc:Int->Int->Int->ByteArray->Int->Int->(List Q4)->(List V)->Option (Int×Int×ByteArray×Nat))(a0:Int)(U:Int)(a2:Int)(a3:ByteArray)(a4:Int)(a5:Int)(l6:List Q4)(l7:List V):Option (Int×Int×ByteArray×Nat):=if(a0==1)=true then(Qg (Q8m N a0 U a2 a3 a4 a5 l6) λ(h,s,z,a6)=>some (h,s,z,a6))else(if(a0==2)=true then(Qg (Q8n N a0 U a2 a3 a4 a5 l6 l7) λ(h,s,z,a6)=>some (h,s,z,a6))else(if(a0==3)=true then(Qg (X4 N rc l7 a0 U a2 a3 a4 a5 l6) λ(h,s,z)=>some ((h:Int),s,(⟨#[]⟩:ByteArray),z))else(if(!false)=true then(some (0,0,(⟨#[]⟩:ByteArray),2))else(none))))
def wG:Nat->Int->Int->Int->ByteArray->Int->Int->(List Q4)->(List V)->Option (Int×Int×ByteArray×Nat)
 |0=>λ_=>λ_=>λ_=>λ_=>λ_=>λ_=>λ_=>λ_=>none
 |N+1=>OJ N (wG N)
def Rk (_:Nat)(U:List Bool)(l1:List V):Nat->Option (Nat⊕(Unit⊕Bool)):=λh=>if(decide (h<U.length))=true then(Qg (U[h]?) λz=>Qg (if(!z)=true then(Qg (l1[h]?) λa0=>some (!decide (a0=(⟨0,0,(⟨#[]⟩:ByteArray)⟩:V))))else(some false)) λs=>if s=true then(some (.inr (.inr false)))else(gd (WN (h+1))<|some (.inl (h+1))))else(some (.inr (.inl ())))
def WY (N:Nat)(h:List Bool)(s:List V):Option (Bool):=if(h.length !=s.length)=true then(some false)else(j7 (fF (Rk N h s) N 0) λ_=>some true)
def Q91 (_:Nat)(h:List Bool)(s:List V):Option (Unit):=gd (h.length<=140737488355328)<|gd (s.length<=4398046511104)<|some ()
def Q3w (_:Nat)(h:Bool)(s:Int)(z:List Bool)(U:List V)(a7:Int)(a8:Int)(a9:ByteArray):Option ((List Bool)×(List V)):=if h=true then(gd (0<=s)<|Qg (z[s.toNat]?) λ_=>gd (0<=s)<|Qg (U[s.toNat]?) λ_=>some (z.set s.toNat true,(U.set s.toNat (⟨a7,a8,a9⟩:V))))else(some (z,U))
def WD (N:Nat)(U:List Bool)(l1:List V)(a2:Int)(a3:Int)(a4:Int)(a5:Int)(a6:ByteArray)(a7:Int)(a8:Int)(a9:ByteArray):Option (Bool×(List Bool)×(List V)):=Qg (if(decide (a3>=0))=true then(some (decide (a3<(U.length:Int))))else(some false)) λh=>if(a2==1)=true then(some (true,U,l1))else(if(a2==4)=true then(some ((decide ((⟨a4,a5,a6⟩:V)=(⟨a7,a8,a9⟩:V))),U,l1))else(if(a2==3)=true then(if h=true then(gd (0<=a3)<|Qg (U[a3.toNat]?) λaF=>if aF=true then(gd (0<=a3)<|Qg (l1[a3.toNat]?) λaG=>some ((decide (aG=(⟨a7,a8,a9⟩:V))),U,l1))else(some (false,U,l1)))else(some (false,U,l1)))else(if(a2==2)=true then(Qg (Q3w N h a3 U l1 a7 a8 a9) λ(s,z)=>some (h,s,z))else(some (false,U,l1)))))
def Q5m (N:Nat)(h:Bool)(U:Int)(s:Int)(l2:List fl)(z:List V)(a0:List Bool)(a2:List V):Option (Bool):=if(!h)=true then(some true)else(if(U !=s)=true then(some true)else(if(l2.length !=z.length)=true then(some true)else(Qg (WY N a0 a2) λa3=>some (!a3))))
def Rl (N:Nat)(l2:List fl)(a6:List V):(Nat×(List Bool)×(List V))->Option ((Nat×(List Bool)×(List V))⊕(((List Bool)×(List V))⊕((List Bool)×(List V)×Bool))):=λ(h,z,a0)=>if(decide (h<l2.length))=true then(Qg (l2[h]?) λU=>Qg (a6[h]?) λa2=>Qg (WD N z a0 U.k U.var U.v.k U.v.n U.v.s a2.k a2.n a2.s) λ(a3,a4,a5)=>if(!a3)=true then(some (.inr (.inr ([],[],false))))else(gd (WN (h+1))<|some (.inl (h+1,a4,a5))))else(some (.inr (.inl (z,a0))))
def Lt (N:Nat)(a0:Int)(a1:Int)(l2:List fl)(_:Int)(_:Int)(_:Int)(_:ByteArray)(_:Int)(_:Int)(_:List Q4)(_:Int)(aC:Int)(U:List V)(a2:List Bool)(a9:List V):Option ((List Bool)×(List V)×Bool):=Qg (if(a0==1)=true then(some true)else(some (a0==2))) λaA=>Qg (Q5m N aA a1 aC l2 U a2 a9) λz=>if z=true then(some ([],[],false))else(Qg (Q91 N a2 a9) λ_=>j7 (fF (Rl N l2 U) N (0,a2,a9)) λ(h,s)=>some (h,s,true))
def Q4V (_:Nat)(s:Bool)(z:Nat)(h:UInt8):Option (Bool):=if(!s)=true then(if(z==0)=true then(some true)else(if(decide (48<=h.toNat))=true then(if(decide (h.toNat<=57))=true then(some false)else(some (!(h.toNat==95))))else(some (!(h.toNat==95)))))else(some false)
def Q4W (N:Nat)(a0:ByteArray):Nat->Option (Nat⊕(Unit⊕Bool)):=λh=>if(decide (h<a0.size))=true then(Qg (a0[h]?) λz=>Qg (if(decide (97<=z.toNat))=true then(some (decide (z.toNat<=122)))else(some false)) λU=>Qg (Q4V N U h z) λs=>if s=true then(some (.inr (.inr false)))else(gd (WN (h+1))<|some (.inl (h+1))))else(some (.inr (.inl ())))
def Q5L (N:Nat)(h:ByteArray):Option (Bool):=j7 (fF (Q4W N h) N 0) λ_=>if(decide (1<=h.size))=true then(some (decide (h.size<=24)))else(some false)
def WJ (N:Nat)(s:Int)(U:Int)(z:ByteArray):Option (Bool):=if(s==1)=true then(some (z.toList==(⟨#[]⟩:ByteArray).toList))else(if(s==2)=true then(if(U==0)=true then(Qg (Q5L N z) λh=>some h)else(some false))else(some false))
def Q44 (_:Nat)(_:Int):Option (Unit):=some ()
def Ma (N:Nat)(h:Bool):Option (Int):=if h=true then(Qg (Q44 N 1) λ_=>some 1)else(Qg (Q44 N 0) λ_=>some 0)
def Q5n (_:Nat)(h:Int)(s:Int):Option (Bool):=if(decide (h>0))=true then(gd (WI (9223372036854775807-h))<|if(decide (s>(9223372036854775807-h)))=true then(some true)else(if(decide (h<0))=true then(gd (WI (-9223372036854775808-h))<|some (decide (s<(-9223372036854775808-h))))else(some false)))else(if(decide (h<0))=true then(gd (WI (-9223372036854775808-h))<|some (decide (s<(-9223372036854775808-h))))else(some false))
def Q53 (N:Nat)(s:Int)(z:Int):Option (Int×Bool):=Qg (Q5n N z s) λh=>if h=true then(some (0,false))else(gd (WI (s+z))<|some (s+z,true))
def Q58 (_:Nat)(z:Int)(s:Int):Option (Int×Bool):=Qg (if(z==0)=true then(some true)else(some (s==0))) λh=>if h=true then(some (0,true))else(if(z==-1)=true then(some (IntKind.wrap .i64 (0-s),s !=-9223372036854775808))else(if(s==-1)=true then(some (IntKind.wrap .i64 (0-z),z !=-9223372036854775808))else(gd (s≠0)<|some (IntKind.wrap .i64 (z*s),(IntKind.wrap .i64 (Int.tdiv (IntKind.wrap .i64 (z*s)) s))==z))))
def M9 (N:Nat)(a0:Int)(h:Int)(a2:Int):Option (Int×Bool):=if(a0==1)=true then(Qg (Q53 N h a2) λ(s,z)=>some (s,z))else(if(a0==2)=true then(if(a2==-9223372036854775808)=true then(some (IntKind.wrap .i64 (h-a2),decide (h<0)))else(Qg (Q53 N h (IntKind.wrap .i64 (0-a2))) λ(a3,a4)=>some (a3,a4)))else(if(a0==3)=true then(Qg (Q58 N h a2) λ(a5,U)=>some (a5,U))else(some (IntKind.wrap .i64 (0-h),h !=-9223372036854775808))))
def Q5I (_:Nat)(s:Int):Option (Nat):=Qg (if(s==4)=true then(some true)else(some (s==11))) λh=>if h=true then(some 1)else(some 2)
def Q5J (N:Nat)(U:List V)(h:Nat)(a0:Bool):Option (Bool⊕((Nat×Bool)⊕(Bool⊕(Nat×Int×Nat)))):=Qg (U[h]?) λz=>Qg (WJ N z.k z.n z.s) λa1=>if(!a1)=true then(some (.inr (.inr (.inr (0,0,2)))))else(if a0=true then(some (.inl true))else(Qg (U[h]?) λa2=>some (.inl (a2.k==2))))
def Q5K (N:Nat)(U:List V):(Nat×Bool)->Option ((Nat×Bool)⊕(Bool⊕(Nat×Int×Nat))):=λ(h,s)=>if(decide (h<U.length))=true then(j7 (Q5J N U h s) λz=>gd (WN (h+1))<|some (.inl (h+1,z)))else(some (.inr (.inl s)))
def Q74 (N:Nat)(a0:Int)(U:List V):Option (Nat×Int×Nat):=Qg (Q5I N a0) λa8=>Qg (if(decide (a0<1))=true then(some true)else(if(decide (a0>11))=true then(some true)else(some (U.length !=a8)))) λa4=>if a4=true then(some (0,0,2))else(j7 (fF (Q5K N U) N (0,false)) λa9=>Qg (U[0]?) λh=>gd (WI ((U.length:Int)-1))<|gd (0<=(U.length:Int)-1)<|Qg (U[((U.length:Int)-1).toNat]?) λz=>Qg (if(a0==5)=true then(some true)else(some (a0==6))) λa5=>if a5=true then(Qg (Ma N ((decide (h=z))==(a0==5))) λaB=>some (1,aB,0))else(if a9=true then(some (0,0,301))else(if(a0==7)=true then(Qg (Ma N (decide (h.n<z.n))) λaC=>some (1,aC,0))else(if(a0==8)=true then(Qg (Ma N (decide (h.n<=z.n))) λaD=>some (1,aD,0))else(if(a0==9)=true then(if(h.n !=0)=true then(Qg (Ma N (z.n !=0)) λa2=>some (1,a2,0))else(Qg (Ma N false) λa2=>some (1,a2,0)))else(if(a0==10)=true then(if(h.n !=0)=true then(Qg (Ma N true) λa3=>some (1,a3,0))else(Qg (Ma N (z.n !=0)) λa3=>some (1,a3,0)))else(if(a0==11)=true then(Qg (Ma N (h.n==0)) λaA=>some (1,aA,0))else(Qg (M9 N a0 h.n z.n) λ(s,a6)=>if(!a6)=true then(some (0,0,300))else(Qg (Q44 N s) λ_=>some (1,s,0))))))))))
def Q3K (_:Nat)(l6:List Q4)(rc:Int->Int->Int->ByteArray->Int->Int->(List Q4)->(List V)->Option (Int×Int×ByteArray×Nat))(l7:List V):(Nat×(List V))->Option ((Nat×(List V))⊕((List V)⊕((Int×Int×ByteArray)⊕(Int×Int×ByteArray×Nat)))):=λ(a0,h)=>if(decide (a0<l6.length))=true then(Qg (l6[a0]?) λz=>Qg (rc z.kind z.value.k z.value.n z.value.s z.var z.op z.kids l7) λ(U,a2,a3,a4)=>if(a4 !=0)=true then(some (.inr (.inr (.inr (0,0,(⟨#[]⟩:ByteArray),a4)))))else(gd (h.length+([(⟨U,a2,a3⟩:V)]).length<=4398046511104)<|gd (WN (a0+1))<|some (.inl (a0+1,(h++([(⟨U,a2,a3⟩:V)]))))))else(some (.inr (.inl h)))
def Q7e (N:Nat)(a0:Int)(a1:Int)(a2:Int)(a3:ByteArray)(a4:Int)(l7:List V)(l6:List Q4)(rc:Int->Int->Int->ByteArray->Int->Int->(List Q4)->(List V)->Option (Int×Int×ByteArray×Nat))(a5:Int):Option ((Int×Int×ByteArray)⊕(Int×Int×ByteArray×Nat)):=if(a0==1)=true then(some (.inl (a1,a2,a3)))else(if(a0==2)=true then(Qg (if(decide (a4>=0))=true then(some (decide (a4<(l7.length:Int))))else(some false)) λz=>if z=true then(gd (0<=a4)<|Qg (l7[a4.toNat]?) λU=>some (.inl (U.k,U.n,U.s)))else(some (.inl (0,0,(⟨#[]⟩:ByteArray)))))else(if(a0==3)=true then(j7 (fF (Q3K N l6 rc l7) N (0,[])) λh=>Qg (Q74 N a5 h) λ(a7,a8,a9)=>some (.inr ((a7:Int),a8,(⟨#[]⟩:ByteArray),a9)))else(some (.inl (0,0,(⟨#[]⟩:ByteArray))))))
def Q5o (N:Nat)(rc:Int->Int->Int->ByteArray->Int->Int->(List Q4)->(List V)->Option (Int×Int×ByteArray×Nat))(a0:Int)(U:Int)(a2:Int)(a3:ByteArray)(a4:Int)(a5:Int)(l6:List Q4)(l7:List V):Option (Int×Int×ByteArray×Nat):=j7 (Q7e N a0 U a2 a3 a4 l7 l6 rc a5) λ(h,s,z)=>Qg (WJ N h s z) λa6=>if(!a6)=true then(some (0,0,(⟨#[]⟩:ByteArray),2))else(some (h,s,z,0))
def Q4N:Nat->Int->Int->Int->ByteArray->Int->Int->(List Q4)->(List V)->Option (Int×Int×ByteArray×Nat)
 |0=>λ_=>λ_=>λ_=>λ_=>λ_=>λ_=>λ_=>λ_=>none
 |N+1=>Q5o N (Q4N N)
def V2 (_:Nat)(U:List HK)(z:Nat):Nat->Option (Nat⊕(Unit⊕(Nat⊕(Unit⊕Bool)))):=λh=>Qg (U[z]?) λa0=>if(decide (h<a0.fact.args.length))=true then(Qg (U[z]?) λa1=>Qg (a1.fact.args[h]?) λa2=>if(decide (100<a2.s.size))=true then(some (.inr (.inr (.inr (.inr false)))))else(gd (WN (h+1))<|some (.inl (h+1))))else(some (.inr (.inl ())))
def V0 (N:Nat)(s:List HK):Nat->Option (Nat⊕(Unit⊕Bool)):=λh=>if(decide (h<s.length))=true then(j7 (Qg (s[h]?) λz=>if(decide (20<z.fact.args.length))=true then(some (.inr (.inr (.inr false))))else(fF (V2 N s h) N 0)) λ_=>gd (WN (h+1))<|some (.inl (h+1)))else(some (.inr (.inl ())))
def WH (N:Nat)(h:List HK):Option (Bool):=j7 (fF (V0 N h) N 0) λ_=>some (decide (h.length<=40))
def X7 (_:Nat)(_:Int):Option (Unit):=some ()
def WS (N:Nat)(s:Int)(h:Int):Option (Int):=Qg (X7 N s) λ_=>Qg (X7 N h) λ_=>if(s !=s)=true then(if(h !=h)=true then(some 0)else(some (-1)))else(if(h !=h)=true then(some 1)else(if(decide (s<h))=true then(some (-1))else(if(decide (s>h))=true then(some 1)else(some 0))))
def Oz (N:Nat)(U:List Int)(l1:List Int):Nat->Option (Nat⊕(Unit⊕Int)):=λh=>if(decide (h<U.length))=true then(Qg (U[h]?) λz=>if(decide (l1.length<=h))=true then(some (.inr (.inr 1)))else(Qg (l1[h]?) λa0=>Qg (WS N z a0) λs=>if(s !=0)=true then(some (.inr (.inr s)))else(gd (WN (h+1))<|some (.inl (h+1)))))else(some (.inr (.inl ())))
def Q4O (N:Nat)(h:List Int)(s:List Int):Option (Int):=j7 (fF (Oz N h s) N 0) λ_=>if(decide (h.length<s.length))=true then(some (-1))else(some 0)
def OB (N:Nat)(_:Int)(h:List Int)(_:Int)(s:List Int):Option (Int):=Qg (Q4O N h s) λz=>some z
def Q6g (N:Nat)(h:Int)(s:Int)(z:ByteArray):Option (Bool):=Qg (yC N h s z) λv4=>some (!v4)
def Ws (N:Nat)(U:List V):Nat->Option (Nat⊕(Unit⊕Int)):=λh=>if(decide (h<U.length))=true then(Qg (U[h]?) λz=>Qg (Q6g N z.k z.n z.s) λa0=>if a0=true then(some (.inr (.inr (h:Int))))else(gd (WN (h+1))<|some (.inl (h+1))))else(some (.inr (.inl ())))
def Q2Q (N:Nat)(h:List V):Option (Int):=j7 (fF (Ws N h) N 0) λ_=>some (-1)
def UZ (N:Nat)(h:List V):Option (Bool):=Qg (Q2Q N h) λs=>some (decide (s>=0))
def Vq (_:Nat)(l6:List Q4)(rc:Int->Int->Int->ByteArray->Int->Int->(List Q4)->Option (List Q4)):(Nat×(List Q4))->Option ((Nat×(List Q4))⊕(List Q4)):=λ(z,h)=>if(decide (z<l6.length))=true then(Qg (h[z]?) λa0=>Qg (rc a0.kind a0.value.k a0.value.n a0.value.s a0.var a0.op a0.kids) λU=>Qg (h[z]?) λ_=>gd (WN (z+1))<|some (.inl (z+1,(h.set z (⟨a0.kind,a0.value,a0.var,a0.op,U⟩:Q4)))))else(some (.inr h))
def Xb (N:Nat)(rc:Int->Int->Int->ByteArray->Int->Int->(List Q4)->Option (List Q4))(_:Int)(_:Int)(_:Int)(_:ByteArray)(_:Int)(_:Int)(s:List Q4):Option (List Q4):=gd (s.length<=1759218604441)<|Qg (fF (Vq N s rc) N (0,s)) λh=>some h
def Vv:Nat->Int->Int->Int->ByteArray->Int->Int->(List Q4)->Option (List Q4)
 |0=>λ_=>λ_=>λ_=>λ_=>λ_=>λ_=>λ_=>none
 |N+1=>Xb N (Vv N)
def Vt (N:Nat)(_:Int)(_:Int)(l2:List fl)(h:Int)(s:Int)(z:Int)(U:ByteArray)(a7:Int)(a8:Int)(l9:List Q4):Option (List Q4):=gd (l2.length<=2932031007402)<|Qg (Vv N h s z U a7 a8 l9) λv9=>some v9
def Xg (N:Nat)(z:Int)(h:Int)(s:ByteArray):Option (ByteArray):=Qg (yC N z h s) λv5=>if(!v5)=true then(some (⟨#[]⟩:ByteArray))else(if(z==2)=true then(gd (WN ((⟨#[39]⟩:ByteArray).size+s.size))<|some ((⟨#[39]⟩:ByteArray)++s))else(gd (WI h)<|some (ui h)))
def Va (_:Nat):Option (Unit):=some ()
def Q7v (N:Nat)(_:Int)(_:Int)(_:List V):Option (Unit):=Qg (Va N) λ_=>some ()
def Vb (_:Nat)(_:Int):Option (Unit):=some ()
def Q7w (N:Nat)(h:Int)(_:Int)(_:Int)(_:List V):Option (Unit):=Qg (Vb N h) λ_=>some ()
def Q71 (N:Nat)(_:Int):Option (Unit):=Qg (Va N) λ_=>some ()
def Q72 (N:Nat)(h:Int)(_:Int):Option (Unit):=Qg (Vb N h) λ_=>some ()
def Q5X (N:Nat):Option (Unit):=Qg (Va N) λ_=>some ()
def Q5Y (N:Nat)(h:Int):Option (Unit):=Qg (Vb N h) λ_=>some ()
def Q7x (N:Nat):Option (Unit):=Qg (Va N) λ_=>some ()
def Q7y (N:Nat)(h:Int):Option (Unit):=Qg (Vb N h) λ_=>some ()
end
section
theorem Oh:yn Tryz.prog 2=some .i64:=au
theorem fX:yn Tryz.prog 3=some .i64:=au
theorem j4:KX Tryz.prog 9=true:=au
theorem KS:tE Tryz.prog 31=some 85:=au
theorem F5:yn Tryz.prog 60=some .u8:=au
theorem kI:yn Tryz.prog 64=some .u8:=au
theorem KQ:tE Tryz.prog 117=some 209:=au
theorem KR:tE Tryz.prog 127=some 133:=au
theorem ym:yn Tryz.prog 322=some .u64:=au
end
section
open Go Go.RowKit
inductive bu where
 |join (a:Nat)
 |nt (a:Nat)
 |test (a:Nat)
def bu.tag:bu->Nat
 | .join _=>116
 | .nt _=>121
 | .test _=>123
def bu.adr:bu->Nat
 | .join a=>a
 | .nt a=>a
 | .test a=>a
def C_p (x:Nat)(_:Unit):List Value:=[.pointer (some ⟨x,0,none⟩)]
def F_p (_:Nat)(_:Unit):List Fact:=[]
def gD:eI Nat:=za C_p F_p (by intro x r u hu;simp[C_p]at hu;subst hu;rfl)
theorem OO:po gD C_p (λ_ _=>True) F_p:=Ft
def C6 (x:bu)(_:Unit):List Value:=[.iface x.tag (.pointer (some ⟨x.adr,0,none⟩))]
def HG (_:bu)(_:Unit):List Fact:=[]
def BI:eI bu:=za C6 HG (by intro x r u hu;simp[C6]at hu;subst hu;rfl)
theorem QaA:po BI C6 (λ_ _=>True) HG:=Ft
def Qz:u5 Tryz.prog 127 Nat:=TZ (e:=133) (i:=5) au au
structure fk where
 types:List Q9
 rows:List Nat
 rowsP:Option Addr
 rowsC:Nat
 alphas:MS ByteArray Nat
 alphasA:Nat
 facts:MS Int Qq
 factsA:Nat
 parts:Int
structure mg where
 net:Nat
 steps:List bu
 stepsP:Option Addr
 stepsC:Nat
 whole:MS Nat Bool
 wholeA:Nat
structure LJ where
 kind:Int
 args:List fl
 argsP:Option Addr
 argsC:Nat
 facts:MS Int Qq
 factsA:Nat
structure uT where
 alpha:Nat
 row:Nat
 k:Int
 cond:Qv
 parts:MS Nat Bool
 partsA:Nat
structure kl where
 row:Nat
 k:Int
 cond:Qv
 parts:MS Nat Bool
 partsA:Nat
structure ie where
 has:List Bool
 vals:List V
 up:Option Nat
 id:Int
 kids:MS Nat Bool
 kidsA:Nat
 blocks:Option (Nat×MS Int Bool)
def R6 (x:fk)(r:Option Addr×Nat):List Value:=[.slice r.1 x.types.length r.2,.slice x.rowsP x.rows.length x.rowsC,.map (some x.alphasA),.map (some x.factsA),.int .i64 (x.parts)]
def Ca (x:fk)(r:Option Addr×Nat):List Fact:=[.sli 2 Qd r.1 r.2 x.types]
def R8 (x:mg)(_:Unit):List Value:=[.pointer (some ⟨x.net,0,none⟩),.slice x.stepsP x.steps.length x.stepsC,.map (some x.wholeA)]
def Cc (_:mg)(_:Unit):List Fact:=[]
def HC (x:LJ)(_:Unit):List Value:=[.int .i64 (x.kind),.slice x.argsP x.args.length x.argsC,.map (some x.factsA)]
def rl (_:LJ)(_:Unit):List Fact:=[]
def M6 (x:uT)(r:(Option Addr×Nat)×(Option Addr×Nat)):List Value:=[.pointer (some ⟨x.alpha,0,none⟩),.pointer (some ⟨x.row,0,none⟩),.int .i64 (x.k),.int .u8 (x.cond.kind),.int .i64 (x.cond.type),.slice r.1.1 x.cond.args.length r.1.2,.int .u8 (x.cond.test.kind),.int .u8 (x.cond.test.value.k),.int .i64 (x.cond.test.value.n),.string x.cond.test.value.s,.int .i64 (x.cond.test.var),.int .u8 (x.cond.test.op),.slice r.2.1 x.cond.test.kids.length r.2.2,.map (some x.partsA)]
def wv (x:uT)(r:(Option Addr×Nat)×(Option Addr×Nat)):List Fact:=[.sli 5 iC r.1.1 r.1.2 x.cond.args,.sli 7 Qm r.2.1 r.2.2 x.cond.test.kids]
def R7 (x:uT)(r:(Option Addr×Nat)×(Option Addr×Nat)):List Value:=[.pointer (some ⟨x.alpha,0,none⟩),.pointer (some ⟨x.row,0,none⟩),.int .i64 (x.k),.int .u8 (x.cond.kind),.int .i64 (x.cond.type),.slice r.1.1 x.cond.args.length r.1.2,.int .u8 (x.cond.test.kind),.int .u8 (x.cond.test.value.k),.int .i64 (x.cond.test.value.n),.string x.cond.test.value.s,.int .i64 (x.cond.test.var),.int .u8 (x.cond.test.op),.slice r.2.1 x.cond.test.kids.length r.2.2,.map (some x.partsA)]
def Cb (x:uT)(r:(Option Addr×Nat)×(Option Addr×Nat)):List Fact:=[.sli 5 iC r.1.1 r.1.2 x.cond.args,.sli 7 Qm r.2.1 r.2.2 x.cond.test.kids]
def M8 (x:kl)(r:(Option Addr×Nat)×(Option Addr×Nat)):List Value:=[.pointer (some ⟨x.row,0,none⟩),.int .i64 (x.k),.int .u8 (x.cond.kind),.int .i64 (x.cond.type),.slice r.1.1 x.cond.args.length r.1.2,.int .u8 (x.cond.test.kind),.int .u8 (x.cond.test.value.k),.int .i64 (x.cond.test.value.n),.string x.cond.test.value.s,.int .i64 (x.cond.test.var),.int .u8 (x.cond.test.op),.slice r.2.1 x.cond.test.kids.length r.2.2,.map (some x.partsA)]
def wy (x:kl)(r:(Option Addr×Nat)×(Option Addr×Nat)):List Fact:=[.sli 5 iC r.1.1 r.1.2 x.cond.args,.sli 7 Qm r.2.1 r.2.2 x.cond.test.kids]
def M7 (x:ie)(r:(Option Addr×Nat)×(Option Addr×Nat)):List Value:=[.slice r.1.1 x.has.length r.1.2,.slice r.2.1 x.vals.length r.2.2,.pointer (Option.map pA x.up),.int .i64 (x.id),.map (some x.kidsA),.map (Option.map Prod.fst x.blocks)]
def wx (x:ie)(r:(Option Addr×Nat)×(Option Addr×Nat)):List Fact:=[.sli 1 Qe r.1.1 r.1.2 x.has,.sli 3 dq r.2.1 r.2.2 x.vals]
inductive PO where
 |net (x:fk)
 |row (x:mg)
 |alpha (x:LJ)
 |join (x:uT)
 |nt (x:uT)
 |test (x:kl)
 |part (x:ie)
def PO.kind:PO->Nat
 | .net _=>0
 | .row _=>1
 | .alpha _=>2
 | .join _=>3
 | .nt _=>4
 | .test _=>5
 | .part _=>6
def kE {R:Type} (x:bu)(f g h:Nat->WM R):WM R:=λQ=>(∀a,x=.join a->f a Q)/\(∀a,x=.nt a->g a Q)/\(∀a,x=.test a->h a Q)
abbrev Q7:=Nat->Option PO
def gNet (s:Q7)(a:Nat):Option fk:=match s a with
 |some (.net x)=>some x
 |_=>none
theorem ou {s:Q7} {a:Nat} {x:fk} (h:gNet s a=some x):s a=some (.net x):=by
 unfold gNet at h;split at h;· cases h;assumption
 · cases h
def gRow (s:Q7)(a:Nat):Option mg:=match s a with
 |some (.row x)=>some x
 |_=>none
theorem ov {s:Q7} {a:Nat} {x:mg} (h:gRow s a=some x):s a=some (.row x):=by
 unfold gRow at h;split at h;· cases h;assumption
 · cases h
def tX (s:Q7)(a:Nat):Option LJ:=match s a with
 |some (.alpha x)=>some x
 |_=>none
theorem zD {s:Q7} {a:Nat} {x:LJ} (h:tX s a=some x):s a=some (.alpha x):=by
 unfold tX at h;split at h;· cases h;assumption
 · cases h
def iq (s:Q7)(a:Nat):Option uT:=match s a with
 |some (.join x)=>some x
 |_=>none
theorem CL {s:Q7} {a:Nat} {x:uT} (h:iq s a=some x):s a=some (.join x):=by
 unfold iq at h;split at h;· cases h;assumption
 · cases h
def ir (s:Q7)(a:Nat):Option uT:=match s a with
 |some (.nt x)=>some x
 |_=>none
theorem FZ {s:Q7} {a:Nat} {x:uT} (h:ir s a=some x):s a=some (.nt x):=by
 unfold ir at h;split at h;· cases h;assumption
 · cases h
def py (s:Q7)(a:Nat):Option kl:=match s a with
 |some (.test x)=>some x
 |_=>none
theorem CO {s:Q7} {a:Nat} {x:kl} (h:py s a=some x):s a=some (.test x):=by
 unfold py at h;split at h;· cases h;assumption
 · cases h
def gPart (s:Q7)(a:Nat):Option ie:=match s a with
 |some (.part x)=>some x
 |_=>none
theorem CN {s:Q7} {a:Nat} {x:ie} (h:gPart s a=some x):s a=some (.part x):=by
 unfold gPart at h;split at h;· cases h;assumption
 · cases h
def gg (a:Nat):PO->List Fact
 | .net x=>[pq a 85 R6 Ca x,.own 108 1 gD (.slice x.rowsP x.rows.length x.rowsC) x.rows,QE (Ci (yX j4)).X false gD x.alphasA x.alphas,QE (QV (Qy fX)).X true j0 x.factsA x.facts]
 | .row x=>[pq a 112 R8 Cc x,.own 213 1 BI (.slice x.stepsP x.steps.length x.stepsC) x.steps,QE Qz false Qe x.wholeA x.whole]
 | .alpha x=>[pq a 209 HC rl x,.own 76 5 iC (.slice x.argsP x.args.length x.argsC) x.args,QE (QV (Qy fX)).X true j0 x.factsA x.facts]
 | .join x=>[pq a 120 M6 wv x,QE Qz false Qe x.partsA x.parts]
 | .nt x=>[pq a 122 R7 Cb x,QE Qz false Qe x.partsA x.parts]
 | .test x=>[pq a 125 M8 wy x,QE Qz false Qe x.partsA x.parts]
 | .part x=>[pq a 133 M7 wx x,QE Qz false Qe x.kidsA x.kids,jq x.blocks (λb m=>QE (QV (Qy fX)).X false Qe b m)]
theorem Mi:I2 gg:=λa o=>by
 cases o<;>exact⟨_,_,_,_,_,_,_,rfl⟩
end
section
open Go Go.RowKit
set_option maxRecDepth 100000
set_option maxHeartbeats 4000000
theorem HL:∀{ks l:List Nat},ks.Nodup->(∀z∈ks,z∈l)->ks.length<=l.length
 |[],l,_,_=>Nat.zero_le _
 | k::ks,l,h,hs=>by
   have h1:=List.nodup_cons.1 h;have hk:k∈l:=hs k ax;have:=HL (l:=l.erase k) h1.2 λz U=>(List.mem_erase_of_ne (λe=>h1.1 (by rw[<-e];exact U))).2 (hs z (by simp[U]));rw[List.length_erase_of_mem hk]at this;have:=List.length_pos_of_mem hk;simp only[List.length_cons];omega
theorem K4 {ks l:List Nat} {y:Nat} (h:ks.Nodup)(hs:∀z∈ks,z∈l)(hy:y∈l)(hn:y∉ks):ks.length<l.length:=by
 have:=HL (List.nodup_cons.2 ⟨hn,h⟩) (l:=l) (by
  intro z U;rcases List.mem_cons.1 U with rfl|U;· exact hy
  · exact hs z U)
 simp only[List.length_cons]at this;omega
theorem Df {ks:List Nat} {y:Nat} (h:ks.Nodup)(hn:y∉ks):(ks++[y]).Nodup:=List.nodup_append.2 ⟨h,ax,λa ha b U e=>hn (by simp at U;rw[<-U,<-e];exact ha)⟩
theorem Xd {α:Type} {m:MS Nat α} {k:Nat} (h:k∈m.keys):∃x,m.look k=some x:=by
 obtain⟨e,he,rfl⟩:=List.mem_map.1 h
 have:fW e.1 m.es≠none:=λhn=>by
  have key:∀l:List (Nat×α×Nat),fW e.1 l=none->e∉l:=by
   intro l;induction l with
   |nil=>intro _ h;cases h
   | cons y l ih=>
     intro h hm;unfold fW at h;split at h;· cases h
     ·rename_i db;rcases List.mem_cons.1 hm with rfl|hm;· exact db rfl
      · exact ih h hm
  exact key _ hn he
 cases U:fW e.1 m.es with
 |none=>exact absurd U this
 |some x=>exact⟨x.1,by simp[MS.look,U]⟩
theorem Bo {C:Ctx} {n:FD} {Q:Exit->Act->World->Prop} {Φ H H':List Fact} {S:List (Nat×Value)} {e:Exit} {U α:Type} {m:MS U α} {g b:Nat} {done:List U} {last:Option U} (i:Nat)(hi:H[i]? =some (dv m g b done last))(hH:H.set i (dv m g b done none)=H')(h:WE C n Q Φ H' S e):WE C n Q Φ H S e:=by
 subst hH;exactλa w hf hw=>h a w hf (hw.itForget i hi)
def rm (ks l:List Nat):Prop:=ks.Nodup/\∀y,y∈ks↔y∈l
def JS {R:Type} (m:MS Nat R):WM (List Nat):=λQ=>m.keys.length<=4398046511104/\∀ks,rm ks m.keys->Q ks
theorem ED {α R:Type} {m:MS Nat α} {K:List Nat->WM R} {Q:R->Prop} (h:eG (JS m) K Q):m.keys.length<=4398046511104/\∀ks,rm ks m.keys->K ks Q:=h
theorem ZX:Tryz.prog.underlying 109=some (.map 127 4):=au
theorem a1j:QM Tryz.prog 109=some 1:=au
theorem a1g:eW Tryz.prog 109=some false:=au
theorem UD:QM Tryz.prog 535=some 1:=au
theorem ZV:eW Tryz.prog 535=some false:=au
theorem a1i:QM Tryz.prog 127=some 1:=au
theorem ZW:fJ Tryz.prog 535=some 127:=au
theorem JT (b:Nat):QA Tryz.prog 407 [.map (some b)] [] [] (λv bo Hr=>∃g,v=.func (.func 414) #[] #[.pointer (some ⟨g,0,none⟩)]/\bo=[]/\Hr=[.blk g [.map (some b)] 109]):=by
 refine Qi Tryz.func407 rfl rfl rfl rfl λC=>?_;refine Q6 ?_;refine Qc ?_;refine tP rfl rfl rfl (Q0 rfl) rfl rfl rfl (λg=>?_);refine Qt rfl rfl rfl (Q0 rfl) rfl ?_;refine Q2 ?_;refine Qu ?_;refine Q6 ?_;refine Qc ?_;refine wH rfl rfl rfl (Q0 rfl) rfl rfl ?_;refine Qt (S':=[_,_,_]) rfl rfl rfl rfl rfl ?_;refine Q2 ?_;refine Qu ?_;refine Ql ?_;exact ry (Hr:=[_]) [0] Tryz.results407 (iO rfl) ⟨g,rfl,rfl,rfl⟩ (λ_ _ U=>ask [] rfl U) rfl rfl (.inl rfl)
abbrev Kp (g:Nat) (ks:List Nat) (p:Option Addr) (c:Nat):List Fact:=[.blk g [.slice p ks.length c] 535,.own 127 1 gD (.slice p ks.length c) ks]
theorem TY {l fn D g gk b:Nat} {tmps:Array Value} {assign body:Code} {ps:Array Tmp} {m:MS Nat Bool} (Nx:ps.size=1)
  (rs:∀(ks:List Nat) (y:Nat) p c,ks.length<m.keys.length->x5 Tryz.prog l fn ((ps.zip #[.pointer (some ⟨y,0,none⟩)]).foldl (λtmps (t,a)=>tmps.setIfInBounds t a) tmps) assign body [] (q8 l {state:=.ready,pending:=none,fn:=fn,tmps:=tmps,params:=ps,assign:=assign,body:=body,defers:=D}::Kp g ks p c) (λv bo Hr=>∃p' c',v=.bool true/\bo=[]/\Hr=q8 l {state:=.ready,pending:=none,fn:=fn,tmps:=tmps,params:=ps,assign:=assign,body:=body,defers:=D}::Kp g (ks++[y]) p' c')):
  QA Tryz.prog 414 [.func (.yield l) #[] #[],.pointer (some ⟨gk,0,none⟩)] [] (q8 l {state:=.ready,pending:=none,fn:=fn,tmps:=tmps,params:=ps,assign:=assign,body:=body,defers:=D}::(Kp g [] none 0++[.blk gk [.map (some b)] 109,QE Qz false Qe b m]))
   (λ_ bo Hr=>∃rr Hx,rr.state≠.busy/\rr.pending=none/\Hr=q8 l rr::Hx/\(∃ks p c,rm ks m.keys/\bo=[]/\Hx=Kp g ks p c++[.blk gk [.map (some b)] 109,QE Qz false Qe b m])):=by
 refine Qi Tryz.func414 rfl rfl rfl rfl λC=>?_;refine Q6 ?_;refine Qc ?_;refine LF 3 0 rfl rfl rfl (Q0 rfl) rfl rfl rfl (cs:=[_]) rfl a1j a1g rfl rfl ?_;refine Mo 4 rfl rfl rfl (Q0 rfl) rfl rfl rfl ZX (λgi=>?_);refine Q2 ?_;refine Qu ?_;refine Qo ?_
 refine RU (σ:=List Nat×Option Addr×Nat) (λ(ks,_,_)=>ks.Nodup/\∀y∈ks,y∈m.keys) (λ(ks,_,_)=>m.keys.length-ks.length) (λ_=>[(5,.pointer (some ⟨gi,0,none⟩)),(0,.func (.yield l) #[] #[])]) (λ_=>[])
  (λ(ks,p,c)=>dv m gi b ks none::q8 l {state:=.ready,pending:=none,fn:=fn,tmps:=tmps,params:=ps,assign:=assign,body:=body,defers:=D}::(Kp g ks p c++[.blk gk [.map (some b)] 109,QE Qz false Qe b m])) ([],none,0) ⟨List.nodup_nil,λ_ h=>by cases h⟩ [5,0] rfl (λ_ _ U=>ask [] rfl U) rfl (λs_ hm=>?_)
 obtain⟨ks,p,c⟩:=s_;try dsimp only at hm⊢
 refine Q6 ?_;refine Qc ?_;refine Mu 0 5 rfl rfl rfl (Q0 rfl) rfl rfl rfl rfl (λmF=>?_) (λk kv hk D4=>?_)
 ·refine Qt rfl rfl rfl (Q0 rfl) rfl ?_;refine Q2 ?_;refine Qu ?_;refine Q6 ?_;refine yE rfl ?_;refine ib ?_;refine Qa ?_;refine Qa ?_;refine Qx ?_;exact tj (Hr:=[_,_,_,_,_]) [1,2,3,4,5] Tryz.results414 ⟨_,_,ax,rfl,rfl,ks,p,c,⟨hm.1,λy=>⟨hm.2 y,λh=>mF y h⟩⟩,rfl,rfl⟩ (λ_ _ U=>ask [] rfl U) rfl rfl (.inr rfl)
 ·refine Qt rfl rfl rfl (Q0 rfl) rfl ?_;refine Q2 ?_;refine Qu ?_;refine Q6 ?_;refine uR rfl ?_;refine QT ?_;refine Qu ?_;refine Qo ?_;refine Q6 ?_;refine Qc ?_;obtain⟨x,hx⟩:∃x,m.look k=some x:=Xd hk;refine Ml (a:=x) Lv 0 5 rfl rfl rfl (Q0 rfl) rfl rfl rfl rfl hx (u:=λ_=>.bool x) (λ_=>rfl) (v:=λ_=>.tuple #[.pointer (some ⟨k,0,none⟩),.bool x]) (λ_=>rfl) (λ_ _=>?_);refine Qt rfl rfl rfl (Q0 rfl) rfl ?_;refine Qt rfl rfl rfl (Q0 rfl) rfl ?_;refine Q2 ?_;refine Qu ?_;refine Q6 ?_;refine tN ?_;refine P6 (P:=Tryz.prog) (l2:=[_,_]) [_,_] rfl rfl ?_;refine Qt rfl rfl rfl (Q0 rfl) rfl ?_;refine Qt rfl rfl rfl (Q0 rfl) rfl ?_;refine Q2 ?_;refine R3 ?_;have bp:=K4 hm.1 hm.2 hk D4;refine wm [1,2,3] [0,4,5] rfl rfl rfl (Q0 rfl) rfl rfl rfl rfl Nx.symm (rs ks k p c bp) (λ_ _ U=>ask [] rfl U) rfl rfl ?_;rintro _ _ _ ⟨p',c',rfl,rfl,rfl⟩;refine P6 (P:=Tryz.prog) (l2:=[]) [_] rfl rfl ?_;refine Qt rfl rfl rfl (Q0 rfl) rfl ?_;refine Q2 ?_;refine pc ?_;refine Qu ?_;refine yE rfl ?_;refine QT ?_;refine Q8 ?_;refine Bo 3 rfl rfl ?_;refine Qk [3,0,1,2,4,5] rfl (H':=[_,_,_,_,_,_]) rfl ?_
  refine Mk (ks++[k],p',c') (by simp only[List.length_append,List.length_cons,List.length_nil];omega) ⟨Df hm.1 D4,λy hy=>by
   rcases List.mem_append.1 hy with h|h;· exact hm.2 y h
   · rw[List.mem_singleton.1 h];exact hk⟩ [5,0] rfl (λ_ _ U=>ask [] rfl U) rfl
theorem a1h:gV Tryz.prog 127=some (.pointer none,1,8):=au
theorem a1k:gE Tryz.prog 127=some (.pointer none):=au
theorem Ib {b gk:Nat} {m:MS Nat Bool} (hlen:m.keys.length<=4398046511104):QA Tryz.prog 413 [.slice none 0 0,.func (.func 414) #[] #[.pointer (some ⟨gk,0,none⟩)]] [] [.blk gk [.map (some b)] 109,QE Qz false Qe b m]
  (λv bo Hr=>∃ks p c,rm ks m.keys/\v=.slice p ks.length c/\bo=[]/\Hr=[.own 127 1 gD (.slice p ks.length c) ks,.blk gk [.map (some b)] 109,QE Qz false Qe b m]):=by
 refine AV Tryz.func413 rfl rfl rfl rfl λC=>?_;refine Q6 ?_;refine Qc ?_;refine tP rfl rfl rfl (Q0 rfl) rfl rfl rfl (λg=>?_);refine Qt rfl rfl rfl (Q0 rfl) rfl ?_;refine Q2 ?_;refine HM 127 1 gD ?_;refine Qu ?_;refine Q6 ?_;refine Q6 ?_;refine Qc ?_;refine Qt rfl rfl rfl (Q0 rfl) rfl ?_;refine Q2 ?_;refine Qu ?_;refine Qo ?_;refine jT [6,2] (S':=[_,_]) rfl ?_;refine Bl (Φf:=[]) (H':=[rA []]) [0,3,2,5,6] [1,4] rfl au (λ_ _=>rfl) (λ_ _ bh=>ask [] rfl bh) rfl (λ_ _=>rfl) (λfn l D a hf=>TY rfl λks y p c bp=>?_) (λD bo Hx hR=>?_)
 ·refine AO (Jc (k:=13) hf rfl rfl) λC=>?_
  ·refine Qba ?_;refine P6 (P:=Tryz.prog) (l2:=[]) [_] rfl rfl ?_;refine Qt rfl rfl rfl (Q0 rfl) rfl ?_;refine Q2 ?_;refine pc ?_;refine Bn 0 rfl rfl rfl ?_;refine wh ?_;refine Qba ?_;refine P6 (P:=Tryz.prog) (l2:=[]) [_,_,_,_,_] rfl rfl ?_;refine LF 1 0 rfl rfl rfl (Q0 rfl) rfl rfl rfl (cs:=[_]) rfl UD ZV rfl rfl ?_;refine Qt rfl rfl rfl (Q0 rfl) rfl ?_;refine u7 rfl rfl rfl (Q0 rfl) rfl ZW a1i a1k rfl (zs:=[.pointer none]) au rfl (out:=[_]) rfl (λg2=>?_);refine GX [y] 3 0 rfl rfl rfl (Q0 rfl) rfl rfl rfl rfl rfl (λF w bh=>⟨[.pointer (some ⟨y,0,none⟩)],[],rfl,rfl,⟨(),rfl,QP⟩,rfl⟩) ZW a1h rfl rfl (by simp only[List.length_cons,List.length_nil];omega) (by simp only[List.length_cons,List.length_nil];omega) (H2:=λp' U=>[_,_,_,.own 127 1 gD (.slice p' ((ks++[y]).length) U) (ks++[y])]) (λ_ _=>rfl) (λp' U=>?_);refine Bt 2 0 rfl rfl rfl rfl rfl rfl rfl UD rfl rfl rfl (all':=[_]) rfl (H':=[_,_,_,_]) rfl ?_;refine Q2 ?_;refine pc ?_;refine Q8 ?_;refine Qk [1,2,3] rfl (H':=[_,_,_]) rfl ?_;exact pR 0 rfl rfl ⟨p',U,rfl,rfl,rfl⟩
 ·obtain⟨ks,p,c,hk,rfl,rfl⟩:=hR;refine Fh (Ds:=[]) (Es:=[D]) 5 4 rfl rfl rfl rfl ?_;refine Q8 ?_;refine Qu ?_;refine Q6 ?_;refine Qc ?_;refine LF 0 0 rfl rfl rfl (Q0 rfl) rfl rfl rfl (cs:=[_]) rfl UD ZV rfl rfl ?_;refine Qt (S':=[_,_,_]) rfl rfl rfl rfl rfl ?_;refine Q2 ?_;refine Qu ?_;refine Ql ?_;refine Qk [4,1,2,3] rfl (H':=[rA [D],_,_,_]) rfl ?_;exact Bp (Ds:=[D]) (.inr rfl) rfl rfl (results_tmp Tryz.results413 rfl) ⟨ks,p,c,hk,rfl,rfl,rfl⟩
theorem ve {b gk:Nat} {m:MS Nat Bool} (hlen:m.keys.length<=4398046511104):QA Tryz.prog 406 [.func (.func 414) #[] #[.pointer (some ⟨gk,0,none⟩)]] [] [.blk gk [.map (some b)] 109,QE Qz false Qe b m]
  (λv bo Hr=>∃ks p c,rm ks m.keys/\v=.slice p ks.length c/\bo=[]/\Hr=[.own 127 1 gD (.slice p ks.length c) ks,.blk gk [.map (some b)] 109,QE Qz false Qe b m]):=by
 refine Qi Tryz.func406 rfl rfl rfl rfl λC=>?_;refine Q6 ?_;refine Qc ?_;refine Qt rfl rfl rfl (Q0 rfl) rfl ?_;refine Q2 ?_;refine Qu ?_;refine Q6 ?_;refine Qc ?_;refine Qt rfl rfl rfl (Q0 rfl) rfl ?_;refine yy [0,1] [] rfl rfl rfl (Q0 rfl) rfl rfl au rfl (Ib hlen) (λ_ _ U=>ask [] rfl U) rfl (H':=[]) rfl ?_;rintro _ _ _ ⟨ks,p,c,hk,rfl,rfl,rfl⟩;refine Qt (S':=[_,_,_]) rfl rfl rfl rfl rfl ?_;refine Q2 ?_;refine Qu ?_;refine Ql ?_;exact ry (Hr:=[_,_,_]) [0,1,2] Tryz.results406 (iO rfl) ⟨ks,p,c,hk,rfl,rfl,rfl⟩ (λ_ _ U=>ask [] rfl U) rfl rfl (.inl rfl)
end
section
open Go Go.RowKit
section
variable {P:Program} {C:Ctx} {n:FD} {Q:Exit->Act->World->Prop} {Φ Φ':List Fact} {H H':List Fact} {S S':List (Nat×Value)} {ops:Array Oper} {rest:List Oper} {o:Oper} {d:Nat}
def Kf (P:Program)(t:TypeId):Bool:=match P.underlying t with
 |some (.interface _)=>false
 |some _=>true
 |none=>false
theorem Qbd {t:TypeId} {x:Operand} {v:Value} (hg:QJ ops S o=some true)(hd:o.dst=some d)(hn:Nat.blt d n=true)(hS:eH d S=S')(ho:o.op=.makeInterface t x)(hx:da S x=some v)(U:Kf P t=true)
  (next:WL P C n Q Φ H ((d,.iface t v)::S') ops rest):WL P C n Q Φ H S ops (o::rest):=
 Hh hg hd hn hS (λa w hf _=>by
  unfold Kf at U;unfold execOp;simp only[ho,hf.eval hx,Instr.makeInterface,Sem.run_bind];split at U;· cases U
  ·rename_i u db hu;simp only[run_underlying hu,Result.andThen_ok];rfl
  · cases U) next
end
end
end Go.Proofs.YtocfkfhdcnjklaaGreatDoor
