import Derived.Test.YtocfkfhdcnjklaaGreatDoorMapX
import Derived.Shelf.Strings.Trim
import Derived.Shelf.Small.Utf8
import Derived.Shelf.Small.Bits
import Derived.Shelf.Small.Strs
import Derived.Shelf.Small.Wraps
import Derived.Shelf.Strconv.Itoa0
import Derived.Shelf.Strconv.Itoa1
import Derived.Shelf.LaysM
import Derived.Shelf.Strconv.Itoa2
import Derived.Shelf.Strconv.Itoa3
import Derived.Shelf.Strconv.Itoa4
import Derived.Shelf.Strings.Search1
import Derived.Shelf.Strings.Runes
import Derived.Shelf.Strings.AsciiSet
import Derived.Shelf.Bits.Mul64
import Derived.Shelf.Unicode.DecodeSlow
import Derived.Ground.Names2Prog
import Derived.Shelf.Slices.Clone
import Derived.Shelf.Slices.SearchI
import Derived.Ground.SlgmProg
import Derived.Shelf.SortM.Plain
import Derived.Shelf.SortM.SortNone
import Derived.Laws.BytesArg
import Derived.Laws.BytesString
import Derived.Laws.IdiomStrings
import Derived.Lib.LaidTab
import Derived.Lib.ItoaNum
import Derived.LaidSub
import Derived.Shelf.Strings.SlTrimAscii
import Derived.Deep.Draws
import Derived.SizedLaws
import Derived.Lib.AppendZeros
import Derived.Defers
import Derived.Recover
open List renaming getElem?_eq_getElem->a',getElem?_eq_some_iff->d',mem_cons_self->e',mem_append->f',mem_cons->g',length_cons->j',getElem?_map->m',mem_singleton->o',getElem?_append_right->q',getElem?_append_left->s',length_nil->x',length_append->E',mem_map->F',append_assoc->K',length_map->R',nodup_cons->T',nil_append->W',replicate->a!
open Array renaming getElem?_eq_some_iff->h',getElem?_append_left->i',getElem?_toList->y'
open Nat renaming le_trans->k',le_of_ble_eq_true->z',mul_le_mul_right->A',lt_of_lt_of_le->B',zero_le->Q',lt_irrefl->b!,blt->c!,sub_zero->d!,zero_mul->e!,zero_add->g!,le_refl->h!,mul_pos->i!,add_mul->j!
open Int renaming eq_ofNat_of_zero_le->t'
open Option renaming bind_some->M',map->k!
open Bool renaming and_eq_true->N'
namespace Go.Proofs.YtocfkfhdcnjklaaGreatDoor
section
open Go Go.RowKit Go.Shelf
section
variable {α:Type}
def DR (cm:α->α->bf Int)(x y:α):Int:=(cm x y).getD 0
structure zj (cm:α->α->Option Int) (l:List α):Prop where
 some:∀x∈l,∀y∈l,∃z,cm x y=some z
 irrefl:∀x∈l,¬DR cm x x<0
 trans:∀x∈l,∀y∈l,∀z∈l,DR cm x y<0->DR cm y z<0->DR cm x z<0
 ntrans:∀x∈l,∀y∈l,∀z∈l,¬DR cm x y<0->¬DR cm y z<0->¬DR cm x z<0
 parts:∀x∈l,∀y∈l,¬DR cm x y<0->¬DR cm y x<0->x=y
 len:l.length<4611686018427387904
variable {cm:α->α->bf Int}{l l':aq α}{P:da}{g f:FuncId}{Φ:aq Fact}{cb:Array bc}{e sz c:Nat}{arg:aq bc->bc}{R:fc α}{p:bf Addr}
noncomputable def rI (cm:α->α->bf Int)(l:aq α):bf (aq α):=
 @ite _ (zj cm l) (Classical.propDecidable _) (some (oN (DR cm) l)) none
theorem Nb (h:rI cm l=some l'):zj cm l/\oN (DR cm) l=l':=by
 unfold rI at h;by_cases hk:zj cm l
 ·rw[if_pos hk]at h;exact⟨hk,Option.some.inj h⟩
 ·rw[if_neg hk]at h;cases h
theorem Na (h:zj cm l)(hp:l'.Perm l)(hs:l'.Pairwise λa b=>¬DR cm b a<0):rI cm l=some l':=by
 unfold rI;rw[if_pos h,vv hp hs h.parts]
theorem FP
  (hS:tS P f sz arg) (Mf:∀(p:bf Addr) (cap:Nat) (fv:bc) (w:bx),Calls P f #[.slice p 0 cap,fv] w λe w'=>e=.returned (.tuple #[])/\w'=w) (eg:∀args w,(callFunc g args).run P w=.ok (.enter g args) w)
  (LX:∀(cs U:aq bc) (x y:α) (z:Int) (F:eL) (W:bx),(∀k,F k->k<W.heap.size)->(∀φ∈Φ,φ.p F W)->R.p F W cs x->R.p F W U y->cm x y=some z->Calls P g (#[arg cs,arg U]++cb) W λe w'=>e=.returned (.int .i64 z)/\Mod (λ_=>False) W w')
  (hm:rI cm l=some l'):
  QF P f [.slice p l.length c,.func (.func g) #[] cb] Φ [.own e sz R (.slice p l.length c) l] λv bz Hr=>v=.tuple #[]/\bz=[]/\Hr=[.own e sz R (.slice p l.length c) l']:=by
 obtain⟨hk,rfl⟩:=Nb hm;refine FO (DR cm) hS Mf eg (λcs U x y F W h1 h2 h3 h4 h5 h6=>?_) hk.irrefl hk.trans hk.ntrans hk.parts hk.len;obtain⟨z,hz⟩:=hk.some x h5 y h6;have:DR cm x y=z:=by unfold DR;rw[hz];rfl
 rw[this];exact LX cs U x y z F W h1 h2 h3 h4 hz
theorem KL {args:aq bc} {v:bc} {F:eL} {W:bx} (h:QF P g args Φ [] (λu bz Hr=>u=v/\bz=[]/\Hr=[]))(hF:∀k,F k->k<W.heap.size)(eN:∀φ∈Φ,φ.p F W):
  Calls P g args.toArray W λe w'=>e=.returned v/\Mod (λ_=>False) W w':=
 vw h λφ U=>φ.good hF (fX.refl _ _) (eN φ U)
theorem FQ {Λ:Type} {C:α->Λ->aq bc} {Fx:α->Λ->aq Fact}
  (kd:ra R C (λ_ _=>True) Fx) (hS:tS P f sz arg) (Mf:∀(p:bf Addr) (cap:Nat) (fv:bc) (w:bx),Calls P f #[.slice p 0 cap,fv] w λe w'=>e=.returned (.tuple #[])/\w'=w) (eg:∀args w,(callFunc g args).run P w=.ok (.enter g args) w)
  (hc:∀x y r r' z,cm x y=some z->QF P g ([arg (C x r),arg (C y r')]++cb.toList) (Fx x r++(Fx y r'++Φ)) [] λv bz Hr=>v=.int .i64 z/\bz=[]/\Hr=[])
  (hm:rI cm l=some l'):
  QF P f [.slice p l.length c,.func (.func g) #[] cb] Φ [.own e sz R (.slice p l.length c) l] λv bz Hr=>v=.tuple #[]/\bz=[]/\Hr=[.own e sz R (.slice p l.length c) l']:=by
 refine FP hS Mf eg (λcs wh x y z F W hF eN h1 h2 hz=>?_) hm;obtain⟨r,rfl,_,q1⟩:=kd _ _ _ _ h1;obtain⟨r',rfl,_,q2⟩:=kd _ _ _ _ h2
 have h3:=KL (W:=W) (hc x y r r' z hz) hF (λφ U=>by
  rcases f'.1 U with U|U;· exact q1 φ U
  ·rcases f'.1 U with U|U;· exact q2 φ U
   · exact eN φ U)
 have e:#[arg (C x r),arg (C y r')]++cb=([arg (C x r),arg (C y r')]++cb.toList).toArray:=by apply Array.ext';simp
 rw[<-e]at h3;exact h3
end
end
section
open Go Go.RowKit Go.Shelf
theorem Y2:tS Tryz.prog 66 2 Ti:=Si Tryz.sort66 2 (vD aw) (w7 aw)
theorem Ji (p:bf Addr)(cap:Nat)(U:bc)(w:bx):Calls Tryz.prog 66 #[.slice p 0 cap,U] w λe w'=>e=.returned (.tuple #[])/\w'=w:=AnyF.slices_SortFunc_none (P:=Tryz.prog) (ρ:=Tryz.sort66_ren) {Tryz.sort66 with} p cap U w
end
end Go.Proofs.YtocfkfhdcnjklaaGreatDoor
namespace Go.Proofs
open Go.Shelf
theorem bj{p:Prop}(h:p:=by kernel_rfl):p:=h
def Tryz.lays160_ren:Go.Shelf.Ren:=⟨λ|160=>181|232=>268|231=>267|227=>269|234=>271|233=>270|236=>273|235=>272|228=>328|271=>331|151=>330|197=>329|120=>359|152=>358|260=>357|137=>180|119=>377|224=>378|225=>379|217=>266|266=>327|n=>n,λ|9=>9|4=>4|3=>3|5=>5|117=>431|116=>430|0=>0|124=>434|21=>21|105=>479|46=>230|119=>507|139=>510|138=>509|n=>n,λ|3=>2|4=>3|n=>n⟩
theorem Tryz.lays160:Go.Proofs.Lays.n160 Tryz.prog Tryz.lays160_ren:={
 mixed:=bj
 f119:=Tryz.func377.trans (congrArg some bj)
 f120:=Tryz.func359.trans (congrArg some bj)
 f137:=Tryz.func180.trans (congrArg some bj)
 f151:=Tryz.func330.trans (congrArg some bj)
 f152:=Tryz.func358.trans (congrArg some bj)
 f160:=Tryz.func181.trans (congrArg some bj)
 f197:=Tryz.func329.trans (congrArg some bj)
 f217:=Tryz.func266.trans (congrArg some bj)
 f224:=Tryz.func378.trans (congrArg some bj)
 f225:=Tryz.func379.trans (congrArg some bj)
 f227:=Tryz.func269.trans (congrArg some bj)
 f228:=Tryz.func328.trans (congrArg some bj)
 f231:=Tryz.func267.trans (congrArg some bj)
 f232:=Tryz.func268.trans (congrArg some bj)
 f233:=Tryz.func270.trans (congrArg some bj)
 f234:=Tryz.func271.trans (congrArg some bj)
 f235:=Tryz.func272.trans (congrArg some bj)
 f236:=Tryz.func273.trans (congrArg some bj)
 f260:=Tryz.func357.trans (congrArg some bj)
 f266:=Tryz.func327.trans (congrArg some bj)
 f271:=Tryz.func331.trans (congrArg some bj)
 t0:=Tryz.underlying0
 a0:=Tryz.isAgg0
 z0:=Tryz.sizeOf0
 v0:=Tryz.zeroValue0
 t3:=Tryz.underlying3
 a3:=Tryz.isAgg3
 z3:=Tryz.sizeOf3
 v3:=Tryz.zeroValue3
 t4:=Tryz.underlying4
 a4:=Tryz.isAgg4
 z4:=Tryz.sizeOf4
 v4:=Tryz.zeroValue4
 t5:=Tryz.underlying5
 a5:=Tryz.isAgg5
 z5:=Tryz.sizeOf5
 v5:=Tryz.zeroValue5
 t9:=Tryz.underlying9
 a9:=Tryz.isAgg9
 z9:=Tryz.sizeOf9
 v9:=Tryz.zeroValue9
 t21:=Tryz.underlying21
 a21:=Tryz.isAgg21
 z21:=Tryz.sizeOf21
 v21:=Tryz.zeroValue21
 t46:=Tryz.underlying230
 a46:=Tryz.isAgg230
 z46:=Tryz.sizeOf230
 v46:=Tryz.zeroValue230
 t105:=Tryz.underlying479
 a105:=Tryz.isAgg479
 z105:=Tryz.sizeOf479
 v105:=Tryz.zeroValue479
 t116:=Tryz.underlying430
 a116:=Tryz.isAgg430
 z116:=Tryz.sizeOf430
 t117:=Tryz.underlying431
 a117:=Tryz.isAgg431
 z117:=Tryz.sizeOf431
 v117:=Tryz.zeroValue431
 t119:=Tryz.underlying507
 a119:=Tryz.isAgg507
 z119:=Tryz.sizeOf507
 t124:=Tryz.underlying434
 a124:=Tryz.isAgg434
 z124:=Tryz.sizeOf434
 v124:=Tryz.zeroValue434
 t138:=Tryz.underlying509
 a138:=Tryz.isAgg509
 z138:=Tryz.sizeOf509
 v138:=Tryz.zeroValue509
 t139:=Tryz.underlying510
 a139:=Tryz.isAgg510
 z139:=Tryz.sizeOf510
 v139:=Tryz.zeroValue510
 g3:=bj
 g4:=by kernel_rfl}
def Tryz.lays137_ren:Go.Shelf.Ren:=⟨λ|137=>180|217=>266|266=>327|n=>n,λ|9=>9|5=>5|3=>3|n=>n,λ|n=>n⟩
theorem Tryz.lays137:Go.Proofs.Lays.n137 Tryz.prog Tryz.lays137_ren:={
 mixed:=bj
 f137:=Tryz.func180.trans (congrArg some bj)
 f217:=Tryz.func266.trans (congrArg some bj)
 f266:=Tryz.func327.trans (congrArg some bj)
 t3:=Tryz.underlying3
 a3:=Tryz.isAgg3
 z3:=Tryz.sizeOf3
 v3:=Tryz.zeroValue3
 t5:=Tryz.underlying5
 a5:=Tryz.isAgg5
 z5:=Tryz.sizeOf5
 v5:=Tryz.zeroValue5
 t9:=Tryz.underlying9
 a9:=Tryz.isAgg9
 z9:=Tryz.sizeOf9
 v9:=Tryz.zeroValue9}
open Go.RowKit in
theorem Tryz.strings_IndexByte (s:ByteArray)(c:Int)(w:World):
 Calls Tryz.prog 180 #[.string s,.int .u8 c] w λe U=>e=.returned (.int .i64 (Lib.indexByte s.data.toList c.toNat.toUInt8))/\U=w:=Any.strings_IndexByte Tryz.lays137 s c w
def Tryz.laysM171_ren:Go.Shelf.Ren:=⟨λ|171=>85|243=>165|246=>258|283=>316|284=>317|285=>318|286=>319|129=>191|317=>350|318=>351|319=>352|320=>353|337=>373|338=>374|n=>n,λ|3=>3|9=>9|2=>2|4=>4|171=>471|0=>0|53=>322|37=>329|5=>5|173=>473|212=>498|51=>320|20=>20|213=>499|46=>230|232=>515|233=>516|n=>n,λ|17=>0|18=>4|19=>5|n=>n⟩
theorem Tryz.laysM171:Go.Proofs.LaysM.n171 Tryz.prog Tryz.laysM171_ren:={
 mixed:=bj
 f129:=Tryz.func191.trans (congrArg some bj)
 f171:=Tryz.func85.trans (congrArg some bj)
 f243:=Tryz.func165.trans (congrArg some bj)
 f246:=Tryz.func258.trans (congrArg some bj)
 f283:=Tryz.func316.trans (congrArg some bj)
 f284:=Tryz.func317.trans (congrArg some bj)
 f285:=Tryz.func318.trans (congrArg some bj)
 f286:=Tryz.func319.trans (congrArg some bj)
 f317:=Tryz.func350.trans (congrArg some bj)
 f318:=Tryz.func351.trans (congrArg some bj)
 f319:=Tryz.func352.trans (congrArg some bj)
 f320:=Tryz.func353.trans (congrArg some bj)
 f337:=Tryz.func373.trans (congrArg some bj)
 f338:=Tryz.func374.trans (congrArg some bj)
 t0:=Tryz.underlying0
 a0:=Tryz.isAgg0
 z0:=Tryz.sizeOf0
 v0:=Tryz.zeroValue0
 t2:=Tryz.underlying2
 a2:=Tryz.isAgg2
 z2:=Tryz.sizeOf2
 v2:=Tryz.zeroValue2
 t3:=Tryz.underlying3
 a3:=Tryz.isAgg3
 z3:=Tryz.sizeOf3
 v3:=Tryz.zeroValue3
 t4:=Tryz.underlying4
 a4:=Tryz.isAgg4
 z4:=Tryz.sizeOf4
 v4:=Tryz.zeroValue4
 t5:=Tryz.underlying5
 a5:=Tryz.isAgg5
 z5:=Tryz.sizeOf5
 v5:=Tryz.zeroValue5
 t9:=Tryz.underlying9
 a9:=Tryz.isAgg9
 z9:=Tryz.sizeOf9
 v9:=Tryz.zeroValue9
 t20:=Tryz.underlying20
 a20:=Tryz.isAgg20
 z20:=Tryz.sizeOf20
 v20:=Tryz.zeroValue20
 t37:=Tryz.underlying329
 a37:=Tryz.isAgg329
 z37:=Tryz.sizeOf329
 v37:=Tryz.zeroValue329
 t46:=Tryz.underlying230
 a46:=Tryz.isAgg230
 z46:=Tryz.sizeOf230
 v46:=Tryz.zeroValue230
 t51:=Tryz.underlying320
 a51:=Tryz.isAgg320
 z51:=Tryz.sizeOf320
 v51:=Tryz.zeroValue320
 t53:=Tryz.underlying322
 a53:=Tryz.isAgg322
 z53:=Tryz.sizeOf322
 v53:=Tryz.zeroValue322
 t171:=Tryz.underlying471
 a171:=Tryz.isAgg471
 z171:=Tryz.sizeOf471
 v171:=Tryz.zeroValue471
 t173:=Tryz.underlying473
 a173:=Tryz.isAgg473
 z173:=Tryz.sizeOf473
 v173:=Tryz.zeroValue473
 t212:=Tryz.underlying498
 a212:=Tryz.isAgg498
 z212:=Tryz.sizeOf498
 v212:=Tryz.zeroValue498
 t213:=Tryz.underlying499
 a213:=Tryz.isAgg499
 z213:=Tryz.sizeOf499
 t232:=Tryz.underlying515
 a232:=Tryz.isAgg515
 z232:=Tryz.sizeOf515
 v232:=Tryz.zeroValue515
 t233:=Tryz.underlying516
 a233:=Tryz.isAgg516
 z233:=Tryz.sizeOf516
 v233:=Tryz.zeroValue516
 g17:=bj
 g18:=bj
 g19:=bj
 i0:=bj
 i2:=bj
 i3:=bj
 i4:=bj
 i5:=bj
 i9:=bj
 i20:=bj
 i37:=bj
 i46:=bj
 i51:=bj
 i53:=bj
 i171:=bj
 i173:=bj
 i212:=bj
 i232:=bj
 i233:=bj
 m17:=bj
 m18:=bj
 m19:=by kernel_rfl}
open Go.RowKit Go.Sort Go.Lib in
theorem Tryz.strconv_Itoa (n:Int)(h0:-9223372036854775808<=n)(h1:n<=9223372036854775807)(w:World)(U:Lib.TabIs Tryz.prog w "internal/strconv.uint64pow10" .u64 Lib.pow10Tab):
 Calls Tryz.prog 85 #[.int .i64 n] w λe w'=>e=.returned (.string ⟨(Lib.itoa n).toArray⟩)/\∃k os,w'=grow (w.drewN k) os:=Any.strconv_Itoa Tryz.laysM171 n h0 h1 w U
def Tryz.laysM173_ren:Go.Shelf.Ren:=⟨λ|173=>166|246=>258|283=>316|284=>317|285=>318|286=>319|129=>191|317=>350|318=>351|319=>352|320=>353|337=>373|338=>374|n=>n,λ|2=>2|3=>3|9=>9|4=>4|171=>471|0=>0|53=>322|37=>329|5=>5|173=>473|212=>498|51=>320|20=>20|213=>499|46=>230|232=>515|233=>516|n=>n,λ|17=>0|18=>4|19=>5|n=>n⟩
theorem Tryz.laysM173:Go.Proofs.LaysM.n173 Tryz.prog Tryz.laysM173_ren:={
 mixed:=bj
 f129:=Tryz.func191.trans (congrArg some bj)
 f173:=Tryz.func166.trans (congrArg some bj)
 f246:=Tryz.func258.trans (congrArg some bj)
 f283:=Tryz.func316.trans (congrArg some bj)
 f284:=Tryz.func317.trans (congrArg some bj)
 f285:=Tryz.func318.trans (congrArg some bj)
 f286:=Tryz.func319.trans (congrArg some bj)
 f317:=Tryz.func350.trans (congrArg some bj)
 f318:=Tryz.func351.trans (congrArg some bj)
 f319:=Tryz.func352.trans (congrArg some bj)
 f320:=Tryz.func353.trans (congrArg some bj)
 f337:=Tryz.func373.trans (congrArg some bj)
 f338:=Tryz.func374.trans (congrArg some bj)
 t0:=Tryz.underlying0
 a0:=Tryz.isAgg0
 z0:=Tryz.sizeOf0
 v0:=Tryz.zeroValue0
 t2:=Tryz.underlying2
 a2:=Tryz.isAgg2
 z2:=Tryz.sizeOf2
 v2:=Tryz.zeroValue2
 t3:=Tryz.underlying3
 a3:=Tryz.isAgg3
 z3:=Tryz.sizeOf3
 v3:=Tryz.zeroValue3
 t4:=Tryz.underlying4
 a4:=Tryz.isAgg4
 z4:=Tryz.sizeOf4
 v4:=Tryz.zeroValue4
 t5:=Tryz.underlying5
 a5:=Tryz.isAgg5
 z5:=Tryz.sizeOf5
 v5:=Tryz.zeroValue5
 t9:=Tryz.underlying9
 a9:=Tryz.isAgg9
 z9:=Tryz.sizeOf9
 v9:=Tryz.zeroValue9
 t20:=Tryz.underlying20
 a20:=Tryz.isAgg20
 z20:=Tryz.sizeOf20
 v20:=Tryz.zeroValue20
 t37:=Tryz.underlying329
 a37:=Tryz.isAgg329
 z37:=Tryz.sizeOf329
 v37:=Tryz.zeroValue329
 t46:=Tryz.underlying230
 a46:=Tryz.isAgg230
 z46:=Tryz.sizeOf230
 v46:=Tryz.zeroValue230
 t51:=Tryz.underlying320
 a51:=Tryz.isAgg320
 z51:=Tryz.sizeOf320
 v51:=Tryz.zeroValue320
 t53:=Tryz.underlying322
 a53:=Tryz.isAgg322
 z53:=Tryz.sizeOf322
 v53:=Tryz.zeroValue322
 t171:=Tryz.underlying471
 a171:=Tryz.isAgg471
 z171:=Tryz.sizeOf471
 v171:=Tryz.zeroValue471
 t173:=Tryz.underlying473
 a173:=Tryz.isAgg473
 z173:=Tryz.sizeOf473
 v173:=Tryz.zeroValue473
 t212:=Tryz.underlying498
 a212:=Tryz.isAgg498
 z212:=Tryz.sizeOf498
 v212:=Tryz.zeroValue498
 t213:=Tryz.underlying499
 a213:=Tryz.isAgg499
 z213:=Tryz.sizeOf499
 t232:=Tryz.underlying515
 a232:=Tryz.isAgg515
 z232:=Tryz.sizeOf515
 v232:=Tryz.zeroValue515
 t233:=Tryz.underlying516
 a233:=Tryz.isAgg516
 z233:=Tryz.sizeOf516
 v233:=Tryz.zeroValue516
 g17:=bj
 g18:=bj
 g19:=bj
 i0:=bj
 i2:=bj
 i3:=bj
 i4:=bj
 i5:=bj
 i9:=bj
 i20:=bj
 i37:=bj
 i46:=bj
 i51:=bj
 i53:=bj
 i171:=bj
 i173:=bj
 i212:=bj
 i232:=bj
 i233:=bj
 m17:=bj
 m18:=bj
 m19:=by kernel_rfl}
open Go.RowKit Go.Sort Go.Lib in
theorem Tryz.strconv_FormatInt_10 (n:Int)(h0:-9223372036854775808<=n)(h1:n<=9223372036854775807)(w:World)(U:Lib.TabIs Tryz.prog w "internal/strconv.uint64pow10" .u64 Lib.pow10Tab):
 Calls Tryz.prog 166 #[.int .i64 n,.int .i64 10] w λe w'=>e=.returned (.string ⟨(Lib.itoa n).toArray⟩)/\∃k os,w'=grow (w.drewN k) os:=Any.strconv_FormatInt_10 Tryz.laysM173 n h0 h1 w U
def Tryz.lays264_ren:Go.Shelf.Ren:=⟨λ|264=>380|n=>n,λ|53=>322|46=>230|n=>n,λ|n=>n⟩
theorem Tryz.lays264:Go.Proofs.Lays.n264 Tryz.prog Tryz.lays264_ren:={
 mixed:=bj
 f264:=Tryz.func380.trans (congrArg some bj)
 t46:=Tryz.underlying230
 a46:=Tryz.isAgg230
 z46:=Tryz.sizeOf230
 v46:=Tryz.zeroValue230
 t53:=Tryz.underlying322
 a53:=Tryz.isAgg322
 z53:=Tryz.sizeOf322
 v53:=Tryz.zeroValue322}
open Go.RowKit Go.Lib in
theorem Tryz.bits_Mul64 (x y:Nat)(U:x<18446744073709551616)(hy:y<18446744073709551616)(w:World):
 Calls Tryz.prog 380 #[.int .u64 x,.int .u64 y] w λe w'=>e=.returned (.tuple #[.int .u64 ((x*y/18446744073709551616:Nat):Int),.int .u64 ((x*y%18446744073709551616:Nat):Int)])/\w'=w:=Any.bits_Mul64 Tryz.lays264 x y U hy w
end Go.Proofs
namespace Go.Proofs.YtocfkfhdcnjklaaGreatDoor
section
open Go Go.RowKit
variable {P:da}{f:FuncId}{args:aq bc}{v:bc}
theorem yA (h:∀w,Calls P f args.toArray w λe U=>e=.returned v/\Below w.heap.size w U):QF P f args [] [] (λu bz Hr=>u=v/\bz=[]/\Hr=[]):=by
 intro F N w hF _ _ _ _;refine(h w).mono λe U ⟨he,hb⟩=>⟨v,[],[],he,⟨rfl,rfl,rfl⟩,?_⟩
 have h0:Ql ⟨w,λk=>∃i,i<([]:aq Fact).length/\N i k,F⟩ [] [] w:=
  ⟨F,N,hF,λ_ h=>h,λ_ h=>.inl h,λφ bs=>(by cases bs),λi φ h=>(by simp at h),λi k hi=>(by simp at hi),λi j k hi=>(by simp at hi),Mod.refl _ _⟩
 exact h0.drew' hb
theorem yB (h:∀w,Calls P f args.toArray w λe U=>e=.returned v/\U=w):QF P f args [] [] (λu bz Hr=>u=v/\bz=[]/\Hr=[]):=
 yA λw=>(h w).mono λe _ ⟨he,hw⟩=>⟨he,hw▸Below.refl _ _⟩
end
section
open Go Go.RowKit
variable {P:da}{name:String}{k:IntKind}{g:Nat}{hg:P.globalNamed name=some g}
def NN (P:da)(name:String)(k:IntKind)(zs:aq Int)(g:Nat)(hg:P.globalNamed name=some g):Fact:=
 .raw (λN w=>N g/\Lib.TabIs P w name k zs) (λU ha h=>⟨U _ h.1,by
  have:=h.2;unfold Lib.TabIs World.var? at this⊢;rw[hg]at this⊢;simp only[M']at this⊢;rw[ha g h.1];exact this⟩)
theorem Sr {W:bx} {zs:aq Int} (h:Lib.TabIs P W name k zs):(NN P name k zs g hg).p (λk=>k<W.heap.size) W:=by
 refine⟨?_,h⟩;unfold Lib.TabIs World.var? at h;rw[hg]at h;simp only[M']at h;cases hb:W.heap[g]? with
 |none=>rw[hb]at h;cases h
 |some o=>exact(h'.1 hb).1
theorem CQ {f:FuncId} {args:aq bc} {v:bc} {zs:aq Int} (h:∀w,Lib.TabIs P w name k zs->Calls P f args.toArray w λe U=>e=.returned v/\Below w.heap.size w U):QF P f args [NN P name k zs g hg] [] (λu bz Hr=>u=v/\bz=[]/\Hr=[]):=by
 intro F N w hF eN _ _ _;have ht:Lib.TabIs P w name k zs:=(eN _ (o'.2 rfl)).2;refine(h w ht).mono λe U ⟨he,hb⟩=>⟨v,[],[],he,⟨rfl,rfl,rfl⟩,?_⟩
 have h0:Ql ⟨w,λk=>∃i,i<([]:aq Fact).length/\N i k,F⟩ [] [] w:=
  ⟨F,N,hF,λ_ h=>h,λ_ h=>.inl h,λφ bs=>(by cases bs),λi φ h=>(by simp at h),λi k hi=>(by simp at hi),λi j k hi=>(by simp at hi),Mod.refl _ _⟩
 exact h0.drew' hb
theorem QcZ (w:bx):∀n,Below w.heap.size w (w.drewN n)
 |0=>Below.refl _ _
 |n+1=>(QcZ w n).drew
def kr:Nat->Nat->aq UInt8
 |0,_=>[]
 |f+1,u=>if u<10 then[UInt8.ofNat (48+u)]else kr f (u/10)++[UInt8.ofNat (48+u%10)]
theorem zt:∀(f u:Nat),u<10^f->0<f->kr f u=Lib.decDigits u
 |0,_,_,h=>au
 | f+1,u,h,_=>by
   unfold kr;rw[Lib.decDigits];split;· rfl
   ·rename_i hu;cases f with
    |zero=>simp at h;omega
    | succ f=>
      rw[zt (f+1) (u/10) (by rw[Nat.pow_succ]at h;omega) au]
def wy (n:Int):cq:=⟨(if n<0 then 45::kr 20 n.natAbs else kr 20 n.toNat).toArray⟩
theorem Ce {n:Int} (h:-9223372036854775808<=n/\n<=9223372036854775807):(⟨(Lib.itoa n).toArray⟩:cq)=wy n:=by
 have e:(10:Nat)^20=100000000000000000000:=bp
 unfold wy Lib.itoa;split;· rw[zt 20 _ (by rw[e];omega) au]
 · rw[zt 20 _ (by rw[e];omega) au]
end
section
open Go Go.RowKit
theorem Ag (s:cq)(c:Int):QF Tryz.prog 180 [.string s,.int .u8 c] [] [] (λu U Hr=>u=.int .i64 (Lib.indexByte s.data.toList c.toNat.toUInt8)/\U=[]/\Hr=[]):=yB λw=>Tryz.strings_IndexByte s c w
theorem Sf (s c:cq)(hc:c.size<4294967281)(ha:∀(j:Nat) b,c.data.toList[j]? =some b->b.toNat<128)(hs:s.size<=9223372036854775807):QF Tryz.prog 181 [.string s,.string c] [] [] (λu U Hr=>u=.string ⟨(Lib.trimS s.data.toList c.data.toList).toArray⟩/\U=[]/\Hr=[]):=yA λw=>Any.strings_Trim_laid Tryz.lays160 aw s c w hs hc ha
theorem N9 (x y:Int)(hx:0<=x/\x<18446744073709551616)(hy:0<=y/\y<18446744073709551616):QF Tryz.prog 380 [.int .u64 x,.int .u64 y] [] [] (λu U Hr=>u=.tuple #[.int .u64 ((x.toNat*y.toNat/18446744073709551616:Nat):Int),.int .u64 ((x.toNat*y.toNat%18446744073709551616:Nat):Int)]/\U=[]/\Hr=[]):=yB λw=>by
 obtain⟨a,rfl⟩:=t' hx.1;obtain⟨b,rfl⟩:=t' hy.1;simp only[Int.toNat_natCast];exact Tryz.bits_Mul64 a b au au w
theorem tr:Tryz.prog.globalNamed "internal/strconv.uint64pow10" =some 0:=aw
abbrev tF:Fact:=NN Tryz.prog "internal/strconv.uint64pow10" .u64 Lib.pow10Tab 0 tr
theorem Af (n:Int)(h:-9223372036854775808<=n/\n<=9223372036854775807):QF Tryz.prog 166 [.int .i64 n,.int .i64 10] [NN Tryz.prog "internal/strconv.uint64pow10" .u64 Lib.pow10Tab 0 tr] [] (λu bz Hr=>u=.string (wy n)/\bz=[]/\Hr=[]):=by
 rw[<-Ce h];refine CQ λw ht=>(Tryz.strconv_FormatInt_10 n h.1 h.2 w ht).mono λe w' ⟨he,k,os,hw⟩=>⟨he,?_⟩
 subst hw;have h1:=QcZ w k
 exact ⟨h1.os,h1.tape,h1.output,k' h1.size (by simp[Go.Sort.grow]),λq U=>by
  have h2:=h1.block q U;have h3:q<(w.drewN k).heap.size:=B' U h1.size;simp only[Go.Sort.grow];rw[i' h3];exact h2⟩
theorem Se (n:Int)(h:-9223372036854775808<=n/\n<=9223372036854775807):QF Tryz.prog 85 [.int .i64 n] [NN Tryz.prog "internal/strconv.uint64pow10" .u64 Lib.pow10Tab 0 tr] [] (λu bz Hr=>u=.string (wy n)/\bz=[]/\Hr=[]):=by
 rw[<-Ce h];refine CQ λw ht=>(Tryz.strconv_Itoa n h.1 h.2 w ht).mono λe w' ⟨he,k,os,hw⟩=>⟨he,?_⟩
 subst hw;have h1:=QcZ w k
 exact ⟨h1.os,h1.tape,h1.output,k' h1.size (by simp[Go.Sort.grow]),λq U=>by
  have h2:=h1.block q U;have h3:q<(w.drewN k).heap.size:=B' U h1.size;simp only[Go.Sort.grow];rw[i' h3];exact h2⟩
end
section
open Go Go.RowKit Go.Deep
theorem YE {k:IntKind} {n:Int} (h:(Lit.int k n).wf=true):ql k n:=by
 simp only[Lit.wf,N',decide_eq_true_eq]at h;exact h
theorem H9 {x:Int} (h:ql .i64 x):-9223372036854775808<=x/\x<=9223372036854775807:=by
 have U:IntKind.min .i64=-9223372036854775808:=bp
 have e2:IntKind.max .i64=9223372036854775807:=bp
 unfold ql at h;rwa [U,e2]at h
section
variable {H:Type} {enc:TypeId×bc->H} {P:da} {w:bx} {base:Nat} {spare:Nat->Bool} {held:Bool} {fuel:Nat} {cs:aq bc} {y:DataW H×aq MemPlace}
variable {t:TypeId}{α:Type}{e sz:Nat}
def lz (P:da)(t:TypeId)(d:DataW H):Prop:=∀n∈d.weights P t,n<=reachBytes
theorem QaD {e:TypeId} {n:Nat}:∀{ds:aq (DataW H)} {d:DataW H},d∈ds->n∈d.weights P e->n∈DataW.weightsAll P e ds
 | d0::ds,d,U,hn=>by
   simp only[DataW.weightsAll,f'];rcases g'.1 U with rfl|U;· exact .inl hn
   · exact .inr (QaD U hn)
theorem P8 {fs:Array Field} (ht:P.underlying t=some (.struct fs))(h:DataW.trod enc P w base spare held fuel t cs=some y)(hw:lz P t y.1):
  ∃n,cs.length=P.cellsOf t/\∀(i:Nat) (f:Field),fs[i]? =some f->∃z,DataW.trod enc P w base spare held n f.type ((cs.drop f.offset).take (P.cellsOf f.type))=some z/\lz P f.type z.1:=by
 obtain⟨xs,n,_,rfl,hl,hlen,hf⟩:=DataW.trod_struct ht h;refine⟨n,hl,λi f hi=>?_⟩;have U:i<xs.length:=by rw[hlen];exact(h'.1 hi).1
 refine⟨xs[i],by have:=hf i f hi;simpa[a' U]using this,λk hk=>hw k ?_⟩;simp only[DataW.weights,ht];refine DataW.weights_mem_each (j:=i) (t:=f.type) (d:=xs[i].1) ?_ ?_ k hk;· rw[m',y',hi];rfl
 · rw[m',a' U];rfl
theorem fD.pure {α:Type} {sz:Nat} {R:aq bc->α->Prop} {q:α->Prop}:∀{l:aq α} {xs:aq bc},fD sz (λcs x=>R cs x/\q x) xs l->fD sz R xs l/\∀x∈l,q x
 |[],xs,h=>⟨h,bh⟩
 | x::l,xs,⟨cs,rest,h1,h2,h3,h4⟩=>by
   obtain⟨h5,h6⟩:=fD.pure h4;refine⟨⟨cs,rest,h1,h2,h3.1,h5⟩,λz U=>?_⟩;rcases g'.1 U with rfl|U;· exact h3.2
   · exact h6 z U
theorem J5 {t:Nat} {R:aq bc->α->Prop} (ht:P.underlying t=some (.slice e))(hC:P.cellsOf e=sz)(hz:0<sz)
  (LZ:∀n cs y,DataW.trod enc P w base spare held n e cs=some y->lz P e y.1->∃a,R cs a) (h:DataW.trod enc P w base spare held fuel t cs=some y) (hw:lz P t y.1):
  ∃v l,cs=[v]/\xr (λk=>k<w.heap.size) w sz R v l/\l.length*P.bytesOf e<=reachBytes:=by
 rcases open_slice ht h with⟨rfl,_⟩|⟨a,len,cap,m,n,D,Pl,rfl,hb,hl,hm,hmm,rfl,hi⟩
 · exact⟨_,[],rfl,xr.nil,bh⟩
 ·subst hC;have hle:len<=m:=by rw[hmm];split<;>omega
  have hD:∀i,i<len->lz P e (D i):=λi cj k hk=>hw k (by
   simp only[DataW.weights,ht,g',f'];exact .inr (.inl (QaD (d:=D i) (F'.2 ⟨i,List.mem_range.2 cj,rfl⟩) hk)))
  have iR:len*P.bytesOf e<=reachBytes:=by
   have:=hw _ (by simp only[DataW.weights,ht];exact e');simp only[R',List.length_range]at this;exact k' (A' _ au) this
  have key:∀k,k<=len->∃xs l,l.length=k/\fD (P.cellsOf e) R xs l/\∀j u,xs[j]? =some u->w.cell? (a.add j)=some u:=by
   intro k;induction k with
   |zero=>intro _;exact⟨[],[],rfl,rfl,bh⟩
   | succ k ih=>
     intro hk;obtain⟨xs,l,wQ,hx,hc⟩:=ih au;obtain⟨wh,h1,U⟩:=hi k au;obtain⟨_,hlen,GV⟩:=World.cells?_some h1;obtain⟨y,hy⟩:=LZ _ _ _ U (hD k au);refine⟨xs++wh,l++[y],by simp[wQ],hx.append (fD.one hy hlen),λj u hj=>?_⟩;have H5:=hx.length;rw[wQ]at H5;by_cases GY:j<xs.length;· rw[s' GY]at hj;exact hc j u hj
     ·rw[q' au]at hj;have h3:=(d'.1 hj).1;have:=GV (j-xs.length) au
      rw[hj,Go.Deep.add_add]at this;rw[<-this];congr 2;omega
  obtain⟨xs,l,wQ,hx,hc⟩:=key len (h! _);refine⟨_,l,rfl,⟨some a,len,cap,xs,rfl,wQ.symm,hl,hm,hx,λh0=>?_⟩,by rw[wQ];exact iR⟩;have h1:0<xs.length:=by rw[hx.length,wQ];exact i! h0 hz
  have U:=hc 0 _ (a' h1);have h3:a.add 0=a:=rfl;rw[h3]at U
  have hsp:a=⟨a.block,a.off,none⟩:=by
   rcases a with⟨b,o,s⟩;cases s with
   |none=>rfl
   | some s=>
     exfalso;simp only[World.cell?]at U;split at U<;>simp at U
  have cj:=World.block_lt_of_cell? w a U;refine⟨a.block,a.off,by rw[<-hsp],cj,λj u hj=>?_⟩;have:=hc j u hj;rw[hsp,z6]at this;exact this
theorem vh {t:Nat} {R:fc α} {q:α->Prop} (ht:P.underlying t=some (.slice e))(hC:P.cellsOf e=sz)(hz:0<sz)
  (U:∀n cs y,DataW.trod enc P w base spare held n e cs=some y->lz P e y.1->∃a,R.p (λk=>k<w.heap.size) w cs a/\q a) {us:aq bc} (h:DataW.trod enc P w base spare held fuel t us=some y) (hw:lz P t y.1):
  ∃(p:bf Addr) (c:Nat) (l:aq α),us=[.slice p l.length c]/\(Fact.sli sz R p c l).p (λk=>k<w.heap.size) w/\l.length*P.bytesOf e<=reachBytes/\∀x∈l,q x:=by
 obtain⟨v,l,e1,hs,iR⟩:=J5 (R:=λcs x=>R.p (λk=>k<w.heap.size) w cs x/\q x) ht hC hz U h hw;subst e1;obtain⟨p,n,c,xs,e2,hn,hc,hm,kY,fl⟩:=hs;subst hn;subst e2;obtain⟨h1,h2⟩:=fD.pure kY;exact⟨p,c,l,rfl,⟨p,l.length,c,xs,rfl,rfl,hc,hm,h1,fl⟩,iR,h2⟩
theorem Qd5 {n b k r m:Nat} (h:n*b<=r)(U:b=k)(hr:r=140737488351232)(hk:0<k)(hm:140737488351232/k=m):n<=m:=by
 subst U;subst hr;subst hm;exact(Nat.le_div_iff_mul_le hk).2 h
theorem BC {U:aq TypeId} {ds:aq (DataW H)} (h:(DataW.weightsEach P U ds).all (·<=reachBytes)=true)(j:Nat) {d:DataW H} (ht:U[j]? =some t)(hd:ds[j]? =some d):lz P t d:=λn hn=>by
 have:=List.all_eq_true.1 h n (DataW.weights_mem_each ht hd n hn);simpa using this
theorem L7 {s:cq} (h:lz P t (.lit (.string s.data.toList):DataW H)):s.size<=reachBytes:=by
 have:=h s.data.toList.length (by simp[DataW.weights]);simpa using this
section
variable {n k:Nat} {u:TypeId} {L:aq bc} {c:bc}
theorem fA {l:aq bc} (h:∃z,DataW.trod enc P w base spare held n u ((L.drop k).take (P.cellsOf u))=some z/\lz P u z.1)(m:Nat)(hm:P.cellsOf u=m)(U:(L.drop k).take m=l):∃z,DataW.trod enc P w base spare held n u l=some z/\lz P u z.1:=by
 subst U;subst hm;exact h
theorem fI {U:IntKind} (hu:P.underlying u=some (.int U))(h:∃z,DataW.trod enc P w base spare held n u ((L.drop k).take (P.cellsOf u))=some z/\lz P u z.1)(hm:P.cellsOf u=1)(hl:(L.drop k).take 1=[c]):∃x,c=.int U x/\ql U x:=by
 obtain⟨z,h1,_⟩:=fA h 1 hm hl;obtain⟨x,e,_,ok⟩:=DataW.trod_int hu h1;exact⟨x,(List.cons.inj e).1,YE ok⟩
theorem fB (hu:P.underlying u=some .bool)(h:∃z,DataW.trod enc P w base spare held n u ((L.drop k).take (P.cellsOf u))=some z/\lz P u z.1)(hm:P.cellsOf u=1)(U:(L.drop k).take 1=[c]):∃x,c=.bool x/\True:=by
 obtain⟨z,h1,_⟩:=fA h 1 hm U;obtain⟨x,e,_⟩:=DataW.trod_bool hu h1;exact⟨x,(List.cons.inj e).1,trivial⟩
theorem fS (hu:P.underlying u=some .string)(h:∃z,DataW.trod enc P w base spare held n u ((L.drop k).take (P.cellsOf u))=some z/\lz P u z.1)(hm:P.cellsOf u=1)(hl:(L.drop k).take 1=[c]):∃x,c=.string x/\x.size<=reachBytes:=by
 obtain⟨z,h1,g1⟩:=fA h 1 hm hl;obtain⟨x,e,U,_⟩:=DataW.trod_string hu h1;subst U;exact⟨x,(List.cons.inj e).1,L7 g1⟩
theorem fL {α:Type} {e sz b m:Nat} {R:fc α} {q:α->Prop} (ht:P.underlying u=some (.slice e))(hC:P.cellsOf e=sz)(hz:0<sz)
  (LZ:∀n cs y,DataW.trod enc P w base spare held n e cs=some y->lz P e y.1->∃a,R.p (λk=>k<w.heap.size) w cs a/\q a) (h:∃z,DataW.trod enc P w base spare held n u ((L.drop k).take (P.cellsOf u))=some z/\lz P u z.1) (hm:P.cellsOf u=1) (hl:(L.drop k).take 1=[c])
  (hb:P.bytesOf e=b) (hk:0<b) (hq:140737488351232/b=m):∃(p:bf Addr) (U:Nat) (l:aq α),c=.slice p l.length U/\(Fact.sli sz R p U l).p (λk=>k<w.heap.size) w/\(l.length<=m/\∀x∈l,q x):=by
 obtain⟨z,h1,g1⟩:=fA h 1 hm hl;obtain⟨p,U,l,e1,f,ok⟩:=vh ht hC hz LZ h1 g1;exact⟨p,U,l,(List.cons.inj e1).1,f,Qd5 ok.1 hb bp hk hq,ok.2⟩
end
end
end
section
open Go Go.RowKit Go.Deep
section
variable {α Λ:Type} (C:α->bf Addr×Nat->aq bc) (kids:α->aq α) (sz:Nat) (one:∀x r,∀u∈C x r,u.oneCell'=true)
def xb:Nat->fc α
 |0=>⟨λ_ _ _ _=>False,λ_ _ h=>h,λh=>h.elim⟩
 |n+1=>DO C (λx r=>[.sli sz (xb n) r.1 r.2 (kids x)]) one
def CC:fc α:=⟨λF w cs x=>∃n,(xb C kids sz one n).p F w cs x,λU ha ⟨n,h⟩=>⟨n,(xb C kids sz one n).good U ha h⟩,λ⟨n,h⟩=>(xb C kids sz one n).one h⟩
end
section
variable {α:Type} {C:α->bf Addr×Nat->aq bc} {kids:α->aq α} {sz:Nat} {one:∀x r,∀u∈C x r,u.oneCell'=true}
theorem qA:∀{n m:Nat} {F:eL} {w:bx} {cs:aq bc} {x:α},n<=m->(xb C kids sz one n).p F w cs x->(xb C kids sz one m).p F w cs x
 |0,_,_,_,_,_,_,h=>h.elim
 |n+1,0,_,_,_,_,hm,_=>au
 | n +1,m+1,F,w,cs,x,hm,⟨r,h1,h2⟩=>⟨r,h1,λφ U=>by
     simp only[g',List.not_mem_nil,or_false]at U;subst U;exact Hs (R:=xb C kids sz one n) (h2 _ (e')) (λcs x hr=>qA au hr)⟩
theorem J9:ra (CC C kids sz one) C (λ_ _=>True) (λx r=>[.sli sz (CC C kids sz one) r.1 r.2 (kids x)]):=λF w cs x ⟨n,h⟩=>by
 cases n with
 |zero=>exact h.elim
 | succ n=>
   obtain⟨r,h1,U⟩:=h;exact⟨r,h1,trivial,jf (Hs (R:=xb C kids sz one n) (U _ (e')) (λcs x hr=>⟨n,hr⟩)) QQ⟩
theorem u9 {F:eL} {w:bx}:∀{l:aq α} {U:aq bc},fD sz ((CC C kids sz one).p F w) U l->∃n,fD sz ((xb C kids sz one n).p F w) U l
 |[],U,h=>⟨0,h⟩
 | x::l,U,⟨cs,rest,e1,e2,⟨n,e3⟩,e4⟩=>by
   obtain⟨m,hm⟩:=u9 e4;exact⟨max n m,cs,rest,e1,e2,qA (Nat.le_max_left _ _) e3,hm.mono λcs x _ hr=>qA (Nat.le_max_right _ _) hr⟩
theorem oJ {F:eL} {w:bx} {x:α} {cs:aq bc} (r:bf Addr×Nat)(th:cs=C x r)(h:∀φ∈([.sli sz (CC C kids sz one) r.1 r.2 (kids x)]:aq Fact),φ.p F w):(CC C kids sz one).p F w cs x:=by
 obtain⟨p,n,c,xs,hv,hn,hc,hm,U,fl⟩:=(h (.sli sz (CC C kids sz one) r.1 r.2 (kids x)) e':xr F w sz ((CC C kids sz one).p F w) (.slice r.1 (kids x).length r.2) (kids x))
 obtain⟨m,U⟩:=u9 U;exact⟨m+1,r,th,jf (⟨p,n,c,xs,hv,hn,hc,hm,U,fl⟩:xr F w sz ((xb C kids sz one m).p F w) (.slice r.1 (kids x).length r.2) (kids x)) QQ⟩
end
section
variable {H:Type} {enc:TypeId×bc->H} {P:da} {w:bx} {base:Nat} {spare:Nat->Bool} {held:Bool} {fuel:Nat} {cs:aq bc} {y:DataW H×aq MemPlace}
theorem Ax {t:TypeId} {fs:Array Field} (ht:P.underlying t=some (.struct fs))(h:DataW.trod enc P w base spare held fuel t cs=some y)(hw:lz P t y.1):
  ∃n,fuel=n+1/\cs.length=P.cellsOf t/\∀(i:Nat) (f:Field),fs[i]? =some f->∃z,DataW.trod enc P w base spare held n f.type ((cs.drop f.offset).take (P.cellsOf f.type))=some z/\lz P f.type z.1:=by
 obtain⟨xs,n,hn,rfl,hl,hlen,hf⟩:=DataW.trod_struct ht h;refine⟨n,hn,hl,λi f hi=>?_⟩;have U:i<xs.length:=by rw[hlen];exact(h'.1 hi).1
 refine⟨xs[i],by have:=hf i f hi;simpa[a' U]using this,λk hk=>hw k ?_⟩;simp only[DataW.weights,ht];refine DataW.weights_mem_each (j:=i) (t:=f.type) (d:=xs[i].1) ?_ ?_ k hk;· rw[m',y',hi];rfl
 · rw[m',a' U];rfl
theorem J4 {α:Type} {t e sz:Nat} {R:aq bc->α->Prop} (ht:P.underlying t=some (.slice e))(hC:P.cellsOf e=sz)(hz:0<sz)
  (LZ:∀n,n<fuel->∀cs y,DataW.trod enc P w base spare held n e cs=some y->lz P e y.1->∃a,R cs a) (h:DataW.trod enc P w base spare held fuel t cs=some y) (hw:lz P t y.1):
  ∃v l,cs=[v]/\xr (λk=>k<w.heap.size) w sz R v l/\l.length*P.bytesOf e<=reachBytes:=by
 rcases DataW.trod_slice ht h with⟨rfl,_⟩|⟨a,len,cap,elems,rest,n,ZO,rfl,rfl,hb,hl,hm,hlen,hi,_,_⟩
 · exact⟨_,[],rfl,xr.nil,bh⟩
 ·subst hC
  have hD:∀d∈elems,lz P e d.1:=λd hd k hk=>hw k (by
   simp only[DataW.weights,ht,g',f'];exact .inr (.inl (QaD (d:=d.1) (F'.2 ⟨d,hd,rfl⟩) hk)))
  have iR:len*P.bytesOf e<=reachBytes:=by
   have:=hw _ (by simp only[DataW.weights,ht];exact e');simp only[R']at this;exact k' (A' _ au) this
  have key:∀k,k<=len->∃xs l,l.length=k/\fD (P.cellsOf e) R xs l/\∀j u,xs[j]? =some u->w.cell? (a.add j)=some u:=by
   intro k;induction k with
   |zero=>intro _;exact⟨[],[],rfl,rfl,bh⟩
   | succ k ih=>
     intro hk;obtain⟨xs,l,wQ,hx,hc⟩:=ih au;have hki:=hi k au;rw[a' (by omega:k<elems.length)]at hki;obtain⟨wh,h1,U⟩:=Option.bind_eq_some_iff.1 hki;obtain⟨_,TK,GV⟩:=World.cells?_some h1;obtain⟨y,hy⟩:=LZ n au _ _ U (hD _ (List.getElem_mem _));refine⟨xs++wh,l++[y],by simp[wQ],hx.append (fD.one hy TK),λj u hj=>?_⟩;have H5:=hx.length;rw[wQ]at H5;by_cases GY:j<xs.length;· rw[s' GY]at hj;exact hc j u hj
     ·rw[q' au]at hj;have h3:=(d'.1 hj).1;have:=GV (j-xs.length) au
      rw[hj,Go.Deep.add_add]at this;rw[<-this];congr 2;omega
  obtain⟨xs,l,wQ,hx,hc⟩:=key len (h! _);refine⟨_,l,rfl,⟨some a,len,cap,xs,rfl,wQ.symm,hl,hm,hx,λh0=>?_⟩,by rw[wQ];exact iR⟩;have h1:0<xs.length:=by rw[hx.length,wQ];exact i! h0 hz
  have U:=hc 0 _ (a' h1);have h3:a.add 0=a:=rfl;rw[h3]at U
  have hsp:a=⟨a.block,a.off,none⟩:=by
   rcases a with⟨b,o,s⟩;cases s with
   |none=>rfl
   | some s=>
     exfalso;simp only[World.cell?]at U;split at U<;>simp at U
  have cj:=World.block_lt_of_cell? w a U;refine⟨a.block,a.off,by rw[<-hsp],cj,λj u hj=>?_⟩;have:=hc j u hj;rw[hsp,z6]at this;exact this
theorem FE {α:Type} {t e sz:Nat} {R:fc α} {q:α->Prop} (ht:P.underlying t=some (.slice e))(hC:P.cellsOf e=sz)(hz:0<sz)
  (U:∀n,n<fuel->∀cs y,DataW.trod enc P w base spare held n e cs=some y->lz P e y.1->∃a,R.p (λk=>k<w.heap.size) w cs a/\q a) {us:aq bc} (h:DataW.trod enc P w base spare held fuel t us=some y) (hw:lz P t y.1):
  ∃(p:bf Addr) (c:Nat) (l:aq α),us=[.slice p l.length c]/\(Fact.sli sz R p c l).p (λk=>k<w.heap.size) w/\l.length*P.bytesOf e<=reachBytes/\∀x∈l,q x:=by
 obtain⟨v,l,e1,hs,iR⟩:=J4 (R:=λcs x=>R.p (λk=>k<w.heap.size) w cs x/\q x) ht hC hz U h hw;subst e1;obtain⟨p,n,c,xs,e2,hn,hc,hm,kY,fl⟩:=hs;subst hn;subst e2;obtain⟨h1,h2⟩:=fD.pure kY;exact⟨p,c,l,rfl,⟨p,l.length,c,xs,rfl,rfl,hc,hm,h1,fl⟩,iR,h2⟩
end
end
section
open Go Go.RowKit
section
variable {P:da} {C:Ctx} {n:FD} {Q:Exit->Act->bx->Prop} {Φ:aq Fact} {H:aq Fact} {S S':aq (Nat×bc)} {ops:Array Oper} {rest:aq Oper} {o:Oper} {d:Nat}
theorem yN {α:Type} {t e sz c h m:Nat} {x y y2:bw} {R:fc α} {p:bf Addr} {l:aq α} {z z2:Int} (k:Nat)(hg:QM ops S o=some true)(hd:o.dst=some d)(hn:c! d n=true)(hS:fk d S=S')(ho:o.op=.slice t x none (some y) (some y2))
  (hx:dy S x=some (.slice p l.length c)) (hk:Φ[k]? =some (.sli sz R p c l)) (hy:dy S y=some (.int .i64 z)) (hz:z=(h:Int)) (hy2:dy S y2=some (.int .i64 z2)) (Ml:z2=(m:Int)) (ht:gG P t=some e) (hs:QV P e=some sz) (hh:h<=m) (hm:m<=l.length)
  (next:∀p',WL P C n Q (.sli sz R p' m (l.take h)::Φ) H ((d,.slice p' (l.take h).length m)::S') ops rest):WL P C n Q Φ H S ops (o::rest):=by
 subst hz;subst Ml;refine xl hg hd hn hS λa w hf hw=>?_
 obtain⟨F,N,hi⟩:=hw;have h1:=hi.facts _ (gv hk);have LV:=Ah h1;have e1:(l.take h).length=h:=by simp only[List.length_take];omega
 have key:∀U:eL,(Fact.sli sz R p c l).p U w->(Fact.sli sz R (if m=0 then p else p.map (·.add (0*sz))) m (l.take h)).p U w:=λU WK=>by
  have h3:=tu (i:=0) (h:=h) (p':=if m=0 then p else p.map (·.add (0*sz))) WK (Q' _) (k' hh hm) (λcj b o e=>by subst e;exact zr au);simp only[List.drop_zero,d!]at h3;obtain⟨p1,n1,c1,xs,e2,h4,h5,h6,h7,h8⟩:=h3;cases e2;exact⟨_,_,_,xs,rfl,h4,au,au,h7,h8⟩
 refine⟨.slice (if m=0 then p else p.map (·.add (0*sz))) (l.take h).length m,w,?_,_,H,Ql.fact (φ:=.sli sz R (if m=0 then p else p.map (·.add (0*sz))) m (l.take h)) ⟨F,N,hi⟩ (λU WK=>key U (WK _ (gv hk))),next _⟩;rw[e1];simp[execOp,ho,hf.eval hx,hf.eval hy,hf.eval hy2,Instr.sliceAt,Instr.slice,run_underlying (r5 ht),Instr.sliceBounds,Instr.sliceBound,asIntOf,hh,k' hm LV.1,w7 hs]
end
end
section
open Go.RowKit
abbrev MK (k z:Int):Int:=IntKind.wrap .i64 ((IntKind.wrap .i64 (1000003*(IntKind.wrap .i64 (k+7))))+z)
abbrev WI (x:Int):Prop:=-9223372036854775808<=x/\x<=9223372036854775807
abbrev WN (x:Nat):Prop:=x<=9223372036854775807
structure Q9 where
 name:ByteArray
 fields:Int
def QcU (x:Q9)(_:Unit):aq bc:=[.string x.name,.int .i64 x.fields]
def qZ (_:Q9)(_:Unit):aq Fact:=[]
def Qc:fc Q9:=DO QcU qZ (by intro x r u hu;simp[QcU]at hu;rcases hu with rfl|rfl<;>rfl)
theorem Z0:ra Qc QcU (λ_ _=>True) qZ:=HV
def Δ (x:V)(_:Unit):aq bc:=[.int .u8 x.k,.int .i64 x.n,.string x.s]
def F_V (_:V)(_:Unit):aq Fact:=[]
def dz:fc V:=DO Δ F_V (by intro x r u hu;simp[Δ]at hu;rcases hu with rfl|rfl|rfl<;>rfl)
theorem Ke:ra dz Δ (λ_ _=>True) F_V:=HV
def kU (x:Qg)(r:bf Addr×Nat):aq bc:=[.int .i64 x.id,.int .i64 x.ty,.slice r.1 x.args.length r.2]
def Gd (x:Qg)(r:bf Addr×Nat):aq Fact:=[.sli 3 dz r.1 r.2 x.args]
def QH:fc Qg:=DO kU Gd (by intro x r u hu;simp[kU]at hu;rcases hu with rfl|rfl|rfl<;>rfl)
theorem Kd:ra QH kU (λ_ _=>True) Gd:=HV
def E3 (x:Bool)(_:Unit):aq bc:=[.bool x]
def K9 (_:Bool)(_:Unit):aq Fact:=[]
def Qx:fc Bool:=DO E3 K9 (by intro x r u hu;simp[E3]at hu;subst hu;rfl)
theorem Oe:ra Qx E3 (λ_ _=>True) K9:=HV
structure Q3 where
 kind:Int
 value:V
 var:Int
 op:Int
 kids:List Q3
structure Qq where
 kind:Int
 type:Int
 args:List fK
 test:Q3
def E2 (x:fK)(_:Unit):aq bc:=[.int .u8 x.k,.int .i64 x.var,.int .u8 x.v.k,.int .i64 x.v.n,.string x.v.s]
def K8 (_:fK)(_:Unit):aq Fact:=[]
def iA:fc fK:=DO E2 K8 (by intro x r u hu;simp[E2]at hu;rcases hu with rfl|rfl|rfl|rfl|rfl<;>rfl)
theorem Q8v:ra iA E2 (λ_ _=>True) K8:=HV
def Qb2 (x:Q3)(r:bf Addr×Nat):aq bc:=[.int .u8 x.kind,.int .u8 x.value.k,.int .i64 x.value.n,.string x.value.s,.int .i64 x.var,.int .u8 x.op,.slice r.1 x.kids.length r.2]
def Qi:fc Q3:=CC Qb2 (λx=>x.kids) 7 (by intro x r u hu;simp[Qb2]at hu;rcases hu with rfl|rfl|rfl|rfl|rfl|rfl|rfl<;>rfl)
def B2 (x:Q3)(r:bf Addr×Nat):aq Fact:=[.sli 7 Qi r.1 r.2 x.kids]
theorem SH:ra Qi Qb2 (λ_ _=>True) B2:=J9
def QcS (x:Qq)(r:(bf Addr×Nat)×(bf Addr×Nat)):aq bc:=[.int .u8 x.kind,.int .i64 x.type,.slice r.1.1 x.args.length r.1.2,.int .u8 x.test.kind,.int .u8 x.test.value.k,.int .i64 x.test.value.n,.string x.test.value.s,.int .i64 x.test.var,.int .u8 x.test.op,.slice r.2.1 x.test.kids.length r.2.2]
def qX (x:Qq)(r:(bf Addr×Nat)×(bf Addr×Nat)):aq Fact:=[.sli 5 iA r.1.1 r.1.2 x.args,.sli 7 Qi r.2.1 r.2.2 x.test.kids]
def pL:fc Qq:=DO QcS qX (by intro x r u hu;simp[QcS]at hu;rcases hu with rfl|rfl|rfl|rfl|rfl|rfl|rfl|rfl|rfl|rfl<;>rfl)
theorem Q5m:ra pL QcS (λ_ _=>True) qX:=HV
structure kW where
 kind:Int
 type:Int
 which:Int
 exprs:List Q3
structure Q8 where
 name:ByteArray
 salience:Int
 vars:Int
 conds:List Qq
 acts:List kW
def mo (x:kW)(r:bf Addr×Nat):aq bc:=[.int .u8 x.kind,.int .i64 x.type,.int .i64 x.which,.slice r.1 x.exprs.length r.2]
def tI (x:kW)(r:bf Addr×Nat):aq Fact:=[.sli 7 Qi r.1 r.2 x.exprs]
def mr:fc kW:=DO mo tI (by intro x r u hu;simp[mo]at hu;rcases hu with rfl|rfl|rfl|rfl<;>rfl)
theorem QbD:ra mr mo (λ_ _=>True) tI:=HV
def QcT (x:Q8)(r:(bf Addr×Nat)×(bf Addr×Nat)):aq bc:=[.string x.name,.int .i64 x.salience,.int .i64 x.vars,.slice r.1.1 x.conds.length r.1.2,.slice r.2.1 x.acts.length r.2.2]
def qY (x:Q8)(r:(bf Addr×Nat)×(bf Addr×Nat)):aq Fact:=[.sli 10 pL r.1.1 r.1.2 x.conds,.sli 4 mr r.2.1 r.2.2 x.acts]
def Qd:fc Q8:=DO QcT qY (by intro x r u hu;simp[QcT]at hu;rcases hu with rfl|rfl|rfl|rfl|rfl<;>rfl)
theorem YZ:ra Qd QcT (λ_ _=>True) qY:=HV
structure Qb where
 rule:Int
 ids:List Int
def K7 (x:Int)(_:Unit):aq bc:=[.int .i64 x]
def SA (_:Int)(_:Unit):aq Fact:=[]
def iC:fc Int:=DO K7 SA (by intro x r u hu;simp[K7]at hu;subst hu;rfl)
theorem Zf:ra iC K7 (λ_ _=>True) SA:=HV
def Q8r (x:Qb)(r:bf Addr×Nat):aq bc:=[.int .i64 x.rule,.slice r.1 x.ids.length r.2]
def nJ (x:Qb)(r:bf Addr×Nat):aq Fact:=[.sli 1 iC r.1 r.2 x.ids]
def wm:fc Qb:=DO Q8r nJ (by intro x r u hu;simp[Q8r]at hu;rcases hu with rfl|rfl<;>rfl)
theorem L':ra wm Q8r (λ_ _=>True) nJ:=HV
def yW (x:Qb)(r:bf Addr×Nat):aq Fact:=[.own 3 1 iC (.slice r.1 x.ids.length r.2) x.ids]
def QD:Er Qb (bf Addr×Nat):=⟨Q8r,yW,by intro x r u hu;simp[Q8r]at hu;rcases hu with rfl|rfl<;>rfl⟩
theorem Qb3:∀x r N F w,jB (QD.G x r) N F w->wm.p (λq=>N q\/F q) w (QD.C x r) x:=by
 rintro x r N F w ⟨A0,B0,a0,b0,h0,_⟩;exact⟨r,rfl,jf (ML h0 (λq U=>.inl (a0 q U)) (λ_ U=>.inr U)) (QQ)⟩
structure QU where
 drop:Bool
 fact:Qg
def Q6D (x:QU)(r:bf Addr×Nat):aq bc:=[.bool x.drop,.int .i64 x.fact.id,.int .i64 x.fact.ty,.slice r.1 x.fact.args.length r.2]
def Q94 (x:QU)(r:bf Addr×Nat):aq Fact:=[.sli 3 dz r.1 r.2 x.fact.args]
def QO:fc QU:=DO Q6D Q94 (by intro x r u hu;simp[Q6D]at hu;rcases hu with rfl|rfl|rfl|rfl<;>rfl)
theorem Μ:ra QO Q6D (λ_ _=>True) Q94:=HV
def OT (x:Qg)(r:bf Addr×Nat):aq Fact:=[.own 63 3 dz (.slice r.1 x.args.length r.2) x.args]
def gO:Er Qg (bf Addr×Nat):=⟨kU,OT,by intro x r u hu;simp[kU]at hu;rcases hu with rfl|rfl|rfl<;>rfl⟩
theorem Gg:∀x r N F w,jB (gO.G x r) N F w->QH.p (λq=>N q\/F q) w (gO.C x r) x:=by
 rintro x r N F w ⟨A0,B0,a0,b0,h0,_⟩;exact⟨r,rfl,jf (ML h0 (λq U=>.inl (a0 q U)) (λ_ U=>.inr U)) (QQ)⟩
structure P9 where
 types:List Q9
 rules:List Q8
def Qc4 (x:P9)(r:(bf Addr×Nat)×(bf Addr×Nat)):aq bc:=[.slice r.1.1 x.types.length r.1.2,.slice r.2.1 x.rules.length r.2.2]
def yS (x:P9)(r:(bf Addr×Nat)×(bf Addr×Nat)):aq Fact:=[.sli 2 Qc r.1.1 r.1.2 x.types,.sli 5 Qd r.2.1 r.2.2 x.rules]
def zh:fc P9:=DO Qc4 yS (by intro x r u hu;simp[Qc4]at hu;rcases hu with rfl|rfl<;>rfl)
def Qcb (x:Q9):Prop:=x.name.size<=140737488351232/\ql .i64 x.fields
def wZ (x:V):Prop:=ql .u8 x.k/\ql .i64 x.n/\x.s.size<=140737488351232
def zU (x:fK):Prop:=ql .u8 x.k/\ql .i64 x.var/\wZ x.v
inductive db:Q3->Prop
 |mk (x:Q3) (h0:ql .u8 x.kind) (h1:wZ x.value) (h2:ql .i64 x.var) (h3:ql .u8 x.op) (h4:x.kids.length<=1759218604390) (g4:∀y∈x.kids,db y):db x
def Qa9 (x:Qq):Prop:=ql .u8 x.kind/\ql .i64 x.type/\(x.args.length<=2932031007317/\∀y∈x.args,zU y)/\db x.test
def Qd7 (x:kW):Prop:=ql .u8 x.kind/\ql .i64 x.type/\ql .i64 x.which/\(x.exprs.length<=1759218604390/\∀y∈x.exprs,db y)
def SQ (x:Q8):Prop:=x.name.size<=140737488351232/\ql .i64 x.salience/\ql .i64 x.vars/\(x.conds.length<=1172812402926/\∀y∈x.conds,Qa9 y)/\(x.acts.length<=2932031007317/\∀y∈x.acts,Qd7 y)
def Q7V (x:P9):Prop:=(x.types.length<=5864062014634/\∀y∈x.types,Qcb y)/\(x.rules.length<=1759218604390/\∀y∈x.rules,SQ y)
def oy (x:Qg):Prop:=ql .i64 x.id/\ql .i64 x.ty/\(x.args.length<=4398046510976/\∀y∈x.args,wZ y)
def Q4R (x:QU):Prop:=True/\oy x.fact
end
section
open Go.RowKit
def Q9c (_:Nat)(s:cq):bf (Bool):=if(!(s.toList==(⟨#[]⟩:cq).toList))=true then(if(decide (s.size<=24))=true then(Qf (s[0]?) λz=>if(decide ((Lib.indexByte (⟨#[97,98,99,100,101,102,103,104,105,106,107,108,109,110,111,112,113,114,115,116,117,118,119,120,121,122]⟩:cq).data.toList ((z.toNat:Int)).toNat.toUInt8)>=0))=true then(gd (WN s.size)<|some ((⟨(Lib.trimS s.data.toList (⟨#[97,98,99,100,101,102,103,104,105,106,107,108,109,110,111,112,113,114,115,116,117,118,119,120,121,122,48,49,50,51,52,53,54,55,56,57,95]⟩:cq).data.toList).toArray⟩:cq).toList==(⟨#[]⟩:cq).toList))else(some false))else(some false))else(some false)
def Q9s (N:Nat)(z:cq):bf (Bool):=Qf (Q9c N z) λs=>some s
def yZ (N:Nat)(z:Int)(U:Int)(a2:cq):bf (Bool):=if(z==1)=true then(some (a2.toList==(⟨#[]⟩:cq).toList))else(if(z==2)=true then(if(U==0)=true then(Qf (Q9s N a2) λs=>some s)else(some false))else(some false))
def Za (N:Nat)(s:cq):bf (Bool):=Qf (yZ N 2 0 s) λz=>some z
def Q5o (_:Nat)(_:cq)(_:Int)(_:cq):bf (Unit):=some ()
def Υ (N:Nat)(l0:aq Q9)(U:cq):Nat->bf (Nat⊕(Unit⊕Int)):=λs=>if(decide (s<l0.length))=true then(Qf (l0[s]?) λz=>Qf (Q5o N z.name z.fields U) λ_=>if(z.name.toList==U.toList)=true then(some (.inr (.inr (s:Int))))else(gd (WN (s+1))<|some (.inl (s+1))))else(some (.inr (.inl ())))
def Q4G (N:Nat)(s:aq Q9)(z:cq):bf (Int):=iT (fp (Υ N s z) N 0) λ_=>some (-1)
def O' (N:Nat)(z:aq Q9)(_:aq Q8)(_:Int)(_:Int)(a4:cq):bf (Int):=Qf (Q4G N z a4) λs=>some s
def Q5p (_:Nat)(_:cq)(_:Int)(_:Int)(_:aq Qq)(_:aq kW)(_:cq):bf (Unit):=some ()
def Τ (N:Nat)(l0:aq Q8)(U:cq):Nat->bf (Nat⊕(Unit⊕Int)):=λs=>if(decide (s<l0.length))=true then(Qf (l0[s]?) λz=>Qf (Q5p N z.name z.salience z.vars z.conds z.acts U) λ_=>if(z.name.toList==U.toList)=true then(some (.inr (.inr (s:Int))))else(gd (WN (s+1))<|some (.inl (s+1))))else(some (.inr (.inl ())))
def Q4F (N:Nat)(s:aq Q8)(z:cq):bf (Int):=iT (fp (Τ N s z) N 0) λ_=>some (-1)
def P' (N:Nat)(_:aq Q9)(z:aq Q8)(_:Int)(_:Int)(a4:cq):bf (Int):=Qf (Q4F N z a4) λs=>some s
def YV (_:Nat)(z:aq Q9)(_:aq Q8)(_:Int)(_:Int)(a4:Int)(a5:Int):bf (Bool):=if(decide (a4>=0))=true then(if(decide (a4<(z.length:Int)))=true then(gd (0<=a4)<|Qf (z[a4.toNat]?) λs=>some (s.fields==a5))else(some false))else(some false)
def Q9a (_:Nat)(a7:Bool)(a8:Bool)(s:Bool)(z:Int)(U:aq Q3)(a4:Int)(a1:Int)(a2:Int)(a3:cq):bf (Bool):=if a7=true then(if a8=true then(if s=true then(some true)else(if(z==0)=true then(some (U.length==0))else(some false)))else(if(a4==0)=true then(if s=true then(some true)else(if(z==0)=true then(some (U.length==0))else(some false)))else(some false)))else(if(decide ((⟨a1,a2,a3⟩:V)=(⟨0,0,(⟨#[]⟩:cq)⟩:V)))=true then(if a8=true then(if s=true then(some true)else(if(z==0)=true then(some (U.length==0))else(some false)))else(if(a4==0)=true then(if s=true then(some true)else(if(z==0)=true then(some (U.length==0))else(some false)))else(some false)))else(some false))
def SM (N:Nat)(_:Int)(z:Int)(a2:Int)(a3:cq)(a4:Int)(a5:Int)(l6:aq Q3)(U:Bool)(a8:Bool)(a9:Bool):bf (Bool):=Qf (Q9a N U a8 a9 a5 l6 a4 z a2 a3) λs=>some s
def Y' (N:Nat)(_:aq Q9)(_:aq Q8)(a2:Int)(_:Int)(a4:Int)(s:Int)(z:Int)(U:Int)(a8:cq)(a9:Bool):bf (Bool×Int):=if(a4==1)=true then(if(s==0)=true then(some ((decide ((⟨z,U,a8⟩:V)=(⟨0,0,(⟨#[]⟩:cq)⟩:V))),a2))else(some (false,a2)))else(if(a4==2)=true then(gd (WI (a2+1))<|if a9=true then(gd (WI ((a2+1)-1))<|if(s==((a2+1)-1))=true then(some ((decide ((⟨z,U,a8⟩:V)=(⟨0,0,(⟨#[]⟩:cq)⟩:V))),a2+1))else(some (false,a2+1)))else(some (false,a2+1)))else(if(a4==3)=true then(if(decide (s>=0))=true then(if(decide (s<a2))=true then(some ((decide ((⟨z,U,a8⟩:V)=(⟨0,0,(⟨#[]⟩:cq)⟩:V))),a2))else(some (false,a2)))else(some (false,a2)))else(if(a4==4)=true then(if(s==0)=true then(Qf (yZ N z U a8) λaA=>some (aA,a2))else(some (false,a2)))else(some (false,a2)))))
def Q4w (_:Nat)(rc:(aq Q9)->(aq Q8)->Int->Int->Int->Int->Int->cq->Int->Int->(aq Q3)->bf (Bool))(z:Int)(U:Int)(a2:Int)(a3:cq)(a4:Int)(a5:Int)(l6:aq Q3)(l7:aq Q9)(l8:aq Q8)(a9:Int)(s:Int):bf (Bool):=Qf (rc l7 l8 a9 s z U a2 a3 a4 a5 l6) λv6=>some (!v6)
def δ (N:Nat)(U:aq Q3)(rc:(aq Q9)->(aq Q8)->Int->Int->Int->Int->Int->cq->Int->Int->(aq Q3)->bf (Bool))(l1:aq Q9)(l2:aq Q8)(a3:Int)(a4:Int):Nat->bf (Nat⊕(Unit⊕Int)):=λz=>if(decide (z<U.length))=true then(Qf (U[z]?) λa0=>Qf (Q4w N rc a0.kind a0.value.k a0.value.n a0.value.s a0.var a0.op a0.kids l1 l2 a3 a4) λa1=>if a1=true then(some (.inr (.inr (z:Int))))else(gd (WN (z+1))<|some (.inl (z+1))))else(some (.inr (.inl ())))
def Q3G (N:Nat)(rc:(aq Q9)->(aq Q8)->Int->Int->Int->Int->Int->cq->Int->Int->(aq Q3)->bf (Bool))(s:aq Q3)(z:aq Q9)(l2:aq Q8)(a3:Int)(a4:Int):bf (Int):=iT (fp (δ N s rc z l2 a3 a4) N 0) λ_=>some (-1)
def Q36 (N:Nat)(rc:(aq Q9)->(aq Q8)->Int->Int->Int->Int->Int->cq->Int->Int->(aq Q3)->bf (Bool))(s:aq Q3)(z:aq Q9)(l2:aq Q8)(a3:Int)(a4:Int):bf (Bool):=Qf (Q3G N rc s z l2 a3 a4) λU=>some (decide (U>=0))
def ι (N:Nat)(rc:(aq Q9)->(aq Q8)->Int->Int->Int->Int->Int->cq->Int->Int->(aq Q3)->bf (Bool))(s:aq Q9)(z:aq Q8)(a2:Int)(a3:Int)(U:aq Q3):bf (Bool):=Qf (Q36 N rc U s z a2 a3) λv7=>some (!v7)
def Q5s (_:Nat)(z:Int):bf (Nat):=Qf (if(z==4)=true then(some true)else(some (z==11))) λs=>if s=true then(some 1)else(some 2)
def Q6V (N:Nat)(a4:Int)(a5:Int)(a6:Int)(a7:cq)(a8:Int)(a9:Int)(s:aq Q3)(z:Nat)(rc:(aq Q9)->(aq Q8)->Int->Int->Int->Int->Int->cq->Int->Int->(aq Q3)->bf (Bool))(l0:aq Q9)(l1:aq Q8)(a2:Int)(a3:Int):bf (Bool):=Qf (SM N a4 a5 a6 a7 a8 a9 s false false true) λU=>if U=true then(if(decide (a9>=1))=true then(if(decide (a9<=11))=true then(if(s.length==z)=true then(Qf (ι N rc l0 l1 a2 a3 s) λaA=>some aA)else(some false))else(some false))else(some false))else(some false)
def C' (N:Nat)(rc:(aq Q9)->(aq Q8)->Int->Int->Int->Int->Int->cq->Int->Int->(aq Q3)->bf (Bool))(l0:aq Q9)(l1:aq Q8)(a2:Int)(a3:Int)(a4:Int)(a5:Int)(a6:Int)(a7:cq)(U:Int)(a9:Int)(s:aq Q3):bf (Bool):=if(a4==1)=true then(Qf (SM N a4 a5 a6 a7 U a9 s true false false) λaE=>if aE=true then(Qf (yZ N a5 a6 a7) λaF=>some aF)else(some false))else(if(a4==2)=true then(Qf (SM N a4 a5 a6 a7 U a9 s false true false) λaG=>if aG=true then(if(decide (U>=0))=true then(some (decide (U<a2)))else(some false))else(some false))else(if(a4==3)=true then(Qf (Q5s N a9) λz=>Qf (Q6V N a4 a5 a6 a7 U a9 s z rc l0 l1 a2 a3) λa0=>some a0)else(some false)))
def SI:Nat->(aq Q9)->(aq Q8)->Int->Int->Int->Int->Int->cq->Int->Int->(aq Q3)->bf (Bool)
 |0=>λ_=>λ_=>λ_=>λ_=>λ_=>λ_=>λ_=>λ_=>λ_=>λ_=>λ_=>none
 |N+1=>C' N (SI N)
def Q5r (N:Nat)(l0:aq Q9)(l1:aq Q8)(a2:Int)(a3:Int)(a5:Int)(l6:aq fK)(U:Int)(a8:Int)(a9:Int)(s:cq)(z:Int)(a0:Int)(a1:aq Q3):bf (Bool):=Qf (YV N l0 l1 a2 a3 a5 (l6.length:Int)) λa6=>if(!a6)=true then(some true)else(if(U !=0)=true then(some true)else(Qf (SM N U a8 a9 s z a0 a1 false false false) λaA=>some (!aA)))
def Us (N:Nat)(l6:aq fK)(l0:aq Q9)(l1:aq Q8)(a3:Int)(a4:Int):(Nat×Int)->bf ((Nat×Int)⊕(Int⊕(Bool×Int×Int))):=λ(z,a0)=>if(decide (z<l6.length))=true then(Qf (l6[z]?) λU=>Qf (Y' N l0 l1 a0 a3 U.k U.var U.v.k U.v.n U.v.s (a4==1)) λ(a6,a5)=>if(!a6)=true then(some (.inr (.inr (false,a5,a3))))else(gd (WN (z+1))<|some (.inl (z+1,a5))))else(some (.inr (.inl a0)))
def Q5q (N:Nat)(U:aq Q9)(l1:aq Q8)(a2:Int)(a3:Int)(a4:Int)(a5:Int)(l6:aq fK)(a7:Int)(a8:Int)(a9:Int)(a6:cq)(aA:Int)(aB:Int)(aC:aq Q3):bf (Bool×Int×Int):=Qf (if(a4==1)=true then(some (a4==1))else(some (a4==2))) λa1=>if a1=true then(Qf (Q5r N U l1 a2 a3 a5 l6 a7 a8 a9 a6 aA aB aC) λa0=>if a0=true then(some (false,a2,a3))else(iT (fp (Us N l6 U l1 a3 a4) N (0,a2)) λz=>Qf (if(a4==1)=true then(gd (WI (a3+1))<|some (a3+1))else(some a3)) λs=>some (true,z,s)))else(if(a4==3)=true then(if(a5==0)=true then(if(l6.length==0)=true then(Qf (SI N U l1 a2 a3 a7 a8 a9 a6 aA aB aC) λaG=>some (aG,a2,a3))else(some (false,a2,a3)))else(some (false,a2,a3)))else(some (false,a2,a3)))
def Q5t (N:Nat)(z:Int)(U:Int)(a2:Int)(a3:cq)(a4:Int)(a5:Int)(l6:aq Q3)(l7:aq Q9)(l8:aq Q8)(a9:Int)(s:Int):bf (Bool):=Qf (SI N l7 l8 a9 s z U a2 a3 a4 a5 l6) λv6=>some (!v6)
def Ο (N:Nat)(U:aq Q3)(l1:aq Q9)(l2:aq Q8)(a3:Int)(a4:Int):Nat->bf (Nat⊕(Unit⊕Int)):=λz=>if(decide (z<U.length))=true then(Qf (U[z]?) λa0=>Qf (Q5t N a0.kind a0.value.k a0.value.n a0.value.s a0.var a0.op a0.kids l1 l2 a3 a4) λa1=>if a1=true then(some (.inr (.inr (z:Int))))else(gd (WN (z+1))<|some (.inl (z+1))))else(some (.inr (.inl ())))
def Q4D (N:Nat)(s:aq Q3)(z:aq Q9)(l2:aq Q8)(a3:Int)(a4:Int):bf (Int):=iT (fp (Ο N s z l2 a3 a4) N 0) λ_=>some (-1)
def Q3E (N:Nat)(s:aq Q3)(z:aq Q9)(l2:aq Q8)(a3:Int)(a4:Int):bf (Bool):=Qf (Q4D N s z l2 a3 a4) λU=>some (decide (U>=0))
def YU (N:Nat)(s:aq Q9)(z:aq Q8)(a2:Int)(a3:Int)(U:aq Q3):bf (Bool):=Qf (Q3E N U s z a2 a3) λv7=>some (!v7)
def Q7F (_:Nat)(z:Int)(U:aq Q3)(s:Int)(a3:Int):bf (Bool):=if(z==0)=true then(if(U.length==0)=true then(if(decide (s>=0))=true then(some (decide (s<a3)))else(some false))else(some false))else(some false)
def Q7G (N:Nat)(a5:Int)(U:Int)(z:aq Q3)(l0:aq Q9)(l1:aq Q8)(a2:Int)(a3:Int):bf (Bool):=if(a5==0)=true then(if(U==0)=true then(if(decide (0<z.length))=true then(Qf (YU N l0 l1 a2 a3 z) λs=>some s)else(some false))else(some false))else(some false)
def Q7H (_:Nat)(a4:Int)(s:Int)(z:Int)(U:aq Q3):bf (Bool):=if(a4==4)=true then(if(s==0)=true then(if(z==0)=true then(some (U.length==0))else(some false))else(some false))else(some false)
def X' (N:Nat)(l0:aq Q9)(l1:aq Q8)(a2:Int)(a3:Int)(a4:Int)(a5:Int)(a6:Int)(U:aq Q3):bf (Bool):=if(a4==1)=true then(if(a6==0)=true then(Qf (YV N l0 l1 a2 a3 a5 (U.length:Int)) λaB=>if aB=true then(Qf (YU N l0 l1 a2 a3 U) λaC=>some aC)else(some false))else(some false))else(if(a4==2)=true then(Qf (Q7F N a5 U a6 a3) λs=>some s)else(if(a4==3)=true then(Qf (Q7G N a5 a6 U l0 l1 a2 a3) λz=>some z)else(Qf (Q7H N a4 a5 a6 U) λa0=>some a0)))
def Q5u (N:Nat)(s:Int)(z:Int)(a2:Int)(l3:aq Q3)(l4:aq Q9)(l5:aq Q8)(U:Int)(a7:Int):bf (Bool):=Qf (X' N l4 l5 U a7 s z a2 l3) λv6=>some (!v6)
def Ψ (N:Nat)(U:aq kW)(l1:aq Q9)(l2:aq Q8)(a3:Int)(a4:Int):Nat->bf (Nat⊕(Unit⊕Int)):=λs=>if(decide (s<U.length))=true then(Qf (U[s]?) λz=>Qf (Q5u N z.kind z.type z.which z.exprs l1 l2 a3 a4) λa0=>if a0=true then(some (.inr (.inr (s:Int))))else(gd (WN (s+1))<|some (.inl (s+1))))else(some (.inr (.inl ())))
def Q4Q (N:Nat)(s:aq kW)(z:aq Q9)(l2:aq Q8)(a3:Int)(a4:Int):bf (Int):=iT (fp (Ψ N s z l2 a3 a4) N 0) λ_=>some (-1)
def Q3U (N:Nat)(s:aq kW)(z:aq Q9)(l2:aq Q8)(a3:Int)(a4:Int):bf (Bool):=Qf (Q4Q N s z l2 a3 a4) λU=>some (decide (U>=0))
def Q5a (N:Nat)(a4:cq)(z:Int)(U:aq Qq)(l8:aq kW):bf (Bool):=Qf (Za N a4) λs=>if(!s)=true then(some true)else(if(decide (z< -1000))=true then(some true)else(if(decide (z>1000))=true then(some true)else(if(decide (8<U.length))=true then(some true)else(some (decide (8<l8.length))))))
def Uu (N:Nat)(l7:aq Qq)(l0:aq Q9)(l1:aq Q8):(Nat×Int×Int)->bf ((Nat×Int×Int)⊕((Int×Int)⊕(Bool×Int×Int))):=λ(a5,z,a0)=>if(decide (a5<l7.length))=true then(Qf (l7[a5]?) λU=>Qf (Q5q N l0 l1 z a0 U.kind U.type U.args U.test.kind U.test.value.k U.test.value.n U.test.value.s U.test.var U.test.op U.test.kids) λ(a8,a6,a7)=>if(!a8)=true then(some (.inr (.inr (false,a6,a7))))else(gd (WN (a5+1))<|some (.inl (a5+1,a6,a7))))else(some (.inr (.inl (z,a0))))
def U' (N:Nat)(U:aq Q9)(l1:aq Q8)(_:Int)(_:Int)(a4:cq)(a5:Int)(a6:Int)(l7:aq Qq)(l8:aq kW):bf (Bool×Int×Int):=Qf (Q5a N a4 a5 l7 l8) λa0=>if a0=true then(some (false,0,0))else(iT (fp (Uu N l7 U l1) N (0,0,0)) λ(s,z)=>if(a6==s)=true then(if(decide (s<=16))=true then(Qf (Q3U N l8 U l1 s z) λa1=>some (!a1,s,z))else(some (false,s,z)))else(some (false,s,z)))
def Q7h (N:Nat)(s:Q9)(l0:aq Q9)(l1:aq Q8)(z:Nat):bf (Bool):=Qf (Za N s.name) λa0=>if(!a0)=true then(some true)else(if(decide (s.fields<0))=true then(some true)else(if(decide (s.fields>6))=true then(some true)else(Qf (O' N l0 l1 0 0 s.name) λU=>some (U !=(z:Int)))))
def YY (N:Nat)(U:aq Q9)(l1:aq Q8):Nat->bf (Nat⊕(Unit⊕Bool)):=λs=>if(decide (s<U.length))=true then(Qf (U[s]?) λa1=>Qf (Q7h N a1 U l1 s) λz=>if z=true then(some (.inr (.inr false)))else(gd (WN (s+1))<|some (.inl (s+1))))else(some (.inr (.inl ())))
def Z4 (N:Nat)(l1:aq Q8)(l0:aq Q9):(Nat×Int×Int)->bf ((Nat×Int×Int)⊕(Unit⊕Bool)):=λ(s,z,a0)=>if(decide (s<l1.length))=true then(Qf (l1[s]?) λU=>Qf (Qf (P' N l0 l1 z a0 U.name) λaC=>if(aC !=(s:Int))=true then(some (z,a0,true))else(Qf (U' N l0 l1 z a0 U.name U.salience U.vars U.conds U.acts) λ(a8,a9,aA)=>some (a9,aA,!a8))) λ(a5,a6,a7)=>if a7=true then(some (.inr (.inr false)))else(gd (WN (s+1))<|some (.inl (s+1,a5,a6))))else(some (.inr (.inl ())))
def P5 (N:Nat)(z:aq Q9)(U:aq Q8):bf (Bool):=Qf (if(decide (32<z.length))=true then(some true)else(some (decide (64<U.length)))) λs=>if s=true then(some false)else(iT (fp (YY N z U) N 0) λ_=>iT (fp (Z4 N U z) N (0,0,0)) λ_=>some true)
def Q83 (N:Nat)(s:Int)(z:Int)(a2:cq):bf (Bool):=Qf (yZ N s z a2) λv4=>some (!v4)
def Ξ (N:Nat)(U:aq V):Nat->bf (Nat⊕(Unit⊕Int)):=λz=>if(decide (z<U.length))=true then(Qf (U[z]?) λa0=>Qf (Q83 N a0.k a0.n a0.s) λa1=>if a1=true then(some (.inr (.inr (z:Int))))else(gd (WN (z+1))<|some (.inl (z+1))))else(some (.inr (.inl ())))
def Q4l (N:Nat)(s:aq V):bf (Int):=iT (fp (Ξ N s) N 0) λ_=>some (-1)
def Q3r (N:Nat)(s:aq V):bf (Bool):=Qf (Q4l N s) λz=>some (decide (z>=0))
def Q7j (N:Nat)(s:Qg)(z:Int)(U:aq Q9):bf (Bool):=if(decide (s.id<=z))=true then(some true)else(if(decide (s.id>1099511627776))=true then(some true)else(if(decide (s.ty<0))=true then(some true)else(if(decide (s.ty>=(U.length:Int)))=true then(some true)else(gd (0<=s.ty)<|Qf (U[s.ty.toNat]?) λa0=>if((s.args.length:Int) !=a0.fields)=true then(some true)else(Qf (Q3r N s.args) λa1=>some a1)))))
def UB (N:Nat)(l2:aq Qg)(l0:aq Q9):(Nat×Int)->bf ((Nat×Int)⊕(Unit⊕Bool)):=λ(s,a0)=>if(decide (s<l2.length))=true then(Qf (l2[s]?) λU=>Qf (Q7j N U a0 l0) λz=>if z=true then(some (.inr (.inr false)))else(gd (WN (s+1))<|some (.inl (s+1,U.id))))else(some (.inr (.inl ())))
def Q7T (N:Nat)(s:aq Q9)(_:aq Q8)(l2:aq Qg):bf (Bool):=iT (fp (UB N l2 s) N (0,0)) λ_=>some true
def P6 (_:Nat)(s:Int):bf ((aq Bool)×(aq V)):=Qf (if(decide (s<0))=true then(some true)else(some (decide (s>16)))) λz=>if z=true then(some ([],[]))else(gd (0<=s)<|gd (s.toNat<=140737488355328)<|gd (0<=s)<|gd (s.toNat<=4398046511104)<|some (a! s.toNat false,(a! s.toNat (⟨0,0,(⟨#[]⟩:cq)⟩:V))))
def Q7i (_:Nat)(s:Int)(z:aq Int)(_:aq V)(U:aq Qb):bf (Unit):=gd (U.length+([(⟨s,z⟩:Qb)]).length<=4398046511104)<|some ()
def Q9r (N:Nat)(s:aq Int)(z:aq V)(l2:aq Qb)(a3:Int):bf (Unit):=gd (s.length<=17592186044416)<|gd (z.length<=4398046511104)<|Qf (Q7i N a3 s z l2) λ_=>some ()
def Zh (N:Nat)(s:Int)(z:Int)(a2:cq):bf (Int×Int×cq×Nat):=Qf (yZ N s z a2) λv5=>if(!v5)=true then(some (0,0,(⟨#[]⟩:cq),2))else(some (s,z,a2,0))
def Q9p (N:Nat)(_:Int)(U:Int)(a2:Int)(a3:cq)(_:Int)(_:Int)(_:aq Q3):bf (Int×Int×cq×Nat):=Qf (Zh N U a2 a3) λ(s,z,a6,a7)=>some (s,z,a6,a7)
def Q9q (N:Nat)(_:Int)(_:Int)(_:Int)(_:cq)(a4:Int)(_:Int)(_:aq Q3)(l7:aq V):bf (Int×Int×cq×Nat):=Qf (if(decide (a4<0))=true then(some true)else(some (decide (a4>=(l7.length:Int))))) λz=>if z=true then(some (0,0,(⟨#[]⟩:cq),2))else(gd (0<=a4)<|Qf (l7[a4.toNat]?) λU=>Qf (Zh N U.k U.n U.s) λ(a7,a8,a9,aA)=>some (a7,a8,a9,aA))
def Q72 (_:Nat)(_:Int):bf (Unit):=some ()
def UF (N:Nat)(s:Bool):bf (Int):=if s=true then(Qf (Q72 N 1) λ_=>some 1)else(Qf (Q72 N 0) λ_=>some 0)
def JA (_:Nat)(s:Int):bf (Unit⊕(Unit⊕(Unit⊕(Unit⊕(Unit⊕(Unit⊕(Unit⊕(Unit⊕(Unit⊕Unit))))))))):=if(s==1)=true then(some (.inl ()))else(if(s==2)=true then(some (.inr (.inl ())))else(if(s==3)=true then(some (.inr (.inr (.inl ()))))else(if(s==4)=true then(some (.inr (.inr (.inr (.inl ())))))else(if(s==7)=true then(some (.inr (.inr (.inr (.inr (.inl ()))))))else(if(s==8)=true then(some (.inr (.inr (.inr (.inr (.inr (.inl ())))))))else(if(s==9)=true then(some (.inr (.inr (.inr (.inr (.inr (.inr (.inl ()))))))))else(if(s==10)=true then(some (.inr (.inr (.inr (.inr (.inr (.inr (.inr (.inl ())))))))))else(if(s==11)=true then(some (.inr (.inr (.inr (.inr (.inr (.inr (.inr (.inr (.inl ()))))))))))else(some (.inr (.inr (.inr (.inr (.inr (.inr (.inr (.inr (.inr ()))))))))))))))))))
def QaA (_:Nat)(_:Int)(_:Int):bf (Unit):=some ()
def QaB (_:Nat)(_:Int)(_:Int):bf (Unit):=some ()
def Z7 (_:Nat)(a0:Int)(U:Int):bf (Int×Bool):=Qf (if(decide (a0<0))=true then(some (IntKind.wrap .u64 (0-(IntKind.wrap .u64 a0))))else(some (IntKind.wrap .u64 a0))) λs=>Qf (if(decide (U<0))=true then(some (IntKind.wrap .u64 (0-(IntKind.wrap .u64 U))))else(some (IntKind.wrap .u64 U))) λz=>gd (0<=s/\s<18446744073709551616)<|gd (0<=z/\z<18446744073709551616)<|if((decide (a0<0)) !=(decide (U<0)))=true then(if(((s.toNat*z.toNat/18446744073709551616:Nat):Int)==0)=true then(some ((IntKind.wrap .i64 (IntKind.wrap .u64 (0-((s.toNat*z.toNat%18446744073709551616:Nat):Int)))),(decide (((s.toNat*z.toNat%18446744073709551616:Nat):Int)<=9223372036854775808))))else(some ((IntKind.wrap .i64 (IntKind.wrap .u64 (0-((s.toNat*z.toNat%18446744073709551616:Nat):Int)))),false)))else(if(((s.toNat*z.toNat/18446744073709551616:Nat):Int)==0)=true then(some ((IntKind.wrap .i64 ((s.toNat*z.toNat%18446744073709551616:Nat):Int)),(decide (((s.toNat*z.toNat%18446744073709551616:Nat):Int)<9223372036854775808))))else(some ((IntKind.wrap .i64 ((s.toNat*z.toNat%18446744073709551616:Nat):Int)),false)))
def QaC (_:Nat)(_:Int)(_:Int):bf (Unit):=some ()
def Dz (N:Nat)(s:Bool):bf (Int):=Qf (UF N s) λz=>some z
def Q8H (N:Nat)(z:Int)(U:Int):bf (Int):=Qf (Dz N (decide (z<U))) λs=>some s
def Q8I (N:Nat)(z:Int)(U:Int):bf (Int):=Qf (Dz N (decide (z<=U))) λs=>some s
def Q8J (N:Nat)(z:Int)(U:Int):bf (Int):=if(z !=0)=true then(Qf (Dz N (U !=0)) λs=>some s)else(Qf (Dz N false) λs=>some s)
def Q8K (N:Nat)(z:Int)(U:Int):bf (Int):=if(z !=0)=true then(Qf (Dz N true) λs=>some s)else(Qf (Dz N (U !=0)) λs=>some s)
def Q8L (N:Nat)(z:Int)(_:Int):bf (Int):=Qf (Dz N (z==0)) λs=>some s
def Zc (_:Nat)(z:Int):bf (Nat):=Qf (if(z==4)=true then(some true)else(some (z==11))) λs=>if s=true then(some 1)else(some 2)
def SO (N:Nat)(l1:aq V)(a0:Nat)(U:Bool):bf (Bool⊕((Nat×Bool)⊕(Bool⊕(Nat×Int×Nat)))):=Qf (l1[a0]?) λz=>Qf (yZ N z.k z.n z.s) λa5=>if(!a5)=true then(some (.inr (.inr (.inr (0,0,2)))))else(if U=true then(some (.inl true))else(some (.inl (z.k==2))))
def DA (N:Nat)(U:aq V):(Nat×Bool)->bf ((Nat×Bool)⊕(Bool⊕(Nat×Int×Nat))):=λ(s,z)=>if(decide (s<U.length))=true then(iT (SO N U s z) λa0=>gd (WN (s+1))<|some (.inl (s+1,a0)))else(some (.inr (.inl z)))
def QT (N:Nat)(a0:Int)(s:V)(z:V):bf (Int×Bool):=Qf (JA N a0) λ
 | .inl _=>(Qf (QaA N s.n z.n) λ_=>some (IntKind.wrap .i64 (s.n+z.n),(decide ((IntKind.wrap .i64 (s.n+z.n))<s.n))==(decide (z.n<0))))
 | .inr (.inl _)=>(Qf (QaB N s.n z.n) λ_=>some (IntKind.wrap .i64 (s.n-z.n),(decide ((IntKind.wrap .i64 (s.n-z.n))>s.n))==(decide (z.n<0))))
 | .inr (.inr (.inl _))=>(Qf (Z7 N s.n z.n) λ(a5,a6)=>some (a5,a6))
 | .inr (.inr (.inr (.inl _)))=>(Qf (QaC N s.n z.n) λ_=>some (IntKind.wrap .i64 (0-s.n),s.n !=-9223372036854775808))
 | .inr (.inr (.inr (.inr (.inl _))))=>(Qf (Q8H N s.n z.n) λU=>some (U,true))
 | .inr (.inr (.inr (.inr (.inr (.inl _)))))=>(Qf (Q8I N s.n z.n) λU=>some (U,true))
 | .inr (.inr (.inr (.inr (.inr (.inr (.inl _))))))=>(Qf (Q8J N s.n z.n) λU=>some (U,true))
 | .inr (.inr (.inr (.inr (.inr (.inr (.inr (.inl _)))))))=>(Qf (Q8K N s.n z.n) λU=>some (U,true))
 | .inr (.inr (.inr (.inr (.inr (.inr (.inr (.inr (.inl _))))))))=>(Qf (Q8L N s.n z.n) λU=>some (U,true))
 | .inr (.inr (.inr (.inr (.inr (.inr (.inr (.inr (.inr _))))))))=>(none)
def DB (N:Nat)(a0:Int)(U:aq V):bf (Nat×Int×Nat):=Qf (Zc N a0) λs=>Qf (if(decide (a0<1))=true then(some true)else(if(decide (a0>11))=true then(some true)else(some (U.length !=s)))) λa1=>if a1=true then(some (0,0,2))else(iT (fp (DA N U) N (0,false)) λa6=>Qf (U[0]?) λa7=>gd (WI ((s:Int)-1))<|gd (0<=(s:Int)-1)<|Qf (U[((s:Int)-1).toNat]?) λa8=>if(a0==5)=true then(Qf (UF N (decide (a7=a8))) λaB=>some (1,aB,0))else(if(a0==6)=true then(Qf (UF N (!decide (a7=a8))) λaC=>some (1,aC,0))else(if a6=true then(some (0,0,301))else(Qf (QT N a0 a7 a8) λ(z,a5)=>if(!a5)=true then(some (0,0,300))else(Qf (Q72 N z) λ_=>some (1,z,0))))))
def Z5 (_:Nat)(l1:aq Q3)(rc:Int->Int->Int->cq->Int->Int->(aq Q3)->(aq V)->bf (Int×Int×cq×Nat))(l0:aq V):(Nat×(aq V))->bf ((Nat×(aq V))⊕((aq V)⊕((aq V)×Nat))):=λ(z,a0)=>if(decide (z<l1.length))=true then(Qf (l1[z]?) λU=>Qf (rc U.kind U.value.k U.value.n U.value.s U.var U.op U.kids l0) λ(a5,a6,a7,a8)=>if(a8 !=0)=true then(some (.inr (.inr ([],a8))))else(gd (a0.length+([(⟨a5,a6,a7⟩:V)]).length<=4398046511104)<|gd (WN (z+1))<|some (.inl (z+1,(a0++([(⟨a5,a6,a7⟩:V)]))))))else(some (.inr (.inl a0)))
def Q7S (N:Nat)(rc:Int->Int->Int->cq->Int->Int->(aq Q3)->(aq V)->bf (Int×Int×cq×Nat))(z:aq V)(U:aq Q3):bf ((aq V)×Nat):=iT (fp (Z5 N U rc z) N (0,[])) λs=>some (s,0)
def Z' (N:Nat)(rc:Int->Int->Int->cq->Int->Int->(aq Q3)->(aq V)->bf (Int×Int×cq×Nat))(l0:aq V)(_:Int)(_:Int)(_:Int)(_:cq)(_:Int)(U:Int)(l7:aq Q3):bf (Nat×Int×Nat):=Qf (Q7S N rc l0 l7) λ(z,s)=>if(s !=0)=true then(some (0,0,s))else(Qf (DB N U z) λ(a0,a7,a8)=>some (a0,a7,a8))
def SN (N:Nat)(rc:Int->Int->Int->cq->Int->Int->(aq Q3)->(aq V)->bf (Int×Int×cq×Nat))(a0:Int)(a1:Int)(a2:Int)(a3:cq)(a4:Int)(a5:Int)(l6:aq Q3)(l7:aq V):bf (Int×Int×cq×Nat):=if(a0==1)=true then(Qf (Q9p N a0 a1 a2 a3 a4 a5 l6) λ(s,z,U,a7)=>some (s,z,U,a7))else(if(a0==2)=true then(Qf (Q9q N a0 a1 a2 a3 a4 a5 l6 l7) λ(s,z,U,a7)=>some (s,z,U,a7))else(if(a0==3)=true then(Qf (Z' N rc l7 a0 a1 a2 a3 a4 a5 l6) λ(s,z,U)=>some ((s:Int),z,(⟨#[]⟩:cq),U))else(if(!false)=true then(some (0,0,(⟨#[]⟩:cq),2))else(none))))
def w5:Nat->Int->Int->Int->cq->Int->Int->(aq Q3)->(aq V)->bf (Int×Int×cq×Nat)
 |0=>λ_=>λ_=>λ_=>λ_=>λ_=>λ_=>λ_=>λ_=>none
 |N+1=>SN N (w5 N)
def Uv (_:Nat)(U:aq Bool)(l1:aq V):Nat->bf (Nat⊕(Unit⊕Bool)):=λs=>if(decide (s<U.length))=true then(Qf (U[s]?) λa0=>Qf (if(!a0)=true then(Qf (l1[s]?) λa1=>some (!decide (a1=(⟨0,0,(⟨#[]⟩:cq)⟩:V))))else(some false)) λz=>if z=true then(some (.inr (.inr false)))else(gd (WN (s+1))<|some (.inl (s+1))))else(some (.inr (.inl ())))
def V' (N:Nat)(s:aq Bool)(z:aq V):bf (Bool):=if(s.length !=z.length)=true then(some false)else(iT (fp (Uv N s z) N 0) λ_=>some true)
def Qa8 (_:Nat)(s:aq Bool)(z:aq V):bf (Unit):=gd (s.length<=140737488355328)<|gd (z.length<=4398046511104)<|some ()
def Q4j (_:Nat)(s:Bool)(a3:Int)(z:aq Bool)(U:aq V)(a7:Int)(a8:Int)(a9:cq):bf ((aq Bool)×(aq V)):=if s=true then(gd (0<=a3)<|Qf (z[a3.toNat]?) λ_=>gd (0<=a3)<|Qf (U[a3.toNat]?) λ_=>some (z.set a3.toNat true,(U.set a3.toNat (⟨a7,a8,a9⟩:V))))else(some (z,U))
def ν (N:Nat)(U:aq Bool)(l1:aq V)(a2:Int)(a3:Int)(a4:Int)(a5:Int)(a6:cq)(a7:Int)(a8:Int)(a9:cq):bf (Bool×(aq Bool)×(aq V)):=Qf (if(decide (a3>=0))=true then(some (decide (a3<(U.length:Int))))else(some false)) λs=>if(a2==1)=true then(some (true,U,l1))else(if(a2==4)=true then(some ((decide ((⟨a4,a5,a6⟩:V)=(⟨a7,a8,a9⟩:V))),U,l1))else(if(a2==3)=true then(if s=true then(gd (0<=a3)<|Qf (U[a3.toNat]?) λaE=>if aE=true then(gd (0<=a3)<|Qf (l1[a3.toNat]?) λaF=>some ((decide (aF=(⟨a7,a8,a9⟩:V))),U,l1))else(some (false,U,l1)))else(some (false,U,l1)))else(if(a2==2)=true then(Qf (Q4j N s a3 U l1 a7 a8 a9) λ(z,a0)=>some (s,z,a0))else(some (false,U,l1)))))
def Q6f (N:Nat)(s:Bool)(U:Int)(z:Int)(l2:aq fK)(a0:aq V)(a5:aq Bool)(a6:aq V):bf (Bool):=if(!s)=true then(some true)else(if(U !=z)=true then(some true)else(if(l2.length !=a0.length)=true then(some true)else(Qf (V' N a5 a6) λa7=>some (!a7))))
def Uy (N:Nat)(l2:aq fK)(aA:aq V):(Nat×(aq Bool)×(aq V))->bf ((Nat×(aq Bool)×(aq V))⊕(((aq Bool)×(aq V))⊕((aq Bool)×(aq V)×Bool))):=λ(z,a0,a1)=>if(decide (z<l2.length))=true then(Qf (l2[z]?) λa5=>Qf (aA[z]?) λU=>Qf (ν N a0 a1 a5.k a5.var a5.v.k a5.v.n a5.v.s U.k U.n U.s) λ(a7,a8,a9)=>if(!a7)=true then(some (.inr (.inr ([],[],false))))else(gd (WN (z+1))<|some (.inl (z+1,a8,a9))))else(some (.inr (.inl (a0,a1))))
def Jy (N:Nat)(a0:Int)(a1:Int)(l2:aq fK)(_:Int)(_:Int)(_:Int)(_:cq)(_:Int)(_:Int)(_:aq Q3)(_:Int)(aE:Int)(aD:aq V)(U:aq Bool)(aB:aq V):bf ((aq Bool)×(aq V)×Bool):=Qf (if(a0==1)=true then(some true)else(some (a0==2))) λaC=>Qf (Q6f N aC a1 aE l2 aD U aB) λa9=>if a9=true then(some ([],[],false))else(Qf (Qa8 N U aB) λ_=>iT (fp (Uy N l2 aD) N (0,U,aB)) λ(s,z)=>some (s,z,true))
def Q7k (N:Nat)(a0:Int)(U:Int)(l2:aq V)(a3:Int)(a4:Int)(l5:aq fK)(a6:Int)(a7:Int)(a8:Int)(a9:cq)(z:Int)(a5:Int)(aA:aq Q3)(aB:aq Bool)(aC:aq V):bf (Bool):=Qf (Jy N a3 a4 l5 a6 a7 a8 a9 z a5 aA a0 U l2 aB aC) λ(_,_,s)=>some s
def Ρ (N:Nat)(U:aq Qg)(a1:Int)(a2:Int)(l3:aq fK)(a4:Int)(a5:Int)(a6:Int)(a7:cq)(a8:Int)(a9:Int)(a0:aq Q3)(aA:aq Bool)(aB:aq V):Nat->bf (Nat⊕(Unit⊕Int)):=λs=>if(decide (s<U.length))=true then(Qf (U[s]?) λz=>Qf (Q7k N z.id z.ty z.args a1 a2 l3 a4 a5 a6 a7 a8 a9 a0 aA aB) λaC=>if aC=true then(some (.inr (.inr (s:Int))))else(gd (WN (s+1))<|some (.inl (s+1))))else(some (.inr (.inl ())))
def Q4E (N:Nat)(l0:aq Qg)(U:Int)(a2:Int)(l3:aq fK)(a4:Int)(a5:Int)(a6:Int)(a7:cq)(a8:Int)(a9:Int)(s:aq Q3)(z:aq Bool)(a0:aq V):bf (Int):=iT (fp (Ρ N l0 U a2 l3 a4 a5 a6 a7 a8 a9 s z a0) N 0) λ_=>some (-1)
def Q3F (N:Nat)(l0:aq Qg)(U:Int)(a2:Int)(l3:aq fK)(a4:Int)(a5:Int)(a6:Int)(a7:cq)(a8:Int)(a9:Int)(s:aq Q3)(z:aq Bool)(a0:aq V):bf (Bool):=Qf (Q4E N l0 U a2 l3 a4 a5 a6 a7 a8 a9 s z a0) λv7=>some (decide (v7>=0))
def Z9 (N:Nat)(a0:Int)(U:Int)(l2:aq fK)(a3:Int)(a4:Int)(a5:Int)(a6:cq)(a7:Int)(a8:Int)(l9:aq Q3)(s:aq Bool)(z:aq V)(a9:aq Qg):bf (Bool):=Qf (Q3F N a9 a0 U l2 a3 a4 a5 a6 a7 a8 l9 s z) λv9=>some v9
def Q5w (_:Nat)(z:Int)(s:Int):bf (Int⊕((Int×(aq Qb))⊕Unit)):=if(decide (z>0))=true then(gd (WI (s-1))<|if(decide ((s-1)<0))=true then(some (.inr (.inr ())))else(some (.inl (s-1))))else(some (.inl s))
def G' (N:Nat)(l7:aq Qg)(aC:Nat)(a0:Qq)(l0:aq Bool)(l1:aq V)(a5:aq Bool)(a6:aq V)(a7:aq Int)(a1:Int)(z:aq Qb)(U:aq Int)(aE:Int)(rc:(aq Bool)->(aq V)->cq->Int->Int->(aq Qq)->(aq kW)->(aq Qg)->(aq Int)->Int->(aq Qb)->Int->Int->bf ((Int×(aq Qb))⊕Unit))(a2:cq)(a3:Int)(a4:Int)(l5:aq Qq)(l6:aq kW)(aF:Int):bf (((aq Bool)×(aq V)×(aq Int)×Int×(aq Qb))⊕((Nat×(aq Bool)×(aq V)×(aq Int)×Int×(aq Qb))⊕(((aq Bool)×(aq V)×(aq Int)×Int×(aq Qb))⊕((Int×(aq Qb))⊕Unit)))):=Qf (l7[aC]?) λa8=>Qf (Jy N a0.kind a0.type a0.args a0.test.kind a0.test.value.k a0.test.value.n a0.test.value.s a0.test.var a0.test.op a0.test.kids a8.id a8.ty a8.args l0 l1) λ(a9,aA,aD)=>if(!aD)=true then(some (.inl (a5,a6,a7,a1,z)))else(gd (U.length<=U.length/\U.length<=U.length)<|gd ((U.take U.length).length+([a8.id]:aq Int).length<=17592186044416)<|gd (WI (aE+1))<|Qf (rc a9 aA a2 a3 a4 l5 l6 l7 ((U.take U.length)++[a8.id]) a1 z aF (aE+1)) λ
 | .inl (v107,aa)=>(some (.inl (a9,aA,(U.take U.length)++[a8.id],v107,aa)))
 | .inr _=>(some (.inr (.inr (.inr (.inr ()))))))
def SF (N:Nat)(l7:aq Qg)(aC:Qq)(l0:aq Bool)(l1:aq V)(l8:aq Int)(aD:Int)(rc:(aq Bool)->(aq V)->cq->Int->Int->(aq Qq)->(aq kW)->(aq Qg)->(aq Int)->Int->(aq Qb)->Int->Int->bf ((Int×(aq Qb))⊕Unit))(a2:cq)(a3:Int)(a4:Int)(l5:aq Qq)(l6:aq kW)(aE:Int):(Nat×(aq Bool)×(aq V)×(aq Int)×Int×(aq Qb))->bf ((Nat×(aq Bool)×(aq V)×(aq Int)×Int×(aq Qb))⊕(((aq Bool)×(aq V)×(aq Int)×Int×(aq Qb))⊕((Int×(aq Qb))⊕Unit))):=λ(U,a0,a1,a5,a7,s)=>if(decide (U<l7.length))=true then(iT (G' N l7 U aC l0 l1 a0 a1 a5 a7 s l8 aD rc a2 a3 a4 l5 l6 aE) λ(a8,a9,aA,aB,z)=>gd (WN (U+1))<|some (.inl (U+1,a8,a9,aA,aB,z)))else(some (.inr (.inl (a0,a1,a5,a7,s))))
def Uw (N:Nat)(rc:(aq Bool)->(aq V)->cq->Int->Int->(aq Qq)->(aq kW)->(aq Qg)->(aq Int)->Int->(aq Qb)->Int->Int->bf ((Int×(aq Qb))⊕Unit))(l0:aq Bool)(l1:aq V)(a2:cq)(a3:Int)(a4:Int)(l5:aq Qq)(l6:aq kW)(l7:aq Qg)(l8:aq Int)(a9:Int)(a6:aq Qb)(a8:Int)(a5:Int):bf ((Int×(aq Qb))⊕Unit):=iT (Q5w N a5 a9) λz=>if(a5==(l5.length:Int))=true then(Qf (Q9r N l8 l1 a6 a8) λ_=>some (.inl (z,(a6++[(⟨a8,l8⟩:Qb)]))))else(gd (0<=a5)<|Qf (l5[a5.toNat]?) λU=>if(U.kind==3)=true then(Qf (w5 N U.test.kind U.test.value.k U.test.value.n U.test.value.s U.test.var U.test.op U.test.kids l1) λ(aB,aC,_,aD)=>Qf (if(aD==0)=true then(if(aB==1)=true then(some (aC !=0))else(some false))else(some false)) λaA=>if aA=true then(gd (WI (a5+1))<|Qf (rc l0 l1 a2 a3 a4 l5 l6 l7 l8 z a6 a8 (a5+1)) λ
 | .inl (v145,ab)=>(some (.inl (v145,ab)))
 | .inr _=>(some (.inr ())))else(some (.inl (z,a6))))else(if(U.kind==2)=true then(Qf (Z9 N U.kind U.type U.args U.test.kind U.test.value.k U.test.value.n U.test.value.s U.test.var U.test.op U.test.kids l0 l1 l7) λaL=>if(!aL)=true then(gd (WI (a5+1))<|Qf (rc l0 l1 a2 a3 a4 l5 l6 l7 l8 z a6 a8 (a5+1)) λ
 | .inl (v162,ae)=>(some (.inl (v162,ae)))
 | .inr _=>(some (.inr ())))else(some (.inl (z,a6))))else(iT (fp (SF N l7 U l0 l1 l8 a5 rc a2 a3 a4 l5 l6 a8) N (0,l0,l1,l8,z,a6)) λ(_,_,_,a7,a0)=>some (.inl (a7,a0)))))
def OX:Nat->(aq Bool)->(aq V)->cq->Int->Int->(aq Qq)->(aq kW)->(aq Qg)->(aq Int)->Int->(aq Qb)->Int->Int->bf ((Int×(aq Qb))⊕Unit)
 |0=>λ_=>λ_=>λ_=>λ_=>λ_=>λ_=>λ_=>λ_=>λ_=>λ_=>λ_=>λ_=>λ_=>none
 |N+1=>Uw N (OX N)
def P4 (N:Nat)(U:aq Q8)(l2:aq Qg):(Nat×Int×(aq Qb))->bf ((Nat×Int×(aq Qb))⊕((aq Qb)⊕(Unit⊕(aq Qb)))):=λ(z,a6,s)=>if(decide (z<U.length))=true then(Qf (U[z]?) λa0=>Qf (P6 N a0.vars) λ(a1,a5)=>Qf (OX N a1 a5 a0.name a0.salience a0.vars a0.conds a0.acts l2 ([]:aq Int) a6 s (z:Int) 0) λ
 | .inl (v33,ah)=>(gd (WN (z+1))<|some (.inl (z+1,v33,ah)))
 | .inr _=>(some (.inr (.inr (.inl ())))))else(some (.inr (.inl s)))
def UG (N:Nat)(_:aq Q9)(z:aq Q8)(l2:aq Qg)(U:aq Qb):bf (Unit⊕(aq Qb)):=iT (fp (P4 N z l2) N (0,4096,U)) λs=>some (.inr s)
def Q6W (N:Nat)(z:aq Q9)(U:aq Q8)(l2:aq Qg):bf ((aq Qb)×Nat):=Qf (Qf (P5 N z U) λv9=>if(!v9)=true then(some true)else(Qf (Q7T N z U l2) λa1=>some (!a1))) λs=>if s=true then(some ([],2))else(Qf (UG N z U l2 []) λ
 | .inl _=>(some ([],204))
 | .inr v20=>(some (v20,0)))
def Q5L (_:Nat)(z:Bool)(a0:Nat)(s:UInt8):bf (Bool):=if(!z)=true then(if(a0==0)=true then(some true)else(if(decide (48<=s.toNat))=true then(if(decide (s.toNat<=57))=true then(some false)else(some (!(s.toNat==95))))else(some (!(s.toNat==95)))))else(some false)
def Q5M (N:Nat)(a0:cq):Nat->bf (Nat⊕(Unit⊕Bool)):=λs=>if(decide (s<a0.size))=true then(Qf (a0[s]?) λU=>Qf (if(decide (97<=U.toNat))=true then(some (decide (U.toNat<=122)))else(some false)) λa5=>Qf (Q5L N a5 s U) λz=>if z=true then(some (.inr (.inr false)))else(gd (WN (s+1))<|some (.inl (s+1))))else(some (.inr (.inl ())))
def Q6J (N:Nat)(s:cq):bf (Bool):=iT (fp (Q5M N s) N 0) λ_=>if(decide (1<=s.size))=true then(some (decide (s.size<=24)))else(some false)
def ω (N:Nat)(z:Int)(U:Int)(a2:cq):bf (Bool):=if(z==1)=true then(some (a2.toList==(⟨#[]⟩:cq).toList))else(if(z==2)=true then(if(U==0)=true then(Qf (Q6J N a2) λs=>some s)else(some false))else(some false))
def Q4P (_:Nat)(_:Int):bf (Unit):=some ()
def OV (N:Nat)(s:Bool):bf (Int):=if s=true then(Qf (Q4P N 1) λ_=>some 1)else(Qf (Q4P N 0) λ_=>some 0)
def Q6j (_:Nat)(s:Int)(z:Int):bf (Bool):=if(decide (s>0))=true then(gd (WI (9223372036854775807-s))<|if(decide (z>(9223372036854775807-s)))=true then(some true)else(if(decide (s<0))=true then(gd (WI (-9223372036854775808-s))<|some (decide (z<(-9223372036854775808-s))))else(some false)))else(if(decide (s<0))=true then(gd (WI (-9223372036854775808-s))<|some (decide (z<(-9223372036854775808-s))))else(some false))
def Q5S (N:Nat)(z:Int)(U:Int):bf (Int×Bool):=Qf (Q6j N U z) λs=>if s=true then(some (0,false))else(gd (WI (z+U))<|some (z+U,true))
def Q61 (_:Nat)(a0:Int)(z:Int):bf (Int×Bool):=Qf (if(a0==0)=true then(some true)else(some (z==0))) λs=>if s=true then(some (0,true))else(if(a0==-1)=true then(some (IntKind.wrap .i64 (0-z),z !=-9223372036854775808))else(if(z==-1)=true then(some (IntKind.wrap .i64 (0-a0),a0 !=-9223372036854775808))else(gd (z≠0)<|some (IntKind.wrap .i64 (a0*z),(IntKind.wrap .i64 (Int.tdiv (IntKind.wrap .i64 (a0*z)) z))==a0))))
def OW (N:Nat)(a0:Int)(s:Int)(a2:Int):bf (Int×Bool):=if(a0==1)=true then(Qf (Q5S N s a2) λ(z,a5)=>some (z,a5))else(if(a0==2)=true then(if(a2==-9223372036854775808)=true then(some (IntKind.wrap .i64 (s-a2),decide (s<0)))else(Qf (Q5S N s (IntKind.wrap .i64 (0-a2))) λ(U,a7)=>some (U,a7)))else(if(a0==3)=true then(Qf (Q61 N s a2) λ(a8,a9)=>some (a8,a9))else(some (IntKind.wrap .i64 (0-s),s !=-9223372036854775808))))
def Q6G (_:Nat)(z:Int):bf (Nat):=Qf (if(z==4)=true then(some true)else(some (z==11))) λs=>if s=true then(some 1)else(some 2)
def Q6H (N:Nat)(U:aq V)(z:Nat)(a1:Bool):bf (Bool⊕((Nat×Bool)⊕(Bool⊕(Nat×Int×Nat)))):=Qf (U[z]?) λa0=>Qf (ω N a0.k a0.n a0.s) λa5=>if(!a5)=true then(some (.inr (.inr (.inr (0,0,2)))))else(if a1=true then(some (.inl true))else(Qf (U[z]?) λa6=>some (.inl (a6.k==2))))
def Q6I (N:Nat)(U:aq V):(Nat×Bool)->bf ((Nat×Bool)⊕(Bool⊕(Nat×Int×Nat))):=λ(s,z)=>if(decide (s<U.length))=true then(iT (Q6H N U s z) λa0=>gd (WN (s+1))<|some (.inl (s+1,a0)))else(some (.inr (.inl z)))
def Q8d (N:Nat)(a0:Int)(U:aq V):bf (Nat×Int×Nat):=Qf (Q6G N a0) λaC=>Qf (if(decide (a0<1))=true then(some true)else(if(decide (a0>11))=true then(some true)else(some (U.length !=aC)))) λa8=>if a8=true then(some (0,0,2))else(iT (fp (Q6I N U) N (0,false)) λaD=>Qf (U[0]?) λs=>gd (WI ((U.length:Int)-1))<|gd (0<=(U.length:Int)-1)<|Qf (U[((U.length:Int)-1).toNat]?) λa1=>Qf (if(a0==5)=true then(some true)else(some (a0==6))) λa9=>if a9=true then(Qf (OV N ((decide (s=a1))==(a0==5))) λaF=>some (1,aF,0))else(if aD=true then(some (0,0,301))else(if(a0==7)=true then(Qf (OV N (decide (s.n<a1.n))) λaG=>some (1,aG,0))else(if(a0==8)=true then(Qf (OV N (decide (s.n<=a1.n))) λaH=>some (1,aH,0))else(if(a0==9)=true then(if(s.n !=0)=true then(Qf (OV N (a1.n !=0)) λa6=>some (1,a6,0))else(Qf (OV N false) λa6=>some (1,a6,0)))else(if(a0==10)=true then(if(s.n !=0)=true then(Qf (OV N true) λa7=>some (1,a7,0))else(Qf (OV N (a1.n !=0)) λa7=>some (1,a7,0)))else(if(a0==11)=true then(Qf (OV N (s.n==0)) λaE=>some (1,aE,0))else(Qf (OW N a0 s.n a1.n) λ(z,aA)=>if(!aA)=true then(some (0,0,300))else(Qf (Q4P N z) λ_=>some (1,z,0))))))))))
def Q4C (_:Nat)(l6:aq Q3)(rc:Int->Int->Int->cq->Int->Int->(aq Q3)->(aq V)->bf (Int×Int×cq×Nat))(l7:aq V):(Nat×(aq V))->bf ((Nat×(aq V))⊕((aq V)⊕((Int×Int×cq)⊕(Int×Int×cq×Nat)))):=λ(U,z)=>if(decide (U<l6.length))=true then(Qf (l6[U]?) λa0=>Qf (rc a0.kind a0.value.k a0.value.n a0.value.s a0.var a0.op a0.kids l7) λ(a5,a6,a7,a8)=>if(a8 !=0)=true then(some (.inr (.inr (.inr (0,0,(⟨#[]⟩:cq),a8)))))else(gd (z.length+([(⟨a5,a6,a7⟩:V)]).length<=4398046511104)<|gd (WN (U+1))<|some (.inl (U+1,(z++([(⟨a5,a6,a7⟩:V)]))))))else(some (.inr (.inl z)))
def Q8o (N:Nat)(a0:Int)(a1:Int)(a2:Int)(a3:cq)(a4:Int)(l7:aq V)(l6:aq Q3)(rc:Int->Int->Int->cq->Int->Int->(aq Q3)->(aq V)->bf (Int×Int×cq×Nat))(a5:Int):bf ((Int×Int×cq)⊕(Int×Int×cq×Nat)):=if(a0==1)=true then(some (.inl (a1,a2,a3)))else(if(a0==2)=true then(Qf (if(decide (a4>=0))=true then(some (decide (a4<(l7.length:Int))))else(some false)) λa6=>if a6=true then(gd (0<=a4)<|Qf (l7[a4.toNat]?) λU=>some (.inl (U.k,U.n,U.s)))else(some (.inl (0,0,(⟨#[]⟩:cq)))))else(if(a0==3)=true then(iT (fp (Q4C N l6 rc l7) N (0,[])) λz=>Qf (Q8d N a5 z) λ(a8,a9,aA)=>some (.inr ((a8:Int),a9,(⟨#[]⟩:cq),aA)))else(some (.inl (0,0,(⟨#[]⟩:cq))))))
def Q6k (N:Nat)(rc:Int->Int->Int->cq->Int->Int->(aq Q3)->(aq V)->bf (Int×Int×cq×Nat))(a0:Int)(a1:Int)(a2:Int)(a3:cq)(a4:Int)(a5:Int)(l6:aq Q3)(l7:aq V):bf (Int×Int×cq×Nat):=iT (Q8o N a0 a1 a2 a3 a4 l7 l6 rc a5) λ(s,z,U)=>Qf (ω N s z U) λa7=>if(!a7)=true then(some (0,0,(⟨#[]⟩:cq),2))else(some (s,z,U,0))
def Q5z:Nat->Int->Int->Int->cq->Int->Int->(aq Q3)->(aq V)->bf (Int×Int×cq×Nat)
 |0=>λ_=>λ_=>λ_=>λ_=>λ_=>λ_=>λ_=>λ_=>none
 |N+1=>Q6k N (Q5z N)
def SD (_:Nat)(l0:aq Q3)(U:Int)(rc:(aq Q3)->Int->bf (Int)):(Nat×Int)->bf ((Nat×Int)⊕Int):=λ(z,s)=>Qf (if(decide (z<l0.length))=true then(some (decide (s<=U)))else(some false)) λa0=>if a0=true then(gd (WI (s+1))<|Qf (l0[z]?) λa7=>gd (WI (U-s))<|gd (WI ((U-s)-1))<|Qf (rc a7.kids ((U-s)-1)) λa5=>gd (WI ((s+1)+a5))<|gd (WN (z+1))<|some (.inl (z+1,(s+1)+a5)))else(some (.inr s))
def Ut (N:Nat)(rc:(aq Q3)->Int->bf (Int))(U:aq Q3)(z:Int):bf (Int):=Qf (fp (SD N U z rc) N (0,0)) λs=>gd (WI (z+1))<|some (RO s (z+1))
def Kc:Nat->(aq Q3)->Int->bf (Int)
 |0=>λ_=>λ_=>none
 |N+1=>Ut N (Kc N)
def YP (N:Nat)(U:Q8):(Nat×Int)->bf ((Nat×Int)⊕Int):=λ(s,z)=>Qf (if(decide (s<U.conds.length))=true then(some (decide (z<300)))else(some false)) λa0=>if a0=true then(Qf (U.conds[s]?) λa5=>gd (WI (z+(a5.args.length:Int)))<|Qf (U.conds[s]?) λa7=>Qf (Kc N [a7.test] 300) λa6=>gd (WI ((z+(a5.args.length:Int))+a6))<|gd (WN (s+1))<|some (.inl (s+1,((z+(a5.args.length:Int))+a6))))else(some (.inr z))
def YQ (N:Nat)(U:Q8):(Nat×Int)->bf ((Nat×Int)⊕Int):=λ(s,z)=>Qf (if(decide (s<U.acts.length))=true then(some (decide (z<300)))else(some false)) λa0=>if a0=true then(Qf (U.acts[s]?) λa6=>Qf (Kc N a6.exprs 300) λa5=>gd (WI (z+a5))<|gd (WN (s+1))<|some (.inl (s+1,z+a5)))else(some (.inr z))
def Q5K (N:Nat)(l1:aq Q8)(U:Nat)(z:Int):bf (Int):=Qf (l1[U]?) λs=>gd (WI (z+(s.conds.length:Int)))<|gd (WI ((z+(s.conds.length:Int))+(s.acts.length:Int)))<|Qf (fp (YP N s) N (0,((z+(s.conds.length:Int))+(s.acts.length:Int)))) λa0=>fp (YQ N s) N (0,a0)
def YO (N:Nat)(U:aq Q8):(Nat×Int)->bf ((Nat×Int)⊕Int):=λ(s,z)=>Qf (if(decide (s<U.length))=true then(some (decide (z<300)))else(some false)) λa0=>if a0=true then(Qf (Q5K N U s z) λa1=>gd (WN (s+1))<|some (.inl (s+1,a1)))else(some (.inr z))
def υ (N:Nat)(U:aq Q9)(z:aq Q8):bf (Bool):=gd (WN (U.length+z.length))<|Qf (fp (YO N z) N (0,((U.length+z.length:Nat):Int))) λs=>some (decide (s<300))
def YS (_:Nat)(U:aq QU)(a0:Nat):Nat->bf (Nat⊕(Unit⊕(Nat⊕(Unit⊕Bool)))):=λz=>Qf (U[a0]?) λa1=>if(decide (z<a1.fact.args.length))=true then(Qf (U[a0]?) λa5=>Qf (a5.fact.args[z]?) λa6=>if(decide (100<a6.s.size))=true then(some (.inr (.inr (.inr (.inr false)))))else(gd (WN (z+1))<|some (.inl (z+1))))else(some (.inr (.inl ())))
def YR (N:Nat)(z:aq QU):Nat->bf (Nat⊕(Unit⊕Bool)):=λs=>if(decide (s<z.length))=true then(iT (Qf (z[s]?) λa0=>if(decide (20<a0.fact.args.length))=true then(some (.inr (.inr (.inr false))))else(fp (YS N z s) N 0)) λ_=>gd (WN (s+1))<|some (.inl (s+1)))else(some (.inr (.inl ())))
def χ (N:Nat)(s:aq QU):bf (Bool):=iT (fp (YR N s) N 0) λ_=>some (decide (s.length<=40))
def Q6r (_:Nat)(_:Int):bf (Unit):=some ()
def Q5v (N:Nat)(z:Int)(s:Int):bf (Int):=Qf (Q6r N z) λ_=>Qf (Q6r N s) λ_=>if(z !=z)=true then(if(s !=s)=true then(some 0)else(some (-1)))else(if(s !=s)=true then(some 1)else(if(decide (z<s))=true then(some (-1))else(if(decide (z>s))=true then(some 1)else(some 0))))
def SE (N:Nat)(U:aq Int)(l1:aq Int):Nat->bf (Nat⊕(Unit⊕Int)):=λs=>if(decide (s<U.length))=true then(Qf (U[s]?) λa0=>if(decide (l1.length<=s))=true then(some (.inr (.inr 1)))else(Qf (l1[s]?) λa1=>Qf (Q5v N a0 a1) λz=>if(z !=0)=true then(some (.inr (.inr z)))else(gd (WN (s+1))<|some (.inl (s+1)))))else(some (.inr (.inl ())))
def Q5A (N:Nat)(s:aq Int)(z:aq Int):bf (Int):=iT (fp (SE N s z) N 0) λ_=>if(decide (s.length<z.length))=true then(some (-1))else(some 0)
def SG (N:Nat)(_:Int)(s:aq Int)(_:Int)(z:aq Int):bf (Int):=Qf (Q5A N s z) λv9=>some v9
def Q7l (N:Nat)(s:Int)(z:Int)(a2:cq):bf (Bool):=Qf (yZ N s z a2) λv4=>some (!v4)
def Ω (N:Nat)(U:aq V):Nat->bf (Nat⊕(Unit⊕Int)):=λz=>if(decide (z<U.length))=true then(Qf (U[z]?) λa0=>Qf (Q7l N a0.k a0.n a0.s) λa1=>if a1=true then(some (.inr (.inr (z:Int))))else(gd (WN (z+1))<|some (.inl (z+1))))else(some (.inr (.inl ())))
def Q3s (N:Nat)(s:aq V):bf (Int):=iT (fp (Ω N s) N 0) λ_=>some (-1)
def YL (N:Nat)(s:aq V):bf (Bool):=Qf (Q3s N s) λz=>some (decide (z>=0))
def Z6 (_:Nat)(l6:aq Q3)(rc:Int->Int->Int->cq->Int->Int->(aq Q3)->bf (aq Q3)):(Nat×(aq Q3))->bf ((Nat×(aq Q3))⊕(aq Q3)):=λ(a0,z)=>if(decide (a0<l6.length))=true then(Qf (z[a0]?) λU=>Qf (rc U.kind U.value.k U.value.n U.value.s U.var U.op U.kids) λa5=>Qf (z[a0]?) λ_=>gd (WN (a0+1))<|some (.inl (a0+1,(z.set a0 (⟨U.kind,U.value,U.var,U.op,a5⟩:Q3)))))else(some (.inr z))
def Q71 (N:Nat)(rc:Int->Int->Int->cq->Int->Int->(aq Q3)->bf (aq Q3))(_:Int)(_:Int)(_:Int)(_:cq)(_:Int)(_:Int)(z:aq Q3):bf (aq Q3):=gd (z.length<=1759218604441)<|Qf (fp (Z6 N z rc) N (0,z)) λs=>some s
def Ze:Nat->Int->Int->Int->cq->Int->Int->(aq Q3)->bf (aq Q3)
 |0=>λ_=>λ_=>λ_=>λ_=>λ_=>λ_=>λ_=>none
 |N+1=>Q71 N (Ze N)
def Zb (N:Nat)(_:Int)(_:Int)(l2:aq fK)(a3:Int)(a4:Int)(s:Int)(z:cq)(U:Int)(a8:Int)(l9:aq Q3):bf (aq Q3):=gd (l2.length<=2932031007402)<|Qf (Ze N a3 a4 s z U a8 l9) λv9=>some v9
def Q8G (N:Nat)(z:Int)(s:Int)(a2:cq):bf (cq):=Qf (yZ N z s a2) λv5=>if(!v5)=true then(some (⟨#[]⟩:cq))else(if(z==2)=true then(gd (WN ((⟨#[39]⟩:cq).size+a2.size))<|some ((⟨#[39]⟩:cq)++a2))else(gd (WI s)<|some (wy s)))
end
section
theorem Sp:Ap Tryz.prog 2=some .i64:=aw
theorem jS:Ap Tryz.prog 3=some .i64:=aw
theorem nq:NH Tryz.prog 9=true:=aw
theorem U8:vI Tryz.prog 31=some 85:=aw
theorem Hz:Ap Tryz.prog 60=some .u8:=aw
theorem mi:Ap Tryz.prog 64=some .u8:=aw
theorem Nz:vI Tryz.prog 117=some 209:=aw
theorem NA:vI Tryz.prog 127=some 133:=aw
theorem Ao:Ap Tryz.prog 322=some .u64:=aw
end
section
open Go Go.RowKit
inductive cz where
 |join (a:Nat)
 |nt (a:Nat)
 |test (a:Nat)
def cz.tag:cz->Nat
 | .join _=>116
 | .nt _=>121
 | .test _=>123
def cz.adr:cz->Nat
 | .join a=>a
 | .nt a=>a
 | .test a=>a
def C_p (x:Nat)(_:Unit):aq bc:=[.pointer (some ⟨x,0,none⟩)]
def F_p (_:Nat)(_:Unit):aq Fact:=[]
def kp:fc Nat:=DO C_p F_p (by intro x r u hu;simp[C_p]at hu;subst hu;rfl)
theorem SY:ra kp C_p (λ_ _=>True) F_p:=HV
def E4 (x:cz)(_:Unit):aq bc:=[.iface x.tag (.pointer (some ⟨x.adr,0,none⟩))]
def Ka (_:cz)(_:Unit):aq Fact:=[]
def Kp:fc cz:=DO E4 Ka (by intro x r u hu;simp[E4]at hu;subst hu;rfl)
theorem Qc6:ra Kp E4 (λ_ _=>True) Ka:=HV
def gI:wj Tryz.prog 127 Nat:=Xx (e:=133) (i:=5) aw aw
structure gP where
 types:List Q9
 rows:List Nat
 rowsP:Option Addr
 rowsC:Nat
 alphas:MS ByteArray Nat
 alphasA:Nat
 facts:MS Int Qg
 factsA:Nat
 parts:Int
structure nQ where
 net:Nat
 steps:List cz
 stepsP:Option Addr
 stepsC:Nat
 whole:MS Nat Bool
 wholeA:Nat
structure Ox where
 kind:Int
 args:List fK
 argsP:Option Addr
 argsC:Nat
 facts:MS Int Qg
 factsA:Nat
structure xm where
 alpha:Nat
 row:Nat
 k:Int
 cond:Qq
 parts:MS Nat Bool
 partsA:Nat
structure lP where
 row:Nat
 k:Int
 cond:Qq
 parts:MS Nat Bool
 partsA:Nat
structure ji where
 has:List Bool
 vals:List V
 up:Option Nat
 id:Int
 kids:MS Nat Bool
 kidsA:Nat
 blocks:Option (Nat×MS Int Bool)
def Uj (x:gP)(r:bf Addr×Nat):aq bc:=[.slice r.1 x.types.length r.2,.slice x.rowsP x.rows.length x.rowsC,.map (some x.alphasA),.map (some x.factsA),.int .i64 (x.parts)]
def E8 (x:gP)(r:bf Addr×Nat):aq Fact:=[.sli 2 Qc r.1 r.2 x.types]
def Ul (x:nQ)(_:Unit):aq bc:=[.pointer (some ⟨x.net,0,none⟩),.slice x.stepsP x.steps.length x.stepsC,.map (some x.wholeA)]
def Ea (_:nQ)(_:Unit):aq Fact:=[]
def K6 (x:Ox)(_:Unit):aq bc:=[.int .i64 (x.kind),.slice x.argsP x.args.length x.argsC,.map (some x.factsA)]
def tJ (_:Ox)(_:Unit):aq Fact:=[]
def OQ (x:xm)(r:(bf Addr×Nat)×(bf Addr×Nat)):aq bc:=[.pointer (some ⟨x.alpha,0,none⟩),.pointer (some ⟨x.row,0,none⟩),.int .i64 (x.k),.int .u8 (x.cond.kind),.int .i64 (x.cond.type),.slice r.1.1 x.cond.args.length r.1.2,.int .u8 (x.cond.test.kind),.int .u8 (x.cond.test.value.k),.int .i64 (x.cond.test.value.n),.string x.cond.test.value.s,.int .i64 (x.cond.test.var),.int .u8 (x.cond.test.op),.slice r.2.1 x.cond.test.kids.length r.2.2,.map (some x.partsA)]
def yT (x:xm)(r:(bf Addr×Nat)×(bf Addr×Nat)):aq Fact:=[.sli 5 iA r.1.1 r.1.2 x.cond.args,.sli 7 Qi r.2.1 r.2.2 x.cond.test.kids]
def Uk (x:xm)(r:(bf Addr×Nat)×(bf Addr×Nat)):aq bc:=[.pointer (some ⟨x.alpha,0,none⟩),.pointer (some ⟨x.row,0,none⟩),.int .i64 (x.k),.int .u8 (x.cond.kind),.int .i64 (x.cond.type),.slice r.1.1 x.cond.args.length r.1.2,.int .u8 (x.cond.test.kind),.int .u8 (x.cond.test.value.k),.int .i64 (x.cond.test.value.n),.string x.cond.test.value.s,.int .i64 (x.cond.test.var),.int .u8 (x.cond.test.op),.slice r.2.1 x.cond.test.kids.length r.2.2,.map (some x.partsA)]
def E9 (x:xm)(r:(bf Addr×Nat)×(bf Addr×Nat)):aq Fact:=[.sli 5 iA r.1.1 r.1.2 x.cond.args,.sli 7 Qi r.2.1 r.2.2 x.cond.test.kids]
def OS (x:lP)(r:(bf Addr×Nat)×(bf Addr×Nat)):aq bc:=[.pointer (some ⟨x.row,0,none⟩),.int .i64 (x.k),.int .u8 (x.cond.kind),.int .i64 (x.cond.type),.slice r.1.1 x.cond.args.length r.1.2,.int .u8 (x.cond.test.kind),.int .u8 (x.cond.test.value.k),.int .i64 (x.cond.test.value.n),.string x.cond.test.value.s,.int .i64 (x.cond.test.var),.int .u8 (x.cond.test.op),.slice r.2.1 x.cond.test.kids.length r.2.2,.map (some x.partsA)]
def yV (x:lP)(r:(bf Addr×Nat)×(bf Addr×Nat)):aq Fact:=[.sli 5 iA r.1.1 r.1.2 x.cond.args,.sli 7 Qi r.2.1 r.2.2 x.cond.test.kids]
def OR (x:ji)(r:(bf Addr×Nat)×(bf Addr×Nat)):aq bc:=[.slice r.1.1 x.has.length r.1.2,.slice r.2.1 x.vals.length r.2.2,.pointer (k! pA x.up),.int .i64 (x.id),.map (some x.kidsA),.map (k! Prod.fst x.blocks)]
def yU (x:ji)(r:(bf Addr×Nat)×(bf Addr×Nat)):aq Fact:=[.sli 1 Qx r.1.1 r.1.2 x.has,.sli 3 dz r.2.1 r.2.2 x.vals]
inductive PO where
 |net (x:gP)
 |row (x:nQ)
 |alpha (x:Ox)
 |join (x:xm)
 |nt (x:xm)
 |test (x:lP)
 |part (x:ji)
def PO.kind:PO->Nat
 | .net _=>0
 | .row _=>1
 | .alpha _=>2
 | .join _=>3
 | .nt _=>4
 | .test _=>5
 | .part _=>6
def mg {R:Type} (x:cz)(f g h:Nat->WM R):WM R:=λQ=>(∀a,x=.join a->f a Q)/\(∀a,x=.nt a->g a Q)/\(∀a,x=.test a->h a Q)
abbrev Qe:=Nat->bf PO
variable {s:Qe}{a:Nat}{x:xm}
def gNet (s:Qe)(a:Nat):bf gP:=match s a with
 |some (.net x)=>some x
 |_=>none
theorem qd {x:gP} (h:gNet s a=some x):s a=some (.net x):=by
 unfold gNet at h;split at h;· cases h;assumption
 · cases h
def gRow (s:Qe)(a:Nat):bf nQ:=match s a with
 |some (.row x)=>some x
 |_=>none
theorem qe {x:nQ} (h:gRow s a=some x):s a=some (.row x):=by
 unfold gRow at h;split at h;· cases h;assumption
 · cases h
def wa (s:Qe)(a:Nat):bf Ox:=match s a with
 |some (.alpha x)=>some x
 |_=>none
theorem BH {x:Ox} (h:wa s a=some x):s a=some (.alpha x):=by
 unfold wa at h;split at h;· cases h;assumption
 · cases h
def jo (s:Qe)(a:Nat):bf xm:=match s a with
 |some (.join x)=>some x
 |_=>none
theorem EW (h:jo s a=some x):s a=some (.join x):=by
 unfold jo at h;split at h;· cases h;assumption
 · cases h
def jq (s:Qe)(a:Nat):bf xm:=match s a with
 |some (.nt x)=>some x
 |_=>none
theorem Iv (h:jq s a=some x):s a=some (.nt x):=by
 unfold jq at h;split at h;· cases h;assumption
 · cases h
def ru (s:Qe)(a:Nat):bf lP:=match s a with
 |some (.test x)=>some x
 |_=>none
theorem EZ {x:lP} (h:ru s a=some x):s a=some (.test x):=by
 unfold ru at h;split at h;· cases h;assumption
 · cases h
def gPart (s:Qe)(a:Nat):bf ji:=match s a with
 |some (.part x)=>some x
 |_=>none
theorem EY {x:ji} (h:gPart s a=some x):s a=some (.part x):=by
 unfold gPart at h;split at h;· cases h;assumption
 · cases h
def gg (a:Nat):PO->aq Fact
 | .net x=>[rf a 85 Uj E8 x,.own 108 1 kp (.slice x.rowsP x.rows.length x.rowsC) x.rows,eH (JJ (Gi nq)).X false kp x.alphasA x.alphas,eH (iH (ie jS)).X true QH x.factsA x.facts]
 | .row x=>[rf a 112 Ul Ea x,.own 213 1 Kp (.slice x.stepsP x.steps.length x.stepsC) x.steps,eH gI false Qx x.wholeA x.whole]
 | .alpha x=>[rf a 209 K6 tJ x,.own 76 5 iA (.slice x.argsP x.args.length x.argsC) x.args,eH (iH (ie jS)).X true QH x.factsA x.facts]
 | .join x=>[rf a 120 OQ yT x,eH gI false Qx x.partsA x.parts]
 | .nt x=>[rf a 122 Uk E9 x,eH gI false Qx x.partsA x.parts]
 | .test x=>[rf a 125 OS yV x,eH gI false Qx x.partsA x.parts]
 | .part x=>[rf a 133 OR yU x,eH gI false Qx x.kidsA x.kids,zZ x.blocks (λb m=>eH (iH (ie jS)).X false Qx b m)]
theorem Pc:Ks gg:=λa o=>by
 cases o<;>exact⟨_,_,_,_,_,_,_,rfl⟩
end
section
open Go Go.RowKit
set_option maxRecDepth 100000
set_option maxHeartbeats 4000000
variable {α:Type}{y:Nat}{m:MS Nat α}
theorem Kf:∀{ks l:aq Nat},ks.Nodup->(∀z∈ks,z∈l)->ks.length<=l.length
 |[],l,_,_=>Q' _
 | k::ks,l,h,hs=>by
   have h1:=T'.1 h;have hk:k∈l:=hs k bh;have:=Kf (l:=l.erase k) h1.2 λz U=>(List.mem_erase_of_ne (λe=>h1.1 (by rw[<-e];exact U))).2 (hs z (by simp[U]));rw[List.length_erase_of_mem hk]at this;have:=List.length_pos_of_mem hk;simp only[j'];omega
theorem MA {ks l:aq Nat} (h:ks.Nodup)(hs:∀z∈ks,z∈l)(hy:y∈l)(hn:y∉ks):ks.length<l.length:=by
 have:=Kf (T'.2 ⟨hn,h⟩) (l:=l) (by
  intro z U;rcases g'.1 U with rfl|U;· exact hy
  · exact hs z U)
 simp only[j']at this;omega
theorem FA {ks:aq Nat} (h:ks.Nodup)(hn:y∉ks):(ks++[y]).Nodup:=List.nodup_append.2 ⟨h,bh,λa ha b U e=>hn (by simp at U;rw[<-U,<-e];exact ha)⟩
theorem Q7R {k:Nat} (h:k∈m.keys):∃x,m.look k=some x:=by
 obtain⟨e,he,rfl⟩:=F'.1 h
 have:ib e.1 m.es≠none:=λhn=>by
  have key:∀l:aq (Nat×α×Nat),ib e.1 l=none->e∉l:=by
   intro l;induction l with
   |nil=>intro _ h;cases h
   | cons y l ih=>
     intro h hm;unfold ib at h;split at h;· cases h
     ·rename_i ep;rcases g'.1 hm with rfl|hm;· exact ep rfl
      · exact ih h hm
  exact key _ hn he
 cases U:ib e.1 m.es with
 |none=>exact absurd U this
 |some x=>exact⟨x.1,by simp[MS.look,U]⟩
theorem Dm {C:Ctx} {n:FD} {Q:Exit->Act->bx->Prop} {Φ H H':aq Fact} {S:aq (Nat×bc)} {e:Exit} {U:Type} {m:MS U α} {g b:Nat} {done:aq U} {last:bf U} (i:Nat)(hi:H[i]? =some (iu m g b done last))(hH:H.set i (iu m g b done none)=H')(h:WE C n Q Φ H' S e):WE C n Q Φ H S e:=by
 subst hH;exactλa w hf hw=>h a w hf (hw.itForget i hi)
def tK (ks l:aq Nat):Prop:=ks.Nodup/\∀y,y∈ks↔y∈l
def Mp {R:Type} (m:MS Nat R):WM (aq Nat):=λQ=>m.keys.length<=4398046511104/\∀ks,tK ks m.keys->Q ks
theorem Hc {R:Type} {K:aq Nat->WM R} {Q:R->Prop} (h:fu (Mp m) K Q):m.keys.length<=4398046511104/\∀ks,tK ks m.keys->K ks Q:=h
theorem a1L:Tryz.prog.underlying 109=some (.map 127 4):=aw
theorem a3H:QV Tryz.prog 109=some 1:=aw
theorem a3E:fJ Tryz.prog 109=some false:=aw
theorem Yn:QV Tryz.prog 535=some 1:=aw
theorem a1J:fJ Tryz.prog 535=some false:=aw
theorem a3G:QV Tryz.prog 127=some 1:=aw
theorem a1K:gG Tryz.prog 535=some 127:=aw
theorem Mq (b:Nat):QF Tryz.prog 407 [.map (some b)] [] [] (λv bz Hr=>∃g,v=.func (.func 414) #[] #[.pointer (some ⟨g,0,none⟩)]/\bz=[]/\Hr=[.blk g [.map (some b)] 109]):=by
 refine Qm Tryz.func407 rfl rfl rfl rfl λC=>?_;refine Q5 ?_;refine Qa ?_;refine vV rfl rfl rfl (Q0 rfl) rfl rfl rfl (λg=>?_);refine Qs rfl rfl rfl (Q0 rfl) rfl ?_;refine Q2 ?_;refine Qy ?_;refine Q5 ?_;refine Qa ?_;refine rV rfl rfl rfl (Q0 rfl) rfl rfl ?_;refine Qs (S':=[_,_,_]) rfl rfl rfl rfl rfl ?_;refine Q2 ?_;refine Qy ?_;refine Qn ?_;exact pR (Hr:=[_]) [0] Tryz.results407 (jt rfl) ⟨g,rfl,rfl,rfl⟩ (λ_ _ U=>ask [] rfl U) rfl rfl (.inl rfl)
abbrev N2 (g:Nat) (ks:aq Nat) (p:bf Addr) (c:Nat):aq Fact:=[.blk g [.slice p ks.length c] 535,.own 127 1 kp (.slice p ks.length c) ks]
variable {gk b:Nat}{m:MS Nat Bool}
theorem Xw {l fn D g:Nat} {tmps:Array bc} {assign body:Code} {ps:Array Tmp} (Ru:ps.size=1)
  (rs:∀(ks:aq Nat) (y:Nat) p c,ks.length<m.keys.length->zi Tryz.prog l fn ((ps.zip #[.pointer (some ⟨y,0,none⟩)]).foldl (λtmps (t,a)=>tmps.setIfInBounds t a) tmps) assign body [] (sa l {state:=.ready,pending:=none,fn:=fn,tmps:=tmps,params:=ps,assign:=assign,body:=body,defers:=D}::N2 g ks p c) (λv bz Hr=>∃p' c',v=.bool true/\bz=[]/\Hr=sa l {state:=.ready,pending:=none,fn:=fn,tmps:=tmps,params:=ps,assign:=assign,body:=body,defers:=D}::N2 g (ks++[y]) p' c')):
  QF Tryz.prog 414 [.func (.yield l) #[] #[],.pointer (some ⟨gk,0,none⟩)] [] (sa l {state:=.ready,pending:=none,fn:=fn,tmps:=tmps,params:=ps,assign:=assign,body:=body,defers:=D}::(N2 g [] none 0++[.blk gk [.map (some b)] 109,eH gI false Qx b m]))
   (λ_ bz Hr=>∃rr Hx,rr.state≠.busy/\rr.pending=none/\Hr=sa l rr::Hx/\(∃ks p c,tK ks m.keys/\bz=[]/\Hx=N2 g ks p c++[.blk gk [.map (some b)] 109,eH gI false Qx b m])):=by
 refine Qm Tryz.func414 rfl rfl rfl rfl λC=>?_;refine Q5 ?_;refine Qa ?_;refine On 3 0 rfl rfl rfl (Q0 rfl) rfl rfl rfl (cs:=[_]) rfl a3H a3E rfl rfl ?_;refine Pk 4 rfl rfl rfl (Q0 rfl) rfl rfl rfl a1L (λgi=>?_);refine Q2 ?_;refine Qy ?_;refine Qk ?_
 refine UZ (σ:=aq Nat×bf Addr×Nat) (λ(ks,_,_)=>ks.Nodup/\∀y∈ks,y∈m.keys) (λ(ks,_,_)=>m.keys.length-ks.length) (λ_=>[(5,.pointer (some ⟨gi,0,none⟩)),(0,.func (.yield l) #[] #[])]) (λ_=>[])
  (λ(ks,p,c)=>iu m gi b ks none::sa l {state:=.ready,pending:=none,fn:=fn,tmps:=tmps,params:=ps,assign:=assign,body:=body,defers:=D}::(N2 g ks p c++[.blk gk [.map (some b)] 109,eH gI false Qx b m])) ([],none,0) ⟨List.nodup_nil,λ_ h=>by cases h⟩ [5,0] rfl (λ_ _ U=>ask [] rfl U) rfl (λs_ hm=>?_)
 obtain⟨ks,p,c⟩:=s_;try dsimp only at hm⊢
 refine Q5 ?_;refine Qa ?_;refine Ps 0 5 rfl rfl rfl (Q0 rfl) rfl rfl rfl rfl (λog=>?_) (λk kv hk Fh=>?_)
 ·refine Qs rfl rfl rfl (Q0 rfl) rfl ?_;refine Q2 ?_;refine Qy ?_;refine Q5 ?_;refine DG rfl ?_;refine gW ?_;refine Q7 ?_;refine Q7 ?_;refine Qv ?_;exact vq (Hr:=[_,_,_,_,_]) [1,2,3,4,5] Tryz.results414 ⟨_,_,bh,rfl,rfl,ks,p,c,⟨hm.1,λy=>⟨hm.2 y,λh=>og y h⟩⟩,rfl,rfl⟩ (λ_ _ U=>ask [] rfl U) rfl rfl (.inr rfl)
 ·refine Qs rfl rfl rfl (Q0 rfl) rfl ?_;refine Q2 ?_;refine Qy ?_;refine Q5 ?_;refine Kj rfl ?_;refine QY ?_;refine Qy ?_;refine Qk ?_;refine Q5 ?_;refine Qa ?_;obtain⟨x,hx⟩:∃x,m.look k=some x:=Q7R hk;refine Pg (a:=x) Oe 0 5 rfl rfl rfl (Q0 rfl) rfl rfl rfl rfl hx (u:=λ_=>.bool x) (λ_=>rfl) (v:=λ_=>.tuple #[.pointer (some ⟨k,0,none⟩),.bool x]) (λ_=>rfl) (λ_ _=>?_);refine Qs rfl rfl rfl (Q0 rfl) rfl ?_;refine Qs rfl rfl rfl (Q0 rfl) rfl ?_;refine Q2 ?_;refine Qy ?_;refine Q5 ?_;refine vT ?_;refine Th (P:=Tryz.prog) (l2:=[_,_]) [_,_] rfl rfl ?_;refine Qs rfl rfl rfl (Q0 rfl) rfl ?_;refine Qs rfl rfl rfl (Q0 rfl) rfl ?_;refine Q2 ?_;refine Ue ?_;have cj:=MA hm.1 hm.2 hk Fh;refine yO [1,2,3] [0,4,5] rfl rfl rfl (Q0 rfl) rfl rfl rfl rfl Ru.symm (rs ks k p c cj) (λ_ _ U=>ask [] rfl U) rfl rfl ?_;rintro _ _ _ ⟨p',c',rfl,rfl,rfl⟩;refine Th (P:=Tryz.prog) (l2:=[]) [_] rfl rfl ?_;refine Qs rfl rfl rfl (Q0 rfl) rfl ?_;refine Q2 ?_;refine qV ?_;refine Qy ?_;refine DG rfl ?_;refine QY ?_;refine Q6 ?_;refine Dm 3 rfl rfl ?_;refine Qj [3,0,1,2,4,5] rfl (H':=[_,_,_,_,_,_]) rfl ?_
  refine Pf (ks++[k],p',c') (by simp only[E',j',x'];omega) ⟨FA hm.1 Fh,λy hy=>by
   rcases f'.1 hy with h|h;· exact hm.2 y h
   · rw[o'.1 h];exact hk⟩ [5,0] rfl (λ_ _ U=>ask [] rfl U) rfl
theorem a3F:j0 Tryz.prog 127=some (.pointer none,1,8):=aw
theorem a3I:iL Tryz.prog 127=some (.pointer none):=aw
theorem KC (hlen:m.keys.length<=4398046511104):QF Tryz.prog 413 [.slice none 0 0,.func (.func 414) #[] #[.pointer (some ⟨gk,0,none⟩)]] [] [.blk gk [.map (some b)] 109,eH gI false Qx b m]
  (λv bz Hr=>∃ks p c,tK ks m.keys/\v=.slice p ks.length c/\bz=[]/\Hr=[.own 127 1 kp (.slice p ks.length c) ks,.blk gk [.map (some b)] 109,eH gI false Qx b m]):=by
 refine CO Tryz.func413 rfl rfl rfl rfl λC=>?_;refine Q5 ?_;refine Qa ?_;refine vV rfl rfl rfl (Q0 rfl) rfl rfl rfl (λg=>?_);refine Qs rfl rfl rfl (Q0 rfl) rfl ?_;refine Q2 ?_;refine Kg 127 1 kp ?_;refine Qy ?_;refine Q5 ?_;refine Q5 ?_;refine Qa ?_;refine Qs rfl rfl rfl (Q0 rfl) rfl ?_;refine Q2 ?_;refine Qy ?_;refine Qk ?_;refine ly [6,2] (S':=[_,_]) rfl ?_;refine Dk (Φf:=[]) (H':=[tQ []]) [0,3,2,5,6] [1,4] rfl aw (λ_ _=>rfl) (λ_ _ bs=>ask [] rfl bs) rfl (λ_ _=>rfl) (λfn l D a hf=>Xw rfl λks y p c cj=>?_) (λD bz Hx hR=>?_)
 ·refine CH (LB (k:=13) hf rfl rfl) λC=>?_
  ·refine QcF ?_;refine Th (P:=Tryz.prog) (l2:=[]) [_] rfl rfl ?_;refine Qs rfl rfl rfl (Q0 rfl) rfl ?_;refine Q2 ?_;refine qV ?_;refine Dl 0 rfl rfl rfl ?_;refine yJ ?_;refine QcF ?_;refine Th (P:=Tryz.prog) (l2:=[]) [_,_,_,_,_] rfl rfl ?_;refine On 1 0 rfl rfl rfl (Q0 rfl) rfl rfl rfl (cs:=[_]) rfl Yn a1J rfl rfl ?_;refine Qs rfl rfl rfl (Q0 rfl) rfl ?_;refine QB rfl rfl rfl (Q0 rfl) rfl a1K a3G a3I rfl (zs:=[.pointer none]) aw rfl (out:=[_]) rfl (λg2=>?_);refine B4 [y] 3 0 rfl rfl rfl (Q0 rfl) rfl rfl rfl rfl rfl (λF w bs=>⟨[.pointer (some ⟨y,0,none⟩)],[],rfl,rfl,⟨(),rfl,QQ⟩,rfl⟩) a1K a3F rfl rfl (by simp only[j',x'];omega) (by simp only[j',x'];omega) (H2:=λp' U=>[_,_,_,.own 127 1 kp (.slice p' ((ks++[y]).length) U) (ks++[y])]) (λ_ _=>rfl) (λp' U=>?_);refine Dt 2 0 rfl rfl rfl rfl rfl rfl rfl Yn rfl rfl rfl (all':=[_]) rfl (H':=[_,_,_,_]) rfl ?_;refine Q2 ?_;refine qV ?_;refine Q6 ?_;refine Qj [1,2,3] rfl (H':=[_,_,_]) rfl ?_;exact rQ 0 rfl rfl ⟨p',U,rfl,rfl,rfl⟩
 ·obtain⟨ks,p,c,hk,rfl,rfl⟩:=hR;refine HJ (Ds:=[]) (Es:=[D]) 5 4 rfl rfl rfl rfl ?_;refine Q6 ?_;refine Qy ?_;refine Q5 ?_;refine Qa ?_;refine On 0 0 rfl rfl rfl (Q0 rfl) rfl rfl rfl (cs:=[_]) rfl Yn a1J rfl rfl ?_;refine Qs (S':=[_,_,_]) rfl rfl rfl rfl rfl ?_;refine Q2 ?_;refine Qy ?_;refine Qn ?_;refine Qj [4,1,2,3] rfl (H':=[tQ [D],_,_,_]) rfl ?_;exact Dn (Ds:=[D]) (.inr rfl) rfl rfl (results_tmp Tryz.results413 rfl) ⟨ks,p,c,hk,rfl,rfl,rfl⟩
theorem xy (hlen:m.keys.length<=4398046511104):QF Tryz.prog 406 [.func (.func 414) #[] #[.pointer (some ⟨gk,0,none⟩)]] [] [.blk gk [.map (some b)] 109,eH gI false Qx b m]
  (λv bz Hr=>∃ks p c,tK ks m.keys/\v=.slice p ks.length c/\bz=[]/\Hr=[.own 127 1 kp (.slice p ks.length c) ks,.blk gk [.map (some b)] 109,eH gI false Qx b m]):=by
 refine Qm Tryz.func406 rfl rfl rfl rfl λC=>?_;refine Q5 ?_;refine Qa ?_;refine Qs rfl rfl rfl (Q0 rfl) rfl ?_;refine Q2 ?_;refine Qy ?_;refine Q5 ?_;refine Qa ?_;refine Qs rfl rfl rfl (Q0 rfl) rfl ?_;refine AD [0,1] [] rfl rfl rfl (Q0 rfl) rfl rfl aw rfl (KC hlen) (λ_ _ U=>ask [] rfl U) rfl (H':=[]) rfl ?_;rintro _ _ _ ⟨ks,p,c,hk,rfl,rfl,rfl⟩;refine Qs (S':=[_,_,_]) rfl rfl rfl rfl rfl ?_;refine Q2 ?_;refine Qy ?_;refine Qn ?_;exact pR (Hr:=[_,_,_]) [0,1,2] Tryz.results406 (jt rfl) ⟨ks,p,c,hk,rfl,rfl,rfl⟩ (λ_ _ U=>ask [] rfl U) rfl rfl (.inl rfl)
end
section
open Go Go.RowKit
def zX (u:bc):aq PanicEntry:=[{v:=u,recovered:=false}]
def Vc (C:Ctx)(u:bc)(e:Ending)(w:bx):Prop:=e=.panicked (zX u)/\Ql C [] [] w
def Ku (P:da)(f:FuncId)(args:aq bc)(Φ U:aq Fact)(u:bc):Prop:=
 ∀ (F:eL) (N:Nat->eL) (w:bx),(∀k,F k->k<w.heap.size)->(∀φ∈Φ,φ.p F w)->(∀(i:Nat) (h:Fact),U[i]? =some h->h.op (N i) F w)->
   (∀i k,i<U.length->N i k->k<w.heap.size/\¬F k)->(∀i j k,i<U.length->j<U.length->i≠j->N i k->¬N j k)->
   Calls P f args.toArray w (Vc ⟨w,λk=>∃i,i<U.length/\N i k,F⟩ u)
theorem CN {P:da} {f:FuncId} {fn:Func} {body:Code} {n:Nat} {args:aq bc} {S:aq (Nat×bc)} {Φ iE:aq Fact} {R:bc->aq Fact->aq Fact->Prop}
  (hf:P.funcs[f]? =some fn) (hb:fn.body=some body) (hn:fn.ntmps=n) (hle:Nat.ble args.length n=true) (hS:xh 0 args=S) (h:∀C,WC P C ⟨n,[]⟩ (bodyPostD P fn (sf C R)) Φ iE S body):QF P f args Φ iE R:=by
 intro F N w hF eN hH cj qi;refine calls_of_wp_defers hf hb (h ⟨w,λk=>∃i,i<iE.length/\N i k,F⟩ _ w ⟨?_,rfl,?_⟩ ⟨F,N,hF,λ_ h=>h,λ_ h=>.inl h,eN,hH,λi k hi hk=>⟨(cj i k hi hk).1,.inr ⟨i,hi,hk⟩,(cj i k hi hk).2⟩,qi,Mod.refl _ _⟩)
 ·have:=z' hle;simp[hn];try omega
 ·intro x hx;rw[<-hS]at hx;obtain⟨_,U⟩:=Qdt hx;rw[d!]at U;have hl:=(d'.1 U).1;rw[i' (du hl)];simpa using U
section
variable {P:da} {C:Ctx} {n:FD} {Q:Exit->Act->bx->Prop} {Φ Φ':aq Fact} {H H':aq Fact} {S S':aq (Nat×bc)} {ops:Array Oper} {rest:aq Oper} {o:Oper} {d:Nat}
variable {f:FuncId}{u v:bc}{fn:Func}{m:Nat}{x:bw}{fe:Array bc}{ch:aq PanicEntry}{t:TypeId}{args:aq bc}{Φf Hf:aq Fact}{ts:Array TypeId}{R:Ending->bx->Prop}
theorem Jx {K:Act->bx->Prop} (h:WE C n Q Φ H S (.panic ch)):WE C n (Exit.then K Q) Φ H S (.panic ch):=h
theorem P2 {id:Nat} (h:WE C n Q Φ H S (.panic ch)):WE C n (Exit.inBlock id Q) Φ H S (.panic ch):=h
theorem Ql.nada {w:bx} (h:Ql C Φ H w):Ql C [] [] w:=by
 have h1:=h.pick [] rfl;exact(h1:Ql C Φ (QP H []) w).sub λφ U=>by cases U
theorem Ql.blk1 {w:bx} (h:Ql C Φ H w)(k:Nat) {g t:Nat} {a:bc} (hk:H[k]? =some (.blk g [a] t)):∃a t,w.heap[g]? =some (.cells #[a] t):=by
 obtain⟨F,N,hi⟩:=h;exact⟨a,t,(hi.owns k _ hk).2⟩
theorem QdF:WE C ⟨m,[]⟩ (bodyPost P fn (Vc C u)) Φ H S (.panic (zX u)):=λ_ _ U hw=>⟨U.defers,rfl,hw.nada⟩
def MN (P:da)(t:TypeId):Bool:=match P.underlying t with
 |some (.interface _)=>false
 |some _=>true
 |none=>false
theorem Qaj (hg:QM ops S o=some true)(hd:o.dst=some d)(hn:c! d n=true)(hS:fk d S=S')(ho:o.op=.makeInterface t x)(hx:dy S x=some v)(U:MN P t=true)
  (next:WL P C n Q Φ H ((d,.iface t v)::S') ops rest):WL P C n Q Φ H S ops (o::rest):=
 JQ hg hd hn hS (λa w hf _=>by
  unfold MN at U;unfold execOp;simp only[ho,hf.eval hx,Instr.makeInterface,Sem.run_bind];split at U;· cases U
  ·rename_i u ep hu;simp only[run_underlying hu,Result.andThen_ok];rfl
  · cases U) next
theorem O2 (hg:QM ops S o=some true)(ho:o.op=.panic x)(hx:dy S x=some (.iface t v))
  (next:WE C n Q Φ H S (.panic (zX (.iface t v)))):WL P C n Q Φ H S ops (o::rest):=by
 intro a w U hw;refine wpList_step λK hK=>?_
 rw[Ef U hg,if_pos rfl];unfold Oper.wp
 have eX:(execOp a.eval o).run P w=.halt (.panic (.iface t v)) w:=by
  unfold execOp;simp only[ho,U.eval hx,Instr.panic];rfl
 rw[eX,Oper.upon_panic];exact next a w U hw
theorem a05 (l m:aq Nat)(hg:QM ops S o=some true)
  (hr:∀a w,gm n S a->(execOp a.eval o).run P w=.ok (.enter f args.toArray) w)
  (hH:QP H l=Hf) (spec:Ku P f args Φf Hf u) (eN:∀F w,(∀ψ∈Φ,ψ.p F w)->∀φ∈Φf,φ.p F w) (hl:fR (l++m) H.length=true) (hm:QP H m=H')
  (next:WE C n Q Φ H' S (.panic (zX u))):WL P C n Q Φ H S ops (o::rest):=by
 subst hH;subst hm;intro a w U ⟨F,N,hi⟩
 have jx:fR l H.length=true:=by
  clear spec next
  have:∀(l:aq Nat),fR (l++m) H.length=true->fR l H.length=true:=by
   intro l;induction l with
   |nil=>intro _;rfl
   | cons i l ih=>
     intro h;simp only[List.cons_append,fR,N',Bool.not_eq_true',List.any_append,Bool.or_eq_false_iff]at h⊢;exact⟨⟨h.1.1,h.1.2.1⟩,ih h.2⟩
  exact this l hl
 have hp:=hi.pick l jx;have eS:=spec F _ w hi.flt (λφ bs=>eN F w hi.facts φ bs) hp.owns (λi k iW hk=>⟨(hp.nlt i k iW hk).1,(hp.nlt i k iW hk).2.2⟩) hp.apart;refine wpList_step λK hK=>?_;rw[Ef U hg,if_pos rfl];unfold Oper.wp;rw[hr a w U,Oper.upon_enter];refine eS.mono ?_;rintro e w' ⟨rfl,hh⟩;have h2:=hi.after hl hh;simp only[W']at h2;exact next a w' U h2
theorem Qds {xs:Array bw} (l m:aq Nat)(hg:QM ops S o=some true)
  (ho:o.op=.call {callee:=.value (.func f),args:=xs,argTypes:=ts}) (hx:um S xs.toList=some args) (ja:dq P f=true)
  (hH:QP H l=Hf) (spec:Ku P f args Φf Hf u) (eN:∀F w,(∀ψ∈Φ,ψ.p F w)->∀φ∈Φf,φ.p F w) (hl:fR (l++m) H.length=true) (hm:QP H m=H')
  (next:WE C n Q Φ H' S (.panic (zX u))):WL P C n Q Φ H S ops (o::rest):=
 a05 l m hg (λa w hf=>by
  have fO:xs.map a.eval=args.toArray:=by
   have:=hf.evalL hx;have h0:xs=xs.toList.toArray:=bh
   rw[<-this,h0,List.map_toArray]
  have U:a.eval (.func f)=.func (.func f) #[] #[]:=rfl
  have h2:(resolve a.eval {callee:=.value (.func f),args:=xs,argTypes:=ts} o.type).run P w=.ok {target:=.fn (.func f) #[],args:=args.toArray} w:=by
   simp[resolve,U,Deferred.ofValue,fO]
  unfold execOp;simp only[ho,Sem.run_bind,h2,Result.andThen_ok];simp[invoke,Pr ja]) hH spec eN hl hm next
theorem Dq {k:Nat} {y:bw} (hg:QM ops S o=some true)(ho:o.op=.defer {callee:=.value y,args:=#[],argTypes:=ts})(hd:o.dst=none)
  (hy:dy S y=some (.func (.func f) #[] fe)) (next:WL P C ⟨k,[{target:=.fn (.func f) fe,args:=#[]}]⟩ Q Φ H S ops rest):WL P C ⟨k,[]⟩ Q Φ H S ops (o::rest):=by
 intro a w U hw;refine wpList_step λK hK=>?_
 rw[Ef U hg,if_pos rfl];unfold Oper.wp
 have eX:(execOp a.eval o).run P w=.ok (.defer {target:=.fn (.func f) fe,args:=#[]}) w:=by
  unfold execOp;simp[ho,resolve,U.eval hy,Deferred.ofValue]
 rw[eX,Oper.upon_defer,hd];exact hK _ _ (next _ w ⟨U.size,by simp[Act.put,U.defers],U.at_⟩ hw)
def Idle (P:da)(f:FuncId)(args:Array bc):Prop:=∀w,CallsD P f args .returning w λe U w'=>e=.returned (.tuple #[])/\U=.returning/\w'=w
theorem HK {e:Exit} (ja:dq P f=true)(hI:Idle P f fe)(he:e=.ret\/e=.normal)
  (h:WE C ⟨m,[]⟩ (bodyPost P fn R) Φ H S e):WE C ⟨m,[{target:=.fn (.func f) fe,args:=#[]}]⟩ (bodyPostD P fn R) Φ H S e:=by
 intro a w U hw
 have h1:bodyPost P fn R .ret {a with defers:=[]} w:=by
  have:=h {a with defers:=[]} w ⟨U.size,rfl,U.at_⟩ hw;rcases he with rfl|rfl<;>exact this
 have h2:Leaves P fn a.tmps R a.defers .returning w:=by
  rw[U.defers];refine leaves_cons (f:=f) (args:=fe) bh (by simp[invoke,Pr ja]) ?_;refine(hI w).mono ?_;rintro e u' w' ⟨rfl,rfl,rfl⟩;obtain⟨_,v,hv,hR⟩:=h1;exact⟨v,hv,hR⟩
 rcases he with rfl|rfl<;>exact h2
def Be (P:da)(f:FuncId)(args:Array bc)(u:bc)(W:bx->bx->Prop):Prop:=
 ∀w U,W w U->CallsD P f args (.panicking (zX u)) w λe u' w'=>e=.returned (.tuple #[])/\u'=.panicking [{v:=u,recovered:=true}]/\w'=U
theorem vU {W:bx->bx->Prop} (ja:dq P f=true)(hI:Be P f fe u W)
  (hW:∀w,Ql C Φ H w->∃U,W w U/\Ql C Φ' H' U)
  (h:WE C ⟨m,[]⟩ (bodyPost P fn R) Φ' H' S .ret):WE C ⟨m,[{target:=.fn (.func f) fe,args:=#[]}]⟩ (bodyPostD P fn R) Φ H S (.panic (zX u)):=by
 intro a w hf hw;obtain⟨U,h1,h2⟩:=hW w hw;have h3:bodyPost P fn R .ret {a with defers:=[]} U:=h {a with defers:=[]} U ⟨hf.size,rfl,hf.at_⟩ h2;show Leaves P fn a.tmps R a.defers (.panicking (zX u)) w;rw[hf.defers];refine leaves_cons (f:=f) (args:=fe) bh (by simp[invoke,Pr ja]) ?_;refine(hI w U h1).mono ?_;rintro e u' w' ⟨rfl,rfl,rfl⟩;obtain⟨_,v,hv,hR⟩:=h3;exact⟨v,hv,hR⟩
theorem G8 {α:Type} {t e sz jN g tb:Nat} {s:bw} {R:fc α} {p:bf Addr} {z:bc} {l:aq α} {cs:aq bc} {c cp cc:Nat} (l2:aq α)(k j:Nat)(hg:QM ops S o=some true)(hd:o.dst=some d)(hn:c! d n=true)(hS:fk d S=S')
  (ho:o.op=.call {callee:=.builtin .append,args:=#[s,x],argTypes:=#[t,t]}) (bs:Φ[k]? =some (.sli sz R p c l)) (hs:dy S s=some (.slice p l.length cc)) (hcc:cc<=l.length) (iO:H[j]? =some (.blk g cs tb)) (hx:dy S x=some (.slice (some ⟨g,0,none⟩) l2.length cp))
  (kY:∀F w,(∀ψ∈Φ,ψ.p F w)->fD sz (R.p F w) cs l2) (iM:0<l2.length)
  (he:gG P t=some e) (hr:j0 P e=some (z,sz,jN)) (tj:Nat.beq z.cells.size sz=true) (iR:c! 0 sz=true) (Iw:l.length+l2.length<=9223372036854775807) (Iz:(l.length+l2.length)*jN<=140737488355328)
  (next:∀p' c',WL P C n Q Φ (.own e sz R (.slice p' (l++l2).length c') (l++l2)::H) ((d,.slice p' (l++l2).length c')::S') ops rest):WL P C n Q Φ H S ops (o::rest):=by
 refine xl hg hd hn hS λa w hf hw=>?_;obtain⟨F,N,hi⟩:=hw;obtain⟨p1,n1,c1,xs,e1,e2,_,_,a0E,fl⟩:=(hi.facts _ (gv bs):xr F w sz (R.p F w) (.slice p l.length c) l)
 cases e1;have Fo:=kY F w hi.facts;have iJ:=Zn (hi.owns j _ iO).2;obtain⟨i,lV,hz,kC,hU⟩:=Zs hr;have Ry:=Nat.eq_of_beq_eq_true tj;have a1a:=z' iR;subst kC;subst hU;have xW:∀j u,cs[j]? =some u->w.cell? ((⟨g,0,none⟩:Addr).add j)=some u:=λj u hj=>by rw[z6];exact iJ j u hj
 have H5:xs.length=l.length*i.size:=a0E.length;have AO:cs.length=l2.length*i.size:=Fo.length;have hM:l.length+l2.length<=maxLen:=by unfold maxLen;exact Iw
 have grown:∀(old:Nat),old<l.length+l2.length->
    (w.drew.alloc (.cells (xs.toArray++cs.toArray++Builtin.zeroCells z.cells (grownCap w (l.length+l2.length) old e-(l.length+l2.length))) e)).ownsRow 0 e i.size
     (.slice (some ⟨w.heap.size,0,none⟩) (l.length+l2.length) (grownCap w (l.length+l2.length) old e)) (l.length+l2.length) (xs++cs)/\
    w.grownBy (w.drew.alloc (.cells (xs.toArray++cs.toArray++Builtin.zeroCells z.cells (grownCap w (l.length+l2.length) old e-(l.length+l2.length))) e)) none:=by
  intro old hold;have pN:=grownCap_ge w (l.length+l2.length) old e;have kb:grownCap w (l.length+l2.length) old e<=maxLen:=grownCap_le_maxLen w (l.length+l2.length) old e hM;have hlen:(xs++cs).length=(l.length+l2.length)*i.size:=by rw[E',H5,AO,j!]
  refine⟨⟨hlen,.inr ⟨w.heap.size,_,_,rfl,Q' _,heap_alloc_new w.drew _,pN,kb,?_,?_⟩⟩,⟨rfl,rfl,rfl,bh,λk hk _=>Go.heap_alloc_old w.drew _ (show k<w.drew.heap.size from hk)⟩⟩
  · simp only[Array.size_append,List.size_toArray,size_zeroCells,Ry,H5,AO,<-j!];congr 1;omega
  · simp only[Array.toList_append,K'];rw[<-K',<-hlen];exact List.take_left
 have eX:∃v' U,(Builtin.append_ #[t,t] o.type #[.slice p l.length cc,.slice (some ⟨g,0,none⟩) l2.length cp]).run P w=.ok v' U/\U.ownsRow 0 e i.size v' (l.length+l2.length) (xs++cs)/\v'.ownBlock=some w.heap.size/\w.grownBy U none:=by
  cases p with
  | none=>
    have h0:l.length=0:=Nat.eq_zero_of_not_pos λh=>by obtain⟨b,off,hb,_⟩:=fl h;cases hb
    have hx0:xs=[]:=List.eq_nil_of_length_eq_zero (by rw[H5,h0,e!]);have hr:=run_append_nil (P:=P) w t o.type e i z (r5 he) lV hz ⟨g,0,none⟩ l2.length cp cs AO xW au au (by have hb:=Iz;rw[h0,g!]at hb;omega);have X4:=grown 0 au;obtain rfl:cc=0:=au
    rw[hx0,h0]at X4⊢;simp only[g!,W',Array.empty_append]at X4⊢;exact⟨_,_,hr,X4.1,rfl,X4.2⟩
  | some b=>
    have holds:∀j u,xs[j]? =some u->w.cell? (b.add j)=some u:=λj u hj=>by
     have a0Y:0<l.length:=Nat.pos_of_ne_zero λh0=>by
      have:=(d'.1 hj).1;rw[H5,h0,e!]at this;exact absurd this (Nat.not_lt_zero _)
     obtain⟨b',off,hb,_,hc⟩:=fl a0Y;cases hb;rw[z6];exact hc j u hj
    have hr:=run_append_grow (P:=P) w t o.type e i z (r5 he) lV hz b l.length cc xs H5 holds ⟨g,0,none⟩ l2.length cp cs AO xW au au (growslice_fits au Iz);have X4:=grown cc au;exact⟨_,_,hr,X4.1,rfl,X4.2⟩
 obtain⟨v',U,eX,Mg,hb,fP⟩:=eX;have hB:Below w.heap.size w U:=⟨fP.os,fP.tape,fP.output,fP.size,λk hk=>fP.block k hk bh⟩
 have hF:fX F w U:=λq hq=>hB.block q (hi.flt q hq);have R9:mx 0 e i.size (R.p F U) (l++l2) v' U:=⟨xs++cs,by simpa using Mg,(a0E.append Fo).mono λcs y _ h=>R.good (λ_ h=>h) hF h⟩
 have uJ:=R9.lt;obtain⟨p',n',c',rfl⟩:=R9.shape;obtain rfl:=R9.len;refine⟨_,U,by simp[execOp,ho,resolve,invoke,builtin,hf.eval hs,hf.eval hx,eX],Φ,_,⟨F,_,(hi.grow hB).push (.own e i.size R (.slice p' (l++l2).length c') (l++l2)) (λq=>q=w.heap.size) ⟨λq hq=>?_,R9⟩ ?_ ?_⟩,next p' c'⟩;· rw[hb]at hq;exact(Option.some.inj hq).symm
 ·rintro q rfl;exact⟨(uJ _ hb).2,.inl hi.mod.size,λhf=>b! _ (hi.flt _ hf)⟩
 ·rintro i q hl rfl hn;exact b! _ (hi.nlt i _ hl hn).1
end
variable {t t0 g:Nat}{x y:bw}{a0 v:bc}{w:bx}
theorem FL {P:da} {ρ:bw->bc} {o:Oper} (ho:o.op=.store t x y)(hx:ρ x=.pointer (some ⟨g,0,none⟩))(hy:ρ y=v)(U:v.cells.toList=[v])(hs:QV P t=some 1)(h1:v.oneCell'=true)
  (hc:w.heap[g]? =some (.cells #[a0] t0)):(execOp ρ o).run P w=.ok .skip (DF w g 0 [v]):=by
 have:=YW (P:=P) [v] [a0] 0 0 w hc bh (λu hu=>by obtain rfl:=o'.1 hu;exact h1);have iR:v.cells.size=1:=by rw[<-Array.length_toList,U];rfl
 simp only[execOp,ho,hx,hy,Instr.storeAt,Instr.sureAddr,storeVar,Sem.run_bind,Sem.run_pure,Result.andThen_ok,w7 hs,iR,U];simp[this]
theorem Ju {P:da} {Q:Exit->Act->aq Frame->bx->Prop} {a:Act} {cs:aq Frame} {id:Nat} {o:Oper} (hg:o.guard=none)(hd:o.dst=none)(ho:o.op=.store t x y)(hx:a.eval x=.pointer (some ⟨g,0,none⟩))(hy:a.eval y=v)(hv:v.cells.toList=[v])(hs:QV P t=some 1)(h1:v.oneCell'=true)
  (hc:w.heap[g]? =some (.cells #[a0] t0)) (h:Q .normal a cs (DF w g 0 [v])):(Code.region id #[o] false).wpS P Q a cs w:=by
 apply wpS_region;have U:=FL (P:=P) ho hx hy hv hs h1 hc;have hw:Region.wanted o (yielded #[o] a.tmps)=true:=by simp[Region.wanted,hg]
 show wpOpsS P #[o] Q [0] a cs w;simp only[wpOpsS,List.getElem?_toArray,List.getElem?_cons_zero,hw,if_true,U,Oper.upon,hd];exact h
end
end Go.Proofs.YtocfkfhdcnjklaaGreatDoor
