import Derived.Test.YtocfkfhdcnjklaaGreatDoorSq
import Derived.Shelf.SlIterI.Nil
import Derived.Shelf.SlMaps.Clone
import Derived.Ground.GgzProg
import Derived.Ground.SlmcProg
open Option renaming map->a'
open Prod renaming fst->b'
namespace Go.Proofs.YtocfkfhdcnjklaaGreatDoor
section
open Go Go.RowKit
abbrev pp (a:Nat):bc:=.pointer (some ⟨a,0,none⟩)
abbrev RP (Q:Qe->Prop) (v:bc) (bz Hr:aq Fact):Prop:=∃U,Q U/\v=.tuple #[]/\bz=[]/\Hr=[Qh gg U]
section
variable {P:da} {C:Ctx} {n:FD} {Q:Exit->Act->bx->Prop} {Φ H H' T:aq Fact} {S:aq (Nat×bc)} {ops:Array Oper} {rest:aq Oper} {c:Code} {e:Exit} {s:Qe} {a:Nat}
theorem AJ {x:gP} (k:Nat)(hk:H[k]? =some (Qh gg s))(hs:s a=some (.net x))(T:aq Fact)(U:H.set k (Qh gg (del s a))=T)(next:∀r:bf Addr×Nat,WL P C n Q (E8 x r++Φ) (eH (iH (ie jS)).X true QH x.factsA x.facts::eH (JJ (Gi nq)).X false kp x.alphasA x.alphas::.own 108 1 kp (.slice x.rowsP x.rows.length x.rowsC) x.rows::.blk a [.slice r.1 x.types.length r.2,.slice x.rowsP x.rows.length x.rowsC,.map (some x.alphasA),.map (some x.factsA),.int .i64 (x.parts)] 85::T) S ops rest):WL P C n Q Φ H S ops rest:=Ki (gg:=gg) k hk hs rfl (λr=>eH (iH (ie jS)).X true QH x.factsA x.facts::eH (JJ (Gi nq)).X false kp x.alphasA x.alphas::.own 108 1 kp (.slice x.rowsP x.rows.length x.rowsC) x.rows::.blk a [.slice r.1 x.types.length r.2,.slice x.rowsP x.rows.length x.rowsC,.map (some x.alphasA),.map (some x.factsA),.int .i64 (x.parts)] 85::T) (λ_=>by rw[U];rfl) next
theorem tD {x:gP} (k:Nat)(hk:H[k]? =some (Qh gg s))(hs:s a=some (.net x))(T:aq Fact)(U:H.set k (Qh gg (del s a))=T)(next:∀r:bf Addr×Nat,WC P C n Q (E8 x r++Φ) (eH (iH (ie jS)).X true QH x.factsA x.facts::eH (JJ (Gi nq)).X false kp x.alphasA x.alphas::.own 108 1 kp (.slice x.rowsP x.rows.length x.rowsC) x.rows::.blk a [.slice r.1 x.types.length r.2,.slice x.rowsP x.rows.length x.rowsC,.map (some x.alphasA),.map (some x.factsA),.int .i64 (x.parts)] 85::T) S c):WC P C n Q Φ H S c:=UT (gg:=gg) k hk hs rfl (λr=>eH (iH (ie jS)).X true QH x.factsA x.facts::eH (JJ (Gi nq)).X false kp x.alphasA x.alphas::.own 108 1 kp (.slice x.rowsP x.rows.length x.rowsC) x.rows::.blk a [.slice r.1 x.types.length r.2,.slice x.rowsP x.rows.length x.rowsC,.map (some x.alphasA),.map (some x.factsA),.int .i64 (x.parts)] 85::T) (λ_=>by rw[U];rfl) next
theorem Tg {x:nQ} (k:Nat)(hk:H[k]? =some (Qh gg s))(hs:s a=some (.row x))(T:aq Fact)(U:H.set k (Qh gg (del s a))=T)(next:∀r:Unit,WL P C n Q (Ea x r++Φ) (eH gI false Qx x.wholeA x.whole::.own 213 1 Kp (.slice x.stepsP x.steps.length x.stepsC) x.steps::.blk a [.pointer (some ⟨x.net,0,none⟩),.slice x.stepsP x.steps.length x.stepsC,.map (some x.wholeA)] 112::T) S ops rest):WL P C n Q Φ H S ops rest:=Ki (gg:=gg) k hk hs rfl (λ_=>eH gI false Qx x.wholeA x.whole::.own 213 1 Kp (.slice x.stepsP x.steps.length x.stepsC) x.steps::.blk a [.pointer (some ⟨x.net,0,none⟩),.slice x.stepsP x.steps.length x.stepsC,.map (some x.wholeA)] 112::T) (λ_=>by rw[U];rfl) next
theorem AB {x:nQ} (k:Nat)(hk:H[k]? =some (Qh gg s))(hs:s a=some (.row x))(T:aq Fact)(U:H.set k (Qh gg (del s a))=T)(next:∀r:Unit,WC P C n Q (Ea x r++Φ) (eH gI false Qx x.wholeA x.whole::.own 213 1 Kp (.slice x.stepsP x.steps.length x.stepsC) x.steps::.blk a [.pointer (some ⟨x.net,0,none⟩),.slice x.stepsP x.steps.length x.stepsC,.map (some x.wholeA)] 112::T) S c):WC P C n Q Φ H S c:=UT (gg:=gg) k hk hs rfl (λ_=>eH gI false Qx x.wholeA x.whole::.own 213 1 Kp (.slice x.stepsP x.steps.length x.stepsC) x.steps::.blk a [.pointer (some ⟨x.net,0,none⟩),.slice x.stepsP x.steps.length x.stepsC,.map (some x.wholeA)] 112::T) (λ_=>by rw[U];rfl) next
theorem Ph {x:Ox} (k:Nat)(hk:H[k]? =some (Qh gg s))(hs:s a=some (.alpha x))(T:aq Fact)(U:H.set k (Qh gg (del s a))=T)(next:∀r:Unit,WL P C n Q (tJ x r++Φ) (eH (iH (ie jS)).X true QH x.factsA x.facts::.own 76 5 iA (.slice x.argsP x.args.length x.argsC) x.args::.blk a [.int .i64 (x.kind),.slice x.argsP x.args.length x.argsC,.map (some x.factsA)] 209::T) S ops rest):WL P C n Q Φ H S ops rest:=Ki (gg:=gg) k hk hs rfl (λ_=>eH (iH (ie jS)).X true QH x.factsA x.facts::.own 76 5 iA (.slice x.argsP x.args.length x.argsC) x.args::.blk a [.int .i64 (x.kind),.slice x.argsP x.args.length x.argsC,.map (some x.factsA)] 209::T) (λ_=>by rw[U];rfl) next
theorem QdD {x:Ox} (k:Nat)(hk:H[k]? =some (Qh gg s))(hs:s a=some (.alpha x))(T:aq Fact)(U:H.set k (Qh gg (del s a))=T)(next:∀r:Unit,WC P C n Q (tJ x r++Φ) (eH (iH (ie jS)).X true QH x.factsA x.facts::.own 76 5 iA (.slice x.argsP x.args.length x.argsC) x.args::.blk a [.int .i64 (x.kind),.slice x.argsP x.args.length x.argsC,.map (some x.factsA)] 209::T) S c):WC P C n Q Φ H S c:=UT (gg:=gg) k hk hs rfl (λ_=>eH (iH (ie jS)).X true QH x.factsA x.facts::.own 76 5 iA (.slice x.argsP x.args.length x.argsC) x.args::.blk a [.int .i64 (x.kind),.slice x.argsP x.args.length x.argsC,.map (some x.factsA)] 209::T) (λ_=>by rw[U];rfl) next
theorem UU {x:xm} (k:Nat)(hk:H[k]? =some (Qh gg s))(hs:s a=some (.join x))(T:aq Fact)(U:H.set k (Qh gg (del s a))=T)(next:∀r:(bf Addr×Nat)×(bf Addr×Nat),WL P C n Q (yT x r++Φ) (eH gI false Qx x.partsA x.parts::.blk a [.pointer (some ⟨x.alpha,0,none⟩),.pointer (some ⟨x.row,0,none⟩),.int .i64 (x.k),.int .u8 (x.cond.kind),.int .i64 (x.cond.type),.slice r.1.1 x.cond.args.length r.1.2,.int .u8 (x.cond.test.kind),.int .u8 (x.cond.test.value.k),.int .i64 (x.cond.test.value.n),.string x.cond.test.value.s,.int .i64 (x.cond.test.var),.int .u8 (x.cond.test.op),.slice r.2.1 x.cond.test.kids.length r.2.2,.map (some x.partsA)] 120::T) S ops rest):WL P C n Q Φ H S ops rest:=Ki (gg:=gg) k hk hs rfl (λr=>eH gI false Qx x.partsA x.parts::.blk a [.pointer (some ⟨x.alpha,0,none⟩),.pointer (some ⟨x.row,0,none⟩),.int .i64 (x.k),.int .u8 (x.cond.kind),.int .i64 (x.cond.type),.slice r.1.1 x.cond.args.length r.1.2,.int .u8 (x.cond.test.kind),.int .u8 (x.cond.test.value.k),.int .i64 (x.cond.test.value.n),.string x.cond.test.value.s,.int .i64 (x.cond.test.var),.int .u8 (x.cond.test.op),.slice r.2.1 x.cond.test.kids.length r.2.2,.map (some x.partsA)] 120::T) (λ_=>by rw[U];rfl) next
theorem vS {x:xm} (k:Nat)(hk:H[k]? =some (Qh gg s))(hs:s a=some (.join x))(T:aq Fact)(U:H.set k (Qh gg (del s a))=T)(next:∀r:(bf Addr×Nat)×(bf Addr×Nat),WC P C n Q (yT x r++Φ) (eH gI false Qx x.partsA x.parts::.blk a [.pointer (some ⟨x.alpha,0,none⟩),.pointer (some ⟨x.row,0,none⟩),.int .i64 (x.k),.int .u8 (x.cond.kind),.int .i64 (x.cond.type),.slice r.1.1 x.cond.args.length r.1.2,.int .u8 (x.cond.test.kind),.int .u8 (x.cond.test.value.k),.int .i64 (x.cond.test.value.n),.string x.cond.test.value.s,.int .i64 (x.cond.test.var),.int .u8 (x.cond.test.op),.slice r.2.1 x.cond.test.kids.length r.2.2,.map (some x.partsA)] 120::T) S c):WC P C n Q Φ H S c:=UT (gg:=gg) k hk hs rfl (λr=>eH gI false Qx x.partsA x.parts::.blk a [.pointer (some ⟨x.alpha,0,none⟩),.pointer (some ⟨x.row,0,none⟩),.int .i64 (x.k),.int .u8 (x.cond.kind),.int .i64 (x.cond.type),.slice r.1.1 x.cond.args.length r.1.2,.int .u8 (x.cond.test.kind),.int .u8 (x.cond.test.value.k),.int .i64 (x.cond.test.value.n),.string x.cond.test.value.s,.int .i64 (x.cond.test.var),.int .u8 (x.cond.test.op),.slice r.2.1 x.cond.test.kids.length r.2.2,.map (some x.partsA)] 120::T) (λ_=>by rw[U];rfl) next
theorem Tf {x:xm} (k:Nat)(hk:H[k]? =some (Qh gg s))(hs:s a=some (.nt x))(T:aq Fact)(U:H.set k (Qh gg (del s a))=T)(next:∀r:(bf Addr×Nat)×(bf Addr×Nat),WL P C n Q (E9 x r++Φ) (eH gI false Qx x.partsA x.parts::.blk a [.pointer (some ⟨x.alpha,0,none⟩),.pointer (some ⟨x.row,0,none⟩),.int .i64 (x.k),.int .u8 (x.cond.kind),.int .i64 (x.cond.type),.slice r.1.1 x.cond.args.length r.1.2,.int .u8 (x.cond.test.kind),.int .u8 (x.cond.test.value.k),.int .i64 (x.cond.test.value.n),.string x.cond.test.value.s,.int .i64 (x.cond.test.var),.int .u8 (x.cond.test.op),.slice r.2.1 x.cond.test.kids.length r.2.2,.map (some x.partsA)] 122::T) S ops rest):WL P C n Q Φ H S ops rest:=Ki (gg:=gg) k hk hs rfl (λr=>eH gI false Qx x.partsA x.parts::.blk a [.pointer (some ⟨x.alpha,0,none⟩),.pointer (some ⟨x.row,0,none⟩),.int .i64 (x.k),.int .u8 (x.cond.kind),.int .i64 (x.cond.type),.slice r.1.1 x.cond.args.length r.1.2,.int .u8 (x.cond.test.kind),.int .u8 (x.cond.test.value.k),.int .i64 (x.cond.test.value.n),.string x.cond.test.value.s,.int .i64 (x.cond.test.var),.int .u8 (x.cond.test.op),.slice r.2.1 x.cond.test.kids.length r.2.2,.map (some x.partsA)] 122::T) (λ_=>by rw[U];rfl) next
theorem AA {x:xm} (k:Nat)(hk:H[k]? =some (Qh gg s))(hs:s a=some (.nt x))(T:aq Fact)(U:H.set k (Qh gg (del s a))=T)(next:∀r:(bf Addr×Nat)×(bf Addr×Nat),WC P C n Q (E9 x r++Φ) (eH gI false Qx x.partsA x.parts::.blk a [.pointer (some ⟨x.alpha,0,none⟩),.pointer (some ⟨x.row,0,none⟩),.int .i64 (x.k),.int .u8 (x.cond.kind),.int .i64 (x.cond.type),.slice r.1.1 x.cond.args.length r.1.2,.int .u8 (x.cond.test.kind),.int .u8 (x.cond.test.value.k),.int .i64 (x.cond.test.value.n),.string x.cond.test.value.s,.int .i64 (x.cond.test.var),.int .u8 (x.cond.test.op),.slice r.2.1 x.cond.test.kids.length r.2.2,.map (some x.partsA)] 122::T) S c):WC P C n Q Φ H S c:=UT (gg:=gg) k hk hs rfl (λr=>eH gI false Qx x.partsA x.parts::.blk a [.pointer (some ⟨x.alpha,0,none⟩),.pointer (some ⟨x.row,0,none⟩),.int .i64 (x.k),.int .u8 (x.cond.kind),.int .i64 (x.cond.type),.slice r.1.1 x.cond.args.length r.1.2,.int .u8 (x.cond.test.kind),.int .u8 (x.cond.test.value.k),.int .i64 (x.cond.test.value.n),.string x.cond.test.value.s,.int .i64 (x.cond.test.var),.int .u8 (x.cond.test.op),.slice r.2.1 x.cond.test.kids.length r.2.2,.map (some x.partsA)] 122::T) (λ_=>by rw[U];rfl) next
theorem Dr {x:lP} (k:Nat)(hk:H[k]? =some (Qh gg s))(hs:s a=some (.test x))(T:aq Fact)(U:H.set k (Qh gg (del s a))=T)(next:∀r:(bf Addr×Nat)×(bf Addr×Nat),WL P C n Q (yV x r++Φ) (eH gI false Qx x.partsA x.parts::.blk a [.pointer (some ⟨x.row,0,none⟩),.int .i64 (x.k),.int .u8 (x.cond.kind),.int .i64 (x.cond.type),.slice r.1.1 x.cond.args.length r.1.2,.int .u8 (x.cond.test.kind),.int .u8 (x.cond.test.value.k),.int .i64 (x.cond.test.value.n),.string x.cond.test.value.s,.int .i64 (x.cond.test.var),.int .u8 (x.cond.test.op),.slice r.2.1 x.cond.test.kids.length r.2.2,.map (some x.partsA)] 125::T) S ops rest):WL P C n Q Φ H S ops rest:=Ki (gg:=gg) k hk hs rfl (λr=>eH gI false Qx x.partsA x.parts::.blk a [.pointer (some ⟨x.row,0,none⟩),.int .i64 (x.k),.int .u8 (x.cond.kind),.int .i64 (x.cond.type),.slice r.1.1 x.cond.args.length r.1.2,.int .u8 (x.cond.test.kind),.int .u8 (x.cond.test.value.k),.int .i64 (x.cond.test.value.n),.string x.cond.test.value.s,.int .i64 (x.cond.test.var),.int .u8 (x.cond.test.op),.slice r.2.1 x.cond.test.kids.length r.2.2,.map (some x.partsA)] 125::T) (λ_=>by rw[U];rfl) next
theorem Di {x:lP} (k:Nat)(hk:H[k]? =some (Qh gg s))(hs:s a=some (.test x))(T:aq Fact)(U:H.set k (Qh gg (del s a))=T)(next:∀r:(bf Addr×Nat)×(bf Addr×Nat),WC P C n Q (yV x r++Φ) (eH gI false Qx x.partsA x.parts::.blk a [.pointer (some ⟨x.row,0,none⟩),.int .i64 (x.k),.int .u8 (x.cond.kind),.int .i64 (x.cond.type),.slice r.1.1 x.cond.args.length r.1.2,.int .u8 (x.cond.test.kind),.int .u8 (x.cond.test.value.k),.int .i64 (x.cond.test.value.n),.string x.cond.test.value.s,.int .i64 (x.cond.test.var),.int .u8 (x.cond.test.op),.slice r.2.1 x.cond.test.kids.length r.2.2,.map (some x.partsA)] 125::T) S c):WC P C n Q Φ H S c:=UT (gg:=gg) k hk hs rfl (λr=>eH gI false Qx x.partsA x.parts::.blk a [.pointer (some ⟨x.row,0,none⟩),.int .i64 (x.k),.int .u8 (x.cond.kind),.int .i64 (x.cond.type),.slice r.1.1 x.cond.args.length r.1.2,.int .u8 (x.cond.test.kind),.int .u8 (x.cond.test.value.k),.int .i64 (x.cond.test.value.n),.string x.cond.test.value.s,.int .i64 (x.cond.test.var),.int .u8 (x.cond.test.op),.slice r.2.1 x.cond.test.kids.length r.2.2,.map (some x.partsA)] 125::T) (λ_=>by rw[U];rfl) next
theorem B7 {x:ji} (k:Nat)(hk:H[k]? =some (Qh gg s))(hs:s a=some (.part x))(T:aq Fact)(U:H.set k (Qh gg (del s a))=T)(next:∀r:(bf Addr×Nat)×(bf Addr×Nat),WL P C n Q (yU x r++Φ) (zZ x.blocks (λb m=>eH (iH (ie jS)).X false Qx b m)::eH gI false Qx x.kidsA x.kids::.blk a [.slice r.1.1 x.has.length r.1.2,.slice r.2.1 x.vals.length r.2.2,.pointer (a' pA x.up),.int .i64 (x.id),.map (some x.kidsA),.map (a' b' x.blocks)] 133::T) S ops rest):WL P C n Q Φ H S ops rest:=Ki (gg:=gg) k hk hs rfl (λr=>zZ x.blocks (λb m=>eH (iH (ie jS)).X false Qx b m)::eH gI false Qx x.kidsA x.kids::.blk a [.slice r.1.1 x.has.length r.1.2,.slice r.2.1 x.vals.length r.2.2,.pointer (a' pA x.up),.int .i64 (x.id),.map (some x.kidsA),.map (a' b' x.blocks)] 133::T) (λ_=>by rw[U];rfl) next
theorem US {x:ji} (k:Nat)(hk:H[k]? =some (Qh gg s))(hs:s a=some (.part x))(T:aq Fact)(U:H.set k (Qh gg (del s a))=T)(next:∀r:(bf Addr×Nat)×(bf Addr×Nat),WC P C n Q (yU x r++Φ) (zZ x.blocks (λb m=>eH (iH (ie jS)).X false Qx b m)::eH gI false Qx x.kidsA x.kids::.blk a [.slice r.1.1 x.has.length r.1.2,.slice r.2.1 x.vals.length r.2.2,.pointer (a' pA x.up),.int .i64 (x.id),.map (some x.kidsA),.map (a' b' x.blocks)] 133::T) S c):WC P C n Q Φ H S c:=UT (gg:=gg) k hk hs rfl (λr=>zZ x.blocks (λb m=>eH (iH (ie jS)).X false Qx b m)::eH gI false Qx x.kidsA x.kids::.blk a [.slice r.1.1 x.has.length r.1.2,.slice r.2.1 x.vals.length r.2.2,.pointer (a' pA x.up),.int .i64 (x.id),.map (some x.kidsA),.map (a' b' x.blocks)] 133::T) (λ_=>by rw[U];rfl) next
variable {α Λ:Type} {o:PO} {ty:Nat} {K:α->Λ->aq bc} {Fs:α->Λ->aq Fact} {x:α} {l H0:aq Fact} {cs:aq bc}
theorem mw (hs:s a=some o)(q:aq Nat)(k:Nat)(r:Λ)(hg:gg a o=rf a ty K Fs x::l)(hl:fR q H.length=true)(hp:QP H q=l.reverse++.blk a cs ty::H0)(hk:H0[k]? =some (Qh gg (del s a)))(U:cs=K x r)(hf:∀F w,(∀ψ∈Φ,ψ.p F w)->∀φ∈Fs x r,φ.p F w)(hH:H0.set k (Qh gg s)=H')(next:WL P C n Q Φ H' S ops rest):WL P C n Q Φ H S ops rest:=ZF q k r hg hl hp hk U hf (UH hs) hH λ_=>next
theorem AK (hs:s a=some o)(q:aq Nat)(k:Nat)(r:Λ)(hg:gg a o=rf a ty K Fs x::l)(hl:fR q H.length=true)(hp:QP H q=l.reverse++.blk a cs ty::H0)(hk:H0[k]? =some (Qh gg (del s a)))(U:cs=K x r)(hf:∀F w,(∀ψ∈Φ,ψ.p F w)->∀φ∈Fs x r,φ.p F w)(hH:H0.set k (Qh gg s)=H')(next:WC P C n Q Φ H' S c):WC P C n Q Φ H S c:=Dj q k r hg hl hp hk U hf (UH hs) hH λ_=>next
theorem im (hs:s a=some o)(q:aq Nat)(k:Nat)(r:Λ)(hg:gg a o=rf a ty K Fs x::l)(hl:fR q H.length=true)(hp:QP H q=l.reverse++.blk a cs ty::H0)(hk:H0[k]? =some (Qh gg (del s a)))(U:cs=K x r)(hf:∀F w,(∀ψ∈Φ,ψ.p F w)->∀φ∈Fs x r,φ.p F w)(hH:H0.set k (Qh gg s)=H')(next:WE C n Q Φ H' S e):WE C n Q Φ H S e:=Dp q k r hg hl hp hk U hf (UH hs) hH λ_=>next
end
section
variable {A R:Type} {P:Prop} {Q:R->Prop}
theorem j3 {o:bf A} {k:A->WM R} (h:QA o k Q)(n:∀a,o=some a->k a Q->P):P:=n _ (JF h).choose_spec.1 (JF h).choose_spec.2
theorem iI {c:Prop} {k:WM R} (h:fN c k Q)(n:c->k Q->P):P:=n (xR h).1 (xR h).2
theorem nI {x:A} {k:A->WM R} (h:j4 x k Q)(n:∀y,y=x->k y Q->P):P:=n x rfl (h x rfl)
theorem qn {f:A->WM R} {g:(A->WM R)->WM R} (h:lA f g Q)(n:∀k,k=f->g k Q->P):P:=n f rfl h
theorem loF {f:(A->WM R)->A->WM R} {N:Nat} {s:A} (h:jR f N s Q)(n:∀L,L=f->jR L N s Q->P):P:=n f rfl h
theorem zb {s:Qe} {a:Nat} {k:gP->WM R} (h:QA (gNet s a) k Q)(n:∀x,s a=some (.net x)->k x Q->P):P:=j3 h λx e=>n x (qd e)
theorem lX {s:Qe} {a:Nat} {k:nQ->WM R} (h:QA (gRow s a) k Q)(n:∀x,s a=some (.row x)->k x Q->P):P:=j3 h λx e=>n x (qe e)
theorem T6 {s:Qe} {a:Nat} {k:Ox->WM R} (h:QA (wa s a) k Q)(n:∀x,s a=some (.alpha x)->k x Q->P):P:=j3 h λx e=>n x (BH e)
theorem mS {s:Qe} {a:Nat} {k:xm->WM R} (h:QA (jo s a) k Q)(n:∀x,s a=some (.join x)->k x Q->P):P:=j3 h λx e=>n x (EW e)
theorem lW {s:Qe} {a:Nat} {k:xm->WM R} (h:QA (jq s a) k Q)(n:∀x,s a=some (.nt x)->k x Q->P):P:=j3 h λx e=>n x (Iv e)
theorem Fu {s:Qe} {a:Nat} {k:lP->WM R} (h:QA (ru s a) k Q)(n:∀x,s a=some (.test x)->k x Q->P):P:=j3 h λx e=>n x (EZ e)
theorem wu {s:Qe} {a:Nat} {k:ji->WM R} (h:QA (gPart s a) k Q)(n:∀x,s a=some (.part x)->k x Q->P):P:=j3 h λx e=>n x (EY e)
end
section
variable {P:da} {C:Ctx} {n:FD} {Q:Exit->Act->bx->Prop} {Φ H H':aq Fact} {S:aq (Nat×bc)} {ops:Array Oper} {rest:aq Oper} {c:Code} {e:Exit} {s s':Qe} {a:Nat} {α Λ:Type} {o:PO} {ty:Nat} {K:α->Λ->aq bc} {Fs:α->Λ->aq Fact} {x:α} {l H0:aq Fact} {cs:aq bc}
theorem DQ (q:aq Nat)(k:Nat)(r:Λ)(hg:gg a o=rf a ty K Fs x::l)(hl:fR q H.length=true)(hp:QP H q=l.reverse++.blk a cs ty::H0)(hk:H0[k]? =some (Qh gg s))(U:cs=K x r)(hf:∀F w,(∀ψ∈Φ,ψ.p F w)->∀φ∈Fs x r,φ.p F w)(he:dp s a o=s')(hH:H0.set k (Qh gg s')=H')(next:s a=none->WL P C n Q Φ H' S ops rest):WL P C n Q Φ H S ops rest:=ZF q k r hg hl hp hk U hf he hH next
theorem yI (q:aq Nat)(k:Nat)(r:Λ)(hg:gg a o=rf a ty K Fs x::l)(hl:fR q H.length=true)(hp:QP H q=l.reverse++.blk a cs ty::H0)(hk:H0[k]? =some (Qh gg s))(U:cs=K x r)(hf:∀F w,(∀ψ∈Φ,ψ.p F w)->∀φ∈Fs x r,φ.p F w)(he:dp s a o=s')(hH:H0.set k (Qh gg s')=H')(next:s a=none->WC P C n Q Φ H' S c):WC P C n Q Φ H S c:=Dj q k r hg hl hp hk U hf he hH next
theorem DP (q:aq Nat)(k:Nat)(r:Λ)(hg:gg a o=rf a ty K Fs x::l)(hl:fR q H.length=true)(hp:QP H q=l.reverse++.blk a cs ty::H0)(hk:H0[k]? =some (Qh gg s))(U:cs=K x r)(hf:∀F w,(∀ψ∈Φ,ψ.p F w)->∀φ∈Fs x r,φ.p F w)(he:dp s a o=s')(hH:H0.set k (Qh gg s')=H')(next:s a=none->WE C n Q Φ H' S e):WE C n Q Φ H S e:=Dp q k r hg hl hp hk U hf he hH next
end
section
variable {P:da} {C:Ctx} {n:FD} {Q:Exit->Act->bx->Prop} {Φ H:aq Fact} {S:aq (Nat×bc)} {c x y:Code} {σ τ R:Type}
variable {f:(τ->WM R)->τ->WM R}{Q':R->Prop}
def JW (K:σ->Prop×aq (Nat×bc)×aq Fact×aq Fact)(C:Ctx)(n:FD):Act->bx->Prop:=λa w=>∃s,pT (λs=>(K s).1) (λs=>(K s).2.1) (λs=>(K s).2.2.1) (λs=>(K s).2.2.2) C n s a w
theorem mD (K:σ->Prop×aq (Nat×bc)×aq Fact×aq Fact)(U:WC P C n (Exit.then (JW K C n) Q) Φ H S x)(hy:∀s,(K s).1->WC P C n Q (K s).2.2.1 (K s).2.2.2 (K s).2.1 y):WC P C n (Exit.then (λa w=>y.wp P Q a w) Q) Φ H S x:=nu _ _ _ _ U hy
theorem gR {K:σ->Prop×aq (Nat×bc)×aq Fact×aq Fact} (s:σ)(h:(K s).1)(l l2:aq Nat)(U:(iP l S,QP Φ l2,H)=(K s).2):WE C n (Exit.then (JW K C n) Q) Φ H S .normal:=
 Ei s h l (congrArg (·.1) U) (br l2 (congrArg (·.2.1) U)) (congrArg (·.2.2) U)
def LW (f:(τ->WM R)->τ->WM R)(Q':R->Prop)(K:σ->τ×aq (Nat×bc)×aq Fact×aq Fact)(m:Nat)(C:Ctx)(n:FD):Act->bx->Prop:=λa w=>∃s:Nat×σ,s.1<m+1/\pT (λs:Nat×σ=>jR f s.1 (K s.2).1 Q') (λs=>(K s.2).2.1) (λs=>(K s.2).2.2.1) (λs=>(K s.2).2.2.2) C n s a w
theorem DY {N:Nat} (K:σ->τ×aq (Nat×bc)×aq Fact×aq Fact)(s0:σ)(hm:jR f N (K s0).1 Q')(l l2:aq Nat)(U:(iP l S,QP Φ l2,H)=(K s0).2)
  (round:∀s m g,g=jR f m->f g (K s).1 Q'->WC P C n (Exit.then (LW f Q' K m C n) Q) (K s).2.2.1 (K s).2.2.2 (K s).2.1 c):WC P C n Q Φ H S (.loop c):=by
 refine UZ (σ:=Nat×σ) (λs=>jR f s.1 (K s.2).1 Q') (λs=>s.1) (λs=>(K s.2).2.1) (λs=>(K s.2).2.2.1) (λs=>(K s.2).2.2.2) (N,s0) hm l (congrArg (·.1) U) (br l2 (congrArg (·.2.1) U)) (congrArg (·.2.2) U) ?_;rintro⟨k,s⟩ hs;obtain⟨m,g,rfl,hg,hm⟩:=tm hs;exact round s m g hg hm
theorem AV {K:σ->τ×aq (Nat×bc)×aq Fact×aq Fact} {m:Nat} {g:τ->WM R} (s:σ)(hg:g=jR f m)(h:g (K s).1 Q')(l l2:aq Nat)(U:(iP l S,QP Φ l2,H)=(K s).2):WE C n (Exit.then (LW f Q' K m C n) Q) Φ H S .normal:=by
 subst hg;exact Pf (μ:=λs:Nat×σ=>s.1) (m,s) (Nat.lt_succ_self _) h l (congrArg (·.1) U) (br l2 (congrArg (·.2.1) U)) (congrArg (·.2.2) U)
end
end
end Go.Proofs.YtocfkfhdcnjklaaGreatDoor
namespace Go.Proofs
open Go.Shelf
theorem df{p:Prop}(h:p:=by kernel_rfl):p:=h
def Tryz.keysI_ren:Go.Shelf.Ren:=⟨λ|7=>410|10=>418|n=>n,λ|23=>83|26=>3|3=>40|28=>542|0=>0|27=>541|33=>323|4=>4|n=>n,λ|n=>n⟩
theorem Tryz.keysI:Go.Proofs.SlLaysZI.n7 Tryz.prog Tryz.keysI_ren:={
 mixed:=df
 f7:=⟨Tryz.f410.name,by decide,Tryz.func410.trans (congrArg some df)⟩
 f10:=⟨Tryz.f418.name,by decide,Tryz.func418.trans (congrArg some df)⟩
 t0:=Tryz.underlying0
 a0:=Tryz.isAgg0
 z0:=Tryz.sizeOf0
 v0:=Tryz.zeroValue0
 t4:=Tryz.underlying4
 a4:=Tryz.isAgg4
 z4:=Tryz.sizeOf4
 v4:=Tryz.zeroValue4
 t23:=Tryz.underlying83
 a23:=Tryz.isAgg83
 z23:=Tryz.sizeOf83
 v23:=Tryz.zeroValue83
 t26:=Tryz.underlying3
 a26:=Tryz.isAgg3
 z26:=Tryz.sizeOf3
 v26:=Tryz.zeroValue3
 t27:=Tryz.underlying541
 a27:=Tryz.isAgg541
 z27:=Tryz.sizeOf541
 v27:=Tryz.zeroValue541
 t28:=Tryz.underlying542
 a28:=Tryz.isAgg542
 z28:=Tryz.sizeOf542
 v28:=Tryz.zeroValue542
 t33:=Tryz.underlying323
 a33:=Tryz.isAgg323
 z33:=Tryz.sizeOf323
 v33:=Tryz.zeroValue323}
def Tryz.sortedI_ren:Go.Shelf.Ren:=⟨λ|6=>409|8=>416|9=>417|11=>419|13=>108|12=>420|23=>190|24=>191|14=>421|15=>422|16=>423|17=>424|18=>425|19=>426|20=>427|21=>428|22=>429|25=>430|26=>275|27=>276|28=>431|29=>432|30=>192|31=>433|n=>n,λ|26=>3|28=>542|24=>99|0=>0|3=>3|37=>230|48=>320|50=>322|4=>4|40=>314|39=>313|45=>142|5=>5|9=>9|51=>435|55=>439|57=>482|58=>483|33=>323|n=>n,λ|n=>n⟩
theorem Tryz.sortedI:Go.Proofs.SlLaysZI.n6 Tryz.prog Tryz.sortedI_ren:={
 mixed:=df
 f6:=⟨Tryz.f409.name,by decide,Tryz.func409.trans (congrArg some df)⟩
 f8:=⟨Tryz.f416.name,by decide,Tryz.func416.trans (congrArg some df)⟩
 f11:=⟨Tryz.f419.name,by decide,Tryz.func419.trans (congrArg some df)⟩
 t0:=Tryz.underlying0
 a0:=Tryz.isAgg0
 z0:=Tryz.sizeOf0
 v0:=Tryz.zeroValue0
 t24:=Tryz.underlying99
 a24:=Tryz.isAgg99
 z24:=Tryz.sizeOf99
 v24:=Tryz.zeroValue99
 t26:=Tryz.underlying3
 a26:=Tryz.isAgg3
 z26:=Tryz.sizeOf3
 v26:=Tryz.zeroValue3
 t28:=Tryz.underlying542
 a28:=Tryz.isAgg542
 z28:=Tryz.sizeOf542
 v28:=Tryz.zeroValue542
 i26:=by kernel_rfl}
def Tryz.sortI_ren:Go.Shelf.Ren:=⟨λ|5=>417|8=>108|7=>420|19=>190|20=>191|10=>421|11=>422|12=>423|13=>424|14=>425|15=>426|16=>427|17=>428|18=>429|30=>430|31=>275|32=>276|33=>431|34=>432|35=>192|40=>433|n=>n,λ|23=>99|25=>3|3=>3|32=>230|22=>99|0=>0|44=>320|46=>322|4=>4|36=>314|35=>313|41=>142|5=>5|9=>9|53=>435|57=>439|63=>482|64=>483|n=>n,λ|n=>n⟩
theorem Tryz.sortI:Go.Proofs.SlLaysM.n5 Tryz.prog Tryz.sortI_ren:={
 mixed:=df
 f5:=⟨Tryz.f417.name,by decide,Tryz.func417.trans (congrArg some df)⟩
 f7:=⟨Tryz.f420.name,by decide,Tryz.func420.trans (congrArg some df)⟩
 f8:=Tryz.func108.trans (congrArg some df)
 f10:=⟨Tryz.f421.name,by decide,Tryz.func421.trans (congrArg some df)⟩
 f11:=⟨Tryz.f422.name,by decide,Tryz.func422.trans (congrArg some df)⟩
 f12:=⟨Tryz.f423.name,by decide,Tryz.func423.trans (congrArg some df)⟩
 f13:=⟨Tryz.f424.name,by decide,Tryz.func424.trans (congrArg some df)⟩
 f14:=⟨Tryz.f425.name,by decide,Tryz.func425.trans (congrArg some df)⟩
 f15:=⟨Tryz.f426.name,by decide,Tryz.func426.trans (congrArg some df)⟩
 f16:=⟨Tryz.f427.name,by decide,Tryz.func427.trans (congrArg some df)⟩
 f17:=⟨Tryz.f428.name,by decide,Tryz.func428.trans (congrArg some df)⟩
 f18:=⟨Tryz.f429.name,by decide,Tryz.func429.trans (congrArg some df)⟩
 f19:=Tryz.func190.trans (congrArg some df)
 f20:=Tryz.func191.trans (congrArg some df)
 f30:=⟨Tryz.f430.name,by decide,Tryz.func430.trans (congrArg some df)⟩
 f31:=Tryz.func275.trans (congrArg some df)
 f32:=Tryz.func276.trans (congrArg some df)
 f33:=⟨Tryz.f431.name,by decide,Tryz.func431.trans (congrArg some df)⟩
 f34:=⟨Tryz.f432.name,by decide,Tryz.func432.trans (congrArg some df)⟩
 f35:=⟨Tryz.f192.name,by decide,Tryz.func192.trans (congrArg some df)⟩
 f40:=⟨Tryz.f433.name,by decide,Tryz.func433.trans (congrArg some df)⟩
 t0:=Tryz.underlying0
 a0:=Tryz.isAgg0
 z0:=Tryz.sizeOf0
 v0:=Tryz.zeroValue0
 t3:=Tryz.underlying3
 a3:=Tryz.isAgg3
 z3:=Tryz.sizeOf3
 v3:=Tryz.zeroValue3
 t4:=Tryz.underlying4
 a4:=Tryz.isAgg4
 z4:=Tryz.sizeOf4
 v4:=Tryz.zeroValue4
 t5:=Tryz.underlying5
 a5:=Tryz.isAgg5
 z5:=Tryz.sizeOf5
 v5:=Tryz.zeroValue5
 t9:=Tryz.underlying9
 a9:=Tryz.isAgg9
 z9:=Tryz.sizeOf9
 v9:=Tryz.zeroValue9
 t22:=Tryz.underlying99
 a22:=Tryz.isAgg99
 z22:=Tryz.sizeOf99
 v22:=Tryz.zeroValue99
 t23:=Tryz.underlying99
 a23:=Tryz.isAgg99
 z23:=Tryz.sizeOf99
 v23:=Tryz.zeroValue99
 t25:=Tryz.underlying3
 a25:=Tryz.isAgg3
 z25:=Tryz.sizeOf3
 v25:=Tryz.zeroValue3
 t32:=Tryz.underlying230
 a32:=Tryz.isAgg230
 z32:=Tryz.sizeOf230
 v32:=Tryz.zeroValue230
 t35:=Tryz.underlying313
 a35:=Tryz.isAgg313
 z35:=Tryz.sizeOf313
 v35:=Tryz.zeroValue313
 t36:=Tryz.underlying314
 a36:=Tryz.isAgg314
 z36:=Tryz.sizeOf314
 v36:=Tryz.zeroValue314
 t41:=Tryz.underlying142
 a41:=Tryz.isAgg142
 z41:=Tryz.sizeOf142
 v41:=Tryz.zeroValue142
 t44:=Tryz.underlying320
 a44:=Tryz.isAgg320
 z44:=Tryz.sizeOf320
 v44:=Tryz.zeroValue320
 t46:=Tryz.underlying322
 a46:=Tryz.isAgg322
 z46:=Tryz.sizeOf322
 v46:=Tryz.zeroValue322
 t53:=Tryz.underlying435
 a53:=Tryz.isAgg435
 z53:=Tryz.sizeOf435
 v53:=Tryz.zeroValue435
 t57:=Tryz.underlying439
 a57:=Tryz.isAgg439
 z57:=Tryz.sizeOf439
 v57:=Tryz.zeroValue439
 t63:=Tryz.underlying482
 a63:=Tryz.isAgg482
 z63:=Tryz.sizeOf482
 v63:=Tryz.zeroValue482
 t64:=Tryz.underlying483
 a64:=Tryz.isAgg483
 z64:=Tryz.sizeOf483
 v64:=Tryz.zeroValue483}
def Tryz.cloneM_ren:Go.Shelf.Ren:=⟨λ|5=>405|7=>412|n=>n,λ|23=>109|25=>127|3=>4|4=>4|20=>20|n=>n,λ|n=>n⟩
theorem Tryz.cloneM:Go.Proofs.SlLaysW.n5 Tryz.prog Tryz.cloneM_ren:={
 mixed:=df
 f5:=⟨Tryz.f405.name,by decide,Tryz.func405.trans (congrArg some df)⟩
 f7:=Tryz.func412.trans (congrArg some df)
 t4:=Tryz.underlying4
 a4:=Tryz.isAgg4
 z4:=Tryz.sizeOf4
 v4:=Tryz.zeroValue4
 t20:=Tryz.underlying20
 a20:=Tryz.isAgg20
 z20:=Tryz.sizeOf20
 v20:=Tryz.zeroValue20
 t23:=Tryz.underlying109
 a23:=Tryz.isAgg109
 z23:=Tryz.sizeOf109
 v23:=Tryz.zeroValue109}
open Go.RowKit Go.Maps Go.Sort in
theorem Tryz.sortsI (m:Nat):AnyZI.SortsIn Tryz.prog Tryz.sortedI_ren Fence.wide m:=
 ⟨λblk off cap ss W hH hblk U=>callsIn_wide.2 (AnyM.slices_Sort_int Tryz.sortI blk off cap ss W hH hblk U),
  λp cap W=>callsIn_wide.2 (AnyM.slices_Sort_int_none Tryz.sortI p cap W)⟩
open Go.RowKit Go.Maps Go.Sort in
theorem Tryz.keysI_at (U:Option Nat)(W:World):CallsIn Fence.wide 5 Tryz.prog 410 #[.map U] W λe w'=>e=.returned (.func (.func 418) #[] #[.pointer (some ⟨W.heap.size,0,none⟩)])/\w'=W.alloc (.cells #[.map U] 83):=
 AnyZI.keys_in Tryz.keysI Fence.wide 5 trivial rfl U W
open Go.RowKit Go.Maps Go.Sort in
theorem Tryz.sortedI_at {H:Type} (b nn:Nat)(D0:DataW H)(R:Value->Option (DataW H×List MemPlace))(W:World)(U:Nat)(hBm:U<W.heap.size)(hm:W.cell? ⟨U,0,none⟩=some (.map (some b)))(fU:W.ownsMap Tryz.prog 3 R b nn D0)(Xa:Maps.size D0<=maxLen)(hU:Maps.size D0*8<=140737488355328):
  CallsIn Fence.wide 5 Tryz.prog 409 #[.func (.func 418) #[] #[.pointer (some ⟨U,0,none⟩)]] W λe w'=>∃(v:Value) (ss:List Int),e=.returned v/\ss.Perm (intKeys D0)/\
   w'.ownsRow W.heap.size 3 1 v ss.length ((ss.mergeSort (λx y=>decide (x<=y))).map encZ)/\(v=.slice none 0 0↔ss=[])/\Below W.heap.size W w':=
 AnyZI.sorted_in Tryz.sortedI Fence.wide 5 trivial trivial trivial trivial rfl (by omega) (Tryz.sortsI _) (enters_of Tryz.func417 df rfl) 418 #[.pointer (some ⟨U,0,none⟩)] trivial (enters_of Tryz.func418 df rfl) _ _ Xa hU _
  (AnyZI.keys_gives (ρ:=Tryz.keysI_ren) {Tryz.keysI with} Fence.wide 2 trivial rfl (by omega) U b nn D0 W hBm hm fU)
open Go.RowKit Go.Maps in
theorem Tryz.cloneM_at (b:Nat)(es:Array MapEntry)(clock:Nat)(w:World)(U:w.heap[b]? =some (.map es clock)):Calls Tryz.prog 405 #[.map (some b)] w λe w'=>e=.returned (.map (some w.heap.size))/\w'=w.alloc (.map es clock):=AnyW.maps_Clone Tryz.cloneM b es clock w U
end Go.Proofs
namespace Go.Proofs.YtocfkfhdcnjklaaGreatDoor
end Go.Proofs.YtocfkfhdcnjklaaGreatDoor
