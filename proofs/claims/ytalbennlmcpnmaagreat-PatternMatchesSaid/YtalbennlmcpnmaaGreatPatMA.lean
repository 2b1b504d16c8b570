import Derived.Test.YtalbennlmcpnmaaGreatPatMQ
namespace Go.Proofs.YtalbennlmcpnmaaGreat
open Go Go.RowKit
theorem patmatch_arg {p q : Prop} (c : Api_CondD) (hc : ok_Api_CondD c) (f : FactD) (_ : ok_FactD f) (h : List Bool) (_ : p) (v : List V) (_ : q) : m_ropewalklaw10_PatternMatches 9223372036854778808 c.kind c.type c.args c.test.kind c.test.value.k c.test.value.n c.test.value.s c.test.var c.test.op c.test.kids f.id f.ty f.args h v = some true :=
  patmatch_is (Nat.le_refl _) pawake_is c.kind c.type c.args c.test f.id f.ty f.args h v (by
    have := ok_kids hc.2.2.2
    exact ⟨this.2, this.1⟩)
end Go.Proofs.YtalbennlmcpnmaaGreat
