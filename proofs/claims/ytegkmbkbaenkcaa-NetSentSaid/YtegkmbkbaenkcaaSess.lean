import Derived.Test.YtegkmbkbaenkcaaLent
import Derived.Test.YtegkmbkbaenkcaaPatD
namespace Go.Proofs.Ytegkmbkbaenkcaa
open Go.RowKit
structure ReplyD where
  err : Int
  num : Int
  facts : List FactD
  said : List V
structure SessD where
  id : Int
  seq : Int
  r : ReplyD
def ReplyD.ok (x : ReplyD) : Prop := inI x.err ∧ inI x.num
def SessD.ok (x : SessD) : Prop := inI x.id ∧ inI x.seq ∧ x.r.ok
def ReplyD.small (x : ReplyD) : Prop := x.facts.length ≤ 1048576 ∧ x.said.length ≤ 1048576 ∧ ∀ f ∈ x.facts, f.args.length ≤ 1048576
end Go.Proofs.Ytegkmbkbaenkcaa
