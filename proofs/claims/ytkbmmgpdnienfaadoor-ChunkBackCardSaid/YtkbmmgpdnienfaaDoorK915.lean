/- Part 15 of the proof of chunkBack_card: its words, walks and plain laws, one text behind the other. -/
import Derived.BigRegion
import Derived.Test.YtkbmmgpdnienfaaDoorK914
import Derived.Test.YtkbmmgpdnienfaaDoorK912
import Derived.Test.YtkbmmgpdnienfaaDoorK96
set_option linter.unusedVariables false
set_option linter.unusedSimpArgs false
namespace Go.Proofs.YtkbmmgpdnienfaaDoor.P
open Go.RowKit Go.Proofs.YtkbmmgpdnienfaaDoorW.PrintWords Go.Proofs.YtkbmmgpdnienfaaDoorW.PrintLast Go.Proofs.YtkbmmgpdnienfaaDoorW.PrintMore
attribute [local go_sem] Oper.semAt_some
structure DecR (W : World) (lo g : Nat) (A : Option Addr) (c : Nat) (B : List Int) (at_ : Nat) (e : Int) : Prop where
  blk : W.heap[g]? = some (.cells #[.slice A B.length c, .int .i64 at_, .int .i64 e] 119 (0, 0))
  hlo : lo ≤ g
  hcap : B.length ≤ c
  hF : Kd.F (Kd.int .u8) W (fun k => lo ≤ k ∧ k < g) A B.length B
  hat : at_ ≤ B.length
  hok : bytesOK B
  hlen : B.length ≤ 140737488355328
def doneD (B : List Int) (at_ : Nat) (e : Int) : Int := if e ≠ 0 then e else if at_ < B.length then 21 else 0
def num1 (B : List Int) (at_ : Nat) (e : Int) : Int × Nat × Int := if e ≠ 0 then (0, at_, e) else if (dnum (B.drop at_)).2.2 ≠ 0 then (0, at_, (dnum (B.drop at_)).2.2) else ((dnum (B.drop at_)).1, at_ + (dnum (B.drop at_)).2.1, 0)
end Go.Proofs.YtkbmmgpdnienfaaDoor.P
