/- Part 16 of the proof of chunkBack_card: its words, walks and plain laws, one text behind the other. -/
import Derived.WalkSpells
import Derived.Test.YtkbmmgpdnienfaaDoorK915
set_option linter.unusedVariables false
set_option linter.unusedSimpArgs false
namespace Go.Proofs.YtkbmmgpdnienfaaDoor.P
open Go.RowKit Go.Proofs.YtkbmmgpdnienfaaDoorW.PrintWords Go.Proofs.YtkbmmgpdnienfaaDoorW.PrintLast Go.Proofs.YtkbmmgpdnienfaaDoorW.PrintMore
attribute [local go_sem] Oper.semAt_some
def unzig1 (n : Int) : Int := if n % 2 = 1 then -(n / 2 + 1) else n / 2
def text1 (B : List Int) (at_ : Nat) (e : Int) : ByteArray × Nat × Int :=
  if (num1 B at_ e).2.2 ≠ 0 then (⟨#[]⟩, at_, (num1 B at_ e).2.2) else if 65536 < (num1 B at_ e).1 then (⟨#[]⟩, at_, 21) else if ((B.length - (num1 B at_ e).2.1 : Nat) : Int) < (num1 B at_ e).1 then (⟨#[]⟩, at_, 20)
  else (strOfNums ((B.drop (num1 B at_ e).2.1).take (num1 B at_ e).1.toNat), (num1 B at_ e).2.1 + (num1 B at_ e).1.toNat, 0)
end Go.Proofs.YtkbmmgpdnienfaaDoor.P
