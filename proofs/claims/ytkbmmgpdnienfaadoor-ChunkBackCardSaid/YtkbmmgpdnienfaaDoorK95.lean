/- Part 5 of the proof of chunkBack_card: its words, walks and plain laws, one text behind the other. -/
import Derived.Laws.StructEq
import Derived.Test.YtkbmmgpdnienfaaDoorK92
set_option linter.unusedVariables false
set_option linter.unusedSimpArgs false
namespace Go.Proofs.YtkbmmgpdnienfaaDoorW.PrintWords
open Go.RowKit
section
variable {P : Program} {d : Nat} {xs ys : Array Value} {f : Field} {fs : List Field} {a b : Value} {r s : Bool} {w : World}
end
end Go.Proofs.YtkbmmgpdnienfaaDoorW.PrintWords
