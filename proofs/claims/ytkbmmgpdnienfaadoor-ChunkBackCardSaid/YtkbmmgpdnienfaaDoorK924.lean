/- Part 24 of the proof of chunkBack_card: its words, walks and plain laws, one text behind the other. -/
import Derived.Test.YtkbmmgpdnienfaaDoorK919
import Derived.Test.YtkbmmgpdnienfaaDoorK923
import Derived.Test.YtkbmmgpdnienfaaDoorK96
set_option linter.unusedVariables false
set_option linter.unusedSimpArgs false
namespace Go.Proofs.YtkbmmgpdnienfaaDoor.P
open Go.RowKit Go.Proofs.YtkbmmgpdnienfaaDoorW.PrintWords Go.Proofs.YtkbmmgpdnienfaaDoorW.PrintLast Go.Proofs.YtkbmmgpdnienfaaDoorW.PrintMore
attribute [local go_sem] Oper.semAt_some
def DecL (W : World) (lo g : Nat) (A : Option Addr) (c : Nat) (B : List Int) (l : List Int) (e : Int) : Prop := ∃ at_, DecR W lo g A c B at_ e ∧ B.drop at_ = l
structure FRd (w : World) (lo g : Nat) (A : Option Addr) (c : Nat) (B : List Int) (v : Value) (out : List S88) (l : List Int) (e : Int) (W : World) : Prop where
  dec : DecL W lo g A c B l e
  row : Kd.R k88 88 W w.heap.size (fun _ => True) v out
  kp : KpW (fun i => i = g) w W
  lt : g < w.heap.size
theorem textS_size (l : List Int) (e : Int) : (textS l e).1.size ≤ 65536 := by
  unfold textS
  split
  · exact Nat.zero_le _
  · split
    · exact Nat.zero_le _
    · split
      · exact Nat.zero_le _
      · show (strOfNums _).size ≤ _
        rw [strOfNums_size, List.length_take]
        omega
end Go.Proofs.YtkbmmgpdnienfaaDoor.P
