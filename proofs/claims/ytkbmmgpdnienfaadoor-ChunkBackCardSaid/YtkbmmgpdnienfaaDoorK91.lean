/- Part 1 of the proof of chunkBack_card: its words, walks and plain laws, one text behind the other. -/
import Derived.Test.YtkbmmgpdnienfaaDoorProg
import Derived.Shelf.Unicode.DecodeSlow
import Derived.Below
import Derived.RowKit
set_option linter.unusedVariables false
set_option linter.unusedSimpArgs false
namespace Go.Proofs.YtkbmmgpdnienfaaDoor.P
open Go.RowKit
def Laid (w : World) : Prop := Lib.Utf8Tabs 1 2 w
theorem laid_below {w w1 : World} (h : Laid w) (hb : Below w.heap.size w w1) : Laid w1 := Utf8Tabs_below h hb
theorem bytesLess_or : ∀ a b : List UInt8, (Op.bytesLess a b || a == b) = !(Op.bytesLess b a)
  | [], [] => rfl
  | [], _ :: _ => rfl
  | _ :: _, [] => rfl
  | x :: a, y :: b => by
    have ih := bytesLess_or a b
    simp only [Op.bytesLess, List.cons_beq_cons]
    by_cases h : x = y
    · subst h
      have hx : ¬ x < x := UInt8.lt_irrefl x
      simp only [decide_eq_false hx, BEq.rfl, Bool.true_and, Bool.false_or, ih]
    · have h1 : (x == y) = false := by simp [h]
      have h2 : (y == x) = false := by simp [Ne.symm h]
      rw [h1, h2]
      simp only [Bool.false_and, Bool.or_false]
      by_cases hl : x < y
      · have : ¬ y < x := UInt8.lt_asymm hl
        simp [hl, this]
      · have : y < x := by
          rcases UInt8.lt_or_lt_of_ne h with h' | h'
          · exact absurd h' hl
          · exact h'
        simp [hl, this]
@[go_sem] theorem str_leq (t : TypeId) (a b : ByteArray) : binOp .leq t (.string a) (.string b) = pure (.bool !(Op.bytesLess b.toList a.toList)) := by rw [← bytesLess_or]; simp [binOp, Op.stringOp]
@[go_sem] theorem str_gtr (t : TypeId) (a b : ByteArray) : binOp .gtr t (.string a) (.string b) = pure (.bool (Op.bytesLess b.toList a.toList)) := by
  have h := bytesLess_or a.toList b.toList
  have h2 : Op.bytesLess b.toList a.toList = !(Op.bytesLess a.toList b.toList || a.toList == b.toList) := by rw [h, Bool.not_not]
  rw [h2]; simp [binOp, Op.stringOp]
@[go_sem] theorem str_geq (t : TypeId) (a b : ByteArray) : binOp .geq t (.string a) (.string b) = pure (.bool !(Op.bytesLess a.toList b.toList)) := by simp [binOp, Op.stringOp]
end Go.Proofs.YtkbmmgpdnienfaaDoor.P
