/- Part 20 of the proof of chunkBack_card: its words, walks and plain laws, one text behind the other. -/
import Derived.Maps.Own
import Derived.Maps.OwnSet
import Derived.Test.YtkbmmgpdnienfaaDoorK96
set_option linter.unusedVariables false
set_option linter.unusedSimpArgs false
namespace Go.Proofs.YtkbmmgpdnienfaaDoor.P
open Go.RowKit Go.Proofs.YtkbmmgpdnienfaaDoorW.PrintWords Go.Maps
def W64 (x : Int) : Prop := -9223372036854775808 ≤ x ∧ x ≤ 9223372036854775807
theorem W64.wf {x : Int} (h : W64 x) : (Lit.int .i64 x).wf = true := WalkArith.wf_i64 h
def setD (xs : List Int) : DataW Unit := xs.foldl (fun D x => D.put (.int .i64 x) (.lit (.bool true))) (.map [])
def IsSet (w : World) (b : Nat) (xs : List Int) : Prop := (∀ x ∈ xs, W64 x) ∧ ∃ n, n ≤ xs.length ∧ w.ownsMap Tryd.prog 3 (plainElem (H := Unit) Tryd.prog 4) b n (setD xs)
theorem IsSet.made (w : World) : IsSet (w.alloc (.map #[] 0)) w.heap.size [] := ⟨by simp, 0, Nat.le_refl _, World.ownsMap_made w _ _ _⟩
theorem IsSet.grown {w w1 : World} {b : Nat} {xs : List Int} {row : Option Nat} (h : IsSet w b xs) (hg : w.grownBy w1 row) (hne : some b ≠ row) : IsSet w1 b xs := by
  obtain ⟨hw, n, hn, h⟩ := h
  exact ⟨hw, n, hn, h.kept hg hne⟩
theorem IsSet.same {w w1 : World} {b : Nat} {xs : List Int} (h : IsSet w b xs) (he : w1.heap[b]? = w.heap[b]?) : IsSet w1 b xs := by
  obtain ⟨hw, n, hn, es, clock, hb, r⟩ := h
  exact ⟨hw, n, hn, es, clock, he.trans hb, r⟩
theorem isKey (x : Int) : WideAt.IsKeyLit (.int .i64 x) := by simp [WideAt.IsKeyLit]
theorem isMap_setD (xs : List Int) : IsMap (setD xs) := by
  unfold setD
  generalize hD : (DataW.map [] : DataW Unit) = D
  have h0 : IsMap D := by rw [← hD]; exact isMap_empty
  clear hD
  induction xs generalizing D with
  | nil => exact h0
  | cons x xs ih => exact ih _ (h0.put _ _)
theorem setD_snoc (xs : List Int) (x : Int) : setD (xs ++ [x]) = (setD xs).put (.int .i64 x) (.lit (.bool true)) := by simp [setD]
theorem setD_at : ∀ (xs : List Int) (x : Int), (setD xs).atKey (.int .i64 x) (.lit (.bool false)) = .lit (.bool (xs.contains x)) := by
  intro xs x
  have key : ∀ (l : List Int), (setD l.reverse).atKey (.int .i64 x) (.lit (.bool false)) = .lit (.bool (l.contains x)) := by
    intro l
    induction l with
    | nil => rfl
    | cons y l ih =>
      rw [List.reverse_cons, setD_snoc]
      by_cases h : y = x
      · subst h
        rw [atKey_put_same (isMap_setD _) (isKey _)]
        simp
      · have hne : (Lit.int .i64 x) ≠ .int .i64 y := by intro e; cases e; exact h rfl
        rw [atKey_put_other hne, ih]
        have h2 : (x == y) = false := by simpa using Ne.symm h
        rw [List.contains_cons, h2, Bool.false_or]
  have := key xs.reverse
  rw [List.reverse_reverse] at this
  rw [this]
  simp
theorem plainElem_bool_inv {v : Value} {z : DataW Unit × List MemPlace} (h : plainElem Tryd.prog 4 v = some z) : ∃ a, v = .bool a ∧ z = (.lit (.bool a), []) := by
  have hu := Tryd.underlying4
  unfold plainElem at h
  generalize Tryd.prog.underlying 4 = u at h hu
  subst hu
  cases v <;> simp at h
  exact ⟨_, rfl, h.symm⟩
theorem zero4 (w : World) : (zeroValue 4).run Tryd.prog w = .ok (.bool false) w := by kernel_rfl
theorem IsSet.lookup {w : World} {b : Nat} {xs : List Int} (h : IsSet w b xs) (x : Int) (hx : W64 x) : (Instr.lookup 78 (.map (some b)) (.int .i64 x) false).run Tryd.prog w = .ok (.bool (xs.contains x)) w := by
  obtain ⟨_, n, _, h⟩ := h
  obtain ⟨v, ps, hrun, hv⟩ := h.lookup (int_keyed Tryd.underlying3) Tryd.underlying78 (zero4 w) (plainElem_bool Tryd.underlying4 false) (keyOf_int_mk Tryd.underlying3 hx.wf)
  rw [setD_at] at hv
  obtain ⟨a, rfl, ha⟩ := plainElem_bool_inv hv
  simp only [Prod.mk.injEq, DataW.lit.injEq, Lit.bool.injEq] at ha
  rw [hrun, ha.1]
theorem IsSet.update {w : World} {b : Nat} {xs : List Int} (h : IsSet w b xs) (x : Int) (hx : W64 x) (hl : xs.length < 9223372036854775807) :
    ∃ w1, (Instr.mapUpdate 78 (.map (some b)) (.int .i64 x) (.bool true)).run Tryd.prog w = .ok () w1 ∧ IsSet w1 b (xs ++ [x]) ∧ w.grownBy w1 (some b) := by
  obtain ⟨hw, n, hn, h⟩ := h
  obtain ⟨w1, hrun, h1, hg⟩ := h.update (int_keyed Tryd.underlying3) Tryd.underlying78 (by unfold maxLen; omega) (keyOf_int_mk Tryd.underlying3 hx.wf) (plainElem_bool Tryd.underlying4 true)
  refine ⟨w1, hrun, ⟨fun y hy => ?_, n + 1, by simp; omega, by rw [setD_snoc]; exact h1⟩, hg⟩
  rcases List.mem_append.1 hy with hy | hy
  · exact hw y hy
  · simp at hy; subst hy; exact hx
end Go.Proofs.YtkbmmgpdnienfaaDoor.P
