/- Part 22 of the proof of chunkBack_card: its words, walks and plain laws, one text behind the other. -/
import Derived.Test.YtkbmmgpdnienfaaDoorK919
import Derived.Test.YtkbmmgpdnienfaaDoorK921
set_option linter.unusedVariables false
set_option linter.unusedSimpArgs false
namespace Go.Proofs.YtkbmmgpdnienfaaDoor.P
open Go.RowKit Go.Proofs.YtkbmmgpdnienfaaDoorW.PrintWords Go.Proofs.YtkbmmgpdnienfaaDoorW.PrintLast Go.Proofs.YtkbmmgpdnienfaaDoorW.PrintMore
structure RSt where
  rows : List S48
  was : S48
  l : List Int
  e : Int
def rowT (s : RSt) : Int × List Int × Int := numS s.l s.e
def rowQ (s : RSt) : Int × List Int × Int := numS (rowT s).2.1 (rowT s).2.2
def rowX (s : RSt) : ByteArray × List Int × Int := textS (rowQ s).2.1 (rowQ s).2.2
def rowN (i : Nat) (s : RSt) : S48 := ⟨if i = 0 then (rowQ s).1 else wrap64 (s.was.f0 + unzig (rowQ s).1), wrap64 (s.was.f1 + (rowT s).1), (rowX s).1⟩
def nextR (i : Nat) (s : RSt) : RSt := ⟨s.rows ++ [rowN i s], rowN i s, (rowX s).2.1, (rowX s).2.2⟩
def rowsS (l : List Int) (e : Int) : Nat → RSt
  | 0 => ⟨[], z48, l, e⟩
  | i + 1 => nextR i (rowsS l e i)
theorem numS_stop {l : List Int} {e : Int} (h : e ≠ 0) : numS l e = (0, l, e) := by unfold numS; rw [if_pos h]
theorem textS_stop {l : List Int} {e : Int} (h : e ≠ 0) : textS l e = (⟨#[]⟩, l, e) := by unfold textS; rw [numS_stop h, if_pos h]
theorem nextR_stop {i : Nat} {s : RSt} (h : s.e ≠ 0) : (nextR i s).l = s.l ∧ (nextR i s).e = s.e := by
  unfold nextR rowX rowQ rowT
  rw [numS_stop h, numS_stop h, textS_stop h]
  exact ⟨rfl, rfl⟩
theorem rowsS_stop {l : List Int} {e : Int} {i : Nat} (h : (rowsS l e i).e ≠ 0) : ∀ d, (rowsS l e (i + d)).l = (rowsS l e i).l ∧ (rowsS l e (i + d)).e = (rowsS l e i).e
  | 0 => ⟨rfl, rfl⟩
  | d + 1 => by
    obtain ⟨h1, h2⟩ := rowsS_stop h d
    have h3 := nextR_stop (i := i + d) (s := rowsS l e (i + d)) (by rw [h2]; exact h)
    exact ⟨h3.1.trans h1, h3.2.trans h2⟩
theorem rowsS_len (l : List Int) (e : Int) : ∀ i, (rowsS l e i).rows.length = i
  | 0 => rfl
  | i + 1 => by simp [rowsS, nextR, rowsS_len l e i]
theorem nextR_ok {i : Nat} {s : RSt} (h : bytesOK s.l) : bytesOK (rowT s).2.1 ∧ bytesOK (rowQ s).2.1 ∧ bytesOK (nextR i s).l ∧ (rowT s).2.1.length ≤ s.l.length ∧ (rowQ s).2.1.length ≤ s.l.length ∧ (nextR i s).l.length ≤ s.l.length := by
  have h1 := numS_ok h s.e
  have h2 := numS_ok (e := (rowT s).2.2) h1.1
  have h3 := textS_ok (e := (rowQ s).2.2) h2.1
  refine ⟨h1.1, h2.1, h3.1, h1.2, Nat.le_trans h2.2 h1.2, Nat.le_trans h3.2 (Nat.le_trans h2.2 h1.2)⟩
theorem rowsS_ok {l : List Int} (hl : bytesOK l) (e : Int) : ∀ i, bytesOK (rowsS l e i).l ∧ (rowsS l e i).l.length ≤ l.length
  | 0 => ⟨hl, Nat.le_refl _⟩
  | i + 1 => by
    have h := rowsS_ok hl e i
    have h2 := nextR_ok (i := i) h.1
    exact ⟨h2.2.2.1, Nat.le_trans h2.2.2.2.2.2 h.2⟩
theorem wrap64_in (x : Int) : W64 (wrap64 x) := by unfold W64 wrap64; omega
theorem rowsS_64 {l : List Int} (hl : bytesOK l) (e : Int) : ∀ i, ∀ r ∈ (rowsS l e i).rows, W64 r.f0
  | 0, r, hr => by cases hr
  | i + 1, r, hr => by
    rcases List.mem_append.1 hr with h | h
    · exact rowsS_64 hl e i r h
    · rw [List.mem_singleton.1 h]
      have h1 := numS_ok (rowsS_ok hl e i).1 (rowsS l e i).e
      have h2 := numS_in h1.1 (numS (rowsS l e i).l (rowsS l e i).e).2.2
      unfold rowN
      split
      · show W64 (numS (numS (rowsS l e i).l (rowsS l e i).e).2.1 (numS (rowsS l e i).l (rowsS l e i).e).2.2).1
        unfold W64
        omega
      · exact wrap64_in _
def getT (l : List Int) : ByteArray × List Int × Int := textS l 0
def getN (l : List Int) : Int × List Int × Int := numS (getT l).2.1 (getT l).2.2
def getL (l : List Int) : List S88 := (readS (bytesOf (getT l).1)).1
def getR (l : List Int) : RSt := rowsS (getN l).2.1 (getN l).2.2 (getN l).1.toNat
def getS (l : List Int) : List S88 × List S48 × Int :=
  if 1000 < (getN l).1 then ([], [], 21) else if doneR (getR l).l (getR l).e ≠ 0 ∨ chunkR (getL l) (getR l).rows = false then ([], [], 21) else (getL l, (getR l).rows, 0)
theorem bytesOf_ok (s : ByteArray) : bytesOK (bytesOf s) := by
  intro x hx
  unfold bytesOf at hx
  obtain ⟨b, _, rfl⟩ := List.mem_map.1 hx
  have := b.toNat_lt
  omega
theorem readS_len (l : List Int) : (readS l).1.length ≤ 17 := by
  unfold readS
  split
  · exact Nat.zero_le _
  · unfold labsS
    rw [labsTo_len]
    unfold labsN
    omega
end Go.Proofs.YtkbmmgpdnienfaaDoor.P
