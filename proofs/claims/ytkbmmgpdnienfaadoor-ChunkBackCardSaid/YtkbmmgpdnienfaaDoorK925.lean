/- Part 25 of the proof of chunkBack_card: its words, walks and plain laws, one text behind the other. -/
import Derived.Test.YtkbmmgpdnienfaaDoorK922
import Derived.Test.YtkbmmgpdnienfaaDoorK924
set_option linter.unusedVariables false
set_option linter.unusedSimpArgs false
namespace Go.Proofs.YtkbmmgpdnienfaaDoor.P
open Go.RowKit Go.Proofs.YtkbmmgpdnienfaaDoorW.PrintWords Go.Proofs.YtkbmmgpdnienfaaDoorW.PrintLast Go.Proofs.YtkbmmgpdnienfaaDoorW.PrintMore
def rowD (r : S48) : Array Value := #[.int .i64 r.f0, .int .i64 r.f1, .string r.f2]
def un75 (r : S48) : S75 := ⟨r.f0, r.f1, r.f2⟩
structure GD (w : World) (g g7 g9 : Nat) (A : Option Addr) (c : Nat) (B : List Int) (vL : Value) (labs : List S88) (vR : Value) (rows : List S48) (was : S48) (l : List Int) (e : Int) (W : World) : Prop where
  b2 : W.heap[w.heap.size]? = some (.cells #[.slice none 0 0, .slice none 0 0] 25 (0, 0))
  dec : DecL W (w.heap.size + 1) g A c B l e
  b7 : W.heap[g7]? = some (.cells #[vL, vR] 25 (0, 0))
  b9 : W.heap[g9]? = some (.cells (rowD was) 75 (0, 0))
  row : Kd.R k75 75 W w.heap.size (fun k => g9 < k) vR (rows.map un75)
  lab : Kd.R k88 88 W w.heap.size (fun k => g < k ∧ k < g7) vL labs
  lt7 : g < g7
  lt9 : g7 < g9
  below : Below w.heap.size w W
section
variable {w : World} {g g7 g9 : Nat} {A : Option Addr} {c : Nat} {B : List Int} {vL vR : Value} {labs : List S88} {rows : List S48} {was : S48} {l : List Int} {e : Int} {W W1 : World}
end
theorem unzig_is {n : Int} (h0 : 0 ≤ n) (h1 : n < 72057594037927936) : unzig n = unzig1 n := by
  unfold unzig unzig1
  have ha : Go.bits .and .i64 n 1 = n % 2 := by
    have := bits_mask .i64 63 (by decide) (fun n h0 h1 => i64_in2 h0 h1) 1 (by decide) n h0 (by omega)
    simpa using this
  rw [ha]
  obtain ⟨m, hm⟩ : ∃ m : Nat, n / 2 = (m : Int) := ⟨(n / 2).toNat, by omega⟩
  rw [hm]
  have hx : ∀ y : Int, Go.bits .xor .i64 (m : Int) y = Go.bits .xor .i64 y (m : Int) := by
    intro y
    show IntKind.i64.wrap ((BitVec.ofInt 64 (m : Int) ^^^ BitVec.ofInt 64 y).toNat : Int) = IntKind.i64.wrap ((BitVec.ofInt 64 y ^^^ BitVec.ofInt 64 (m : Int)).toNat : Int)
    rw [BitVec.xor_comm]
  have h2 : n % 2 = 0 ∨ n % 2 = 1 := by omega
  rcases h2 with h2 | h2
  · rw [h2, if_neg (by omega), hx]
    show IntKind.i64.wrap ((BitVec.ofInt 64 (wrap64 (-0)) ^^^ BitVec.ofInt 64 (m : Int)).toNat : Int) = _
    rw [show wrap64 (-0) = 0 from wrap_in (by omega) (by omega), show BitVec.ofInt 64 0 = 0#64 from by decide, BitVec.zero_xor, BitVec.ofInt_natCast, BitVec.toNat_ofNat, Nat.mod_eq_of_lt (by omega)]
    exact i64_in2 (by omega) (by omega)
  · rw [h2, if_pos rfl, hx, show wrap64 (-1) = -1 from wrap_in (by omega) (by omega), Lib.i64_not m (by omega)]
    omega
end Go.Proofs.YtkbmmgpdnienfaaDoor.P
