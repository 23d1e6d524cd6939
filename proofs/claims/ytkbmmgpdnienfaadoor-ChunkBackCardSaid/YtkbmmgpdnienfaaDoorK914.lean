/- Part 14 of the proof of chunkBack_card: its words, walks and plain laws, one text behind the other. -/
import Derived.Lib.VarintBits
import Derived.Lib.Varint
import Derived.Lib.Zigzag
import Derived.Test.YtkbmmgpdnienfaaDoorK96
set_option linter.unusedVariables false
set_option linter.unusedSimpArgs false
namespace Go.Proofs.YtkbmmgpdnienfaaDoor.P
open Go.RowKit Go.Proofs.YtkbmmgpdnienfaaDoorW.PrintWords Go.Proofs.YtkbmmgpdnienfaaDoorW.PrintLast Go.Proofs.YtkbmmgpdnienfaaDoorW.PrintMore
def bytesOK (l : List Int) : Prop := ∀ x ∈ l, 0 ≤ x ∧ x < 256
theorem bytesOK.drop {l : List Int} (h : bytesOK l) (n : Nat) : bytesOK (l.drop n) := fun x hx => h x (List.mem_of_mem_drop hx)
def dn : Nat → Nat → Int → List Int → Int × Nat × Int
  | 0, _, _, _ => (0, 0, 21)
  | _ + 1, _, _, [] => (0, 0, 20)
  | f + 1, i, acc, b :: r => if b < 128 then (if 0 < i ∧ b = 0 then (0, 0, 21) else (acc + b * 2 ^ (7 * i), i + 1, 0)) else dn f (i + 1) (acc + b % 128 * 2 ^ (7 * i)) r
def dnum (l : List Int) : Int × Nat × Int := dn 8 0 0 l
theorem pow7 {i : Nat} (hi : i < 8) : (2 : Int) ^ (7 * i) ≤ 562949953421312 ∧ 0 < (2 : Int) ^ (7 * i) ∧ (2 : Int) ^ (7 * (i + 1)) = 128 * 2 ^ (7 * i) := by
  have : i = 0 ∨ i = 1 ∨ i = 2 ∨ i = 3 ∨ i = 4 ∨ i = 5 ∨ i = 6 ∨ i = 7 := by omega
  rcases this with rfl | rfl | rfl | rfl | rfl | rfl | rfl | rfl <;> decide
theorem wrap_in {x : Int} (h0 : -9223372036854775808 ≤ x) (h1 : x ≤ 9223372036854775807) : wrap64 x = x := by unfold wrap64; omega
theorem i64_in2 {x : Int} (h0 : 0 ≤ x) (h1 : x < 2 ^ 63) : IntKind.i64.wrap x = x := by rw [IntKind.wrap_i64]; omega
theorem mul_le7 {b p : Int} (h0 : 0 ≤ b) (h1 : b < 128) (hp : 0 < p) (hp2 : p ≤ 562949953421312) : 0 ≤ b * p ∧ b * p ≤ 127 * p := ⟨Int.mul_nonneg h0 (Int.le_of_lt hp), Int.mul_le_mul_of_nonneg_right (by omega) (Int.le_of_lt hp)⟩
theorem shl7 {b : Int} {i : Nat} (hi : i < 8) (h0 : 0 ≤ b) (h1 : b < 128) : shl .i64 b ((7 * i : Nat) : Int) = b * 2 ^ (7 * i) := by
  obtain ⟨p1, p2, _⟩ := pow7 hi
  obtain ⟨m1, m2⟩ := mul_le7 h0 h1 p2 p1
  unfold shl
  rw [Int.toNat_natCast, Nat.min_eq_left (show 7 * i ≤ IntKind.i64.bits from by show 7 * i ≤ 64; omega)]
  exact i64_in2 m1 (by omega)
theorem or7 {acc b : Int} {i : Nat} (hi : i < 8) (h0 : 0 ≤ b) (h1 : b < 128) (a0 : 0 ≤ acc) (a1 : acc < 2 ^ (7 * i)) : Go.bits .or .i64 acc (b * 2 ^ (7 * i)) = acc + b * 2 ^ (7 * i) := by
  obtain ⟨p1, p2, _⟩ := pow7 hi
  obtain ⟨m1, m2⟩ := mul_le7 h0 h1 p2 p1
  have hj := bits_join_low .i64 63 (by decide) (fun n h0 h1 => i64_in2 h0 h1) (7 * i) acc (b * 2 ^ (7 * i)) a0 a1 (by omega) m1 (Int.mul_emod_left _ _) (by omega)
  exact hj
theorem dn_lt : ∀ (f i : Nat) (acc : Int) (l : List Int), bytesOK l → f + i = 8 → 0 ≤ acc → acc < 2 ^ (7 * i) → 0 ≤ (dn f i acc l).1 ∧ (dn f i acc l).1 < 2 ^ 56 ∧ (dn f i acc l).2.1 ≤ i + l.length ∧ ((dn f i acc l).2.2 ≠ 0 → (dn f i acc l).1 = 0 ∧ (dn f i acc l).2.1 = 0)
  | 0, _, _, _, _, _, _, _ => by simp [dn]
  | f + 1, _, _, [], _, _, _, _ => by simp [dn]
  | f + 1, i, acc, b :: r, hl, hf, a0, a1 => by
    obtain ⟨p1, p2, p3⟩ := pow7 (i := i) (by omega)
    obtain ⟨b0, b1⟩ := hl b (List.mem_cons_self ..)
    unfold dn
    by_cases hb : b < 128
    · rw [if_pos hb]
      obtain ⟨m1, m2⟩ := mul_le7 b0 hb p2 p1
      split
      · simp
      · refine ⟨by show 0 ≤ acc + _; omega, by show acc + _ < _; omega, by simp, by simp⟩
    · rw [if_neg hb]
      obtain ⟨m1, m2⟩ := mul_le7 (b := b % 128) (by omega) (by omega) p2 p1
      have ih := dn_lt f (i + 1) (acc + b % 128 * 2 ^ (7 * i)) r (fun x hx => hl x (List.mem_cons_of_mem _ hx)) (by omega) (by omega) (by rw [p3]; omega)
      refine ⟨ih.1, ih.2.1, ?_, ih.2.2.2⟩
      have := ih.2.2.1
      simp only [List.length_cons]
      omega
theorem rd_drop {l : List Int} {i : Nat} (h : i < l.length) : l.drop i = rd l i :: l.drop (i + 1) := by
  rw [List.drop_eq_getElem_cons h]
  congr 1
  unfold rd
  rw [Int.toNat_natCast, List.getD_eq_getElem?_getD, List.getElem?_eq_getElem h]; rfl
theorem rd_ok {l : List Int} (hl : bytesOK l) {i : Nat} (h : i < l.length) : 0 ≤ rd l i ∧ rd l i < 256 := hl _ (by
  have := rd_drop h
  have h2 : rd l i ∈ l.drop i := by rw [this]; exact List.mem_cons_self ..
  exact List.mem_of_mem_drop h2)
theorem w7 {i : Nat} (h : i < 8) : wrap64 (7 * (i : Int)) = ((7 * i : Nat) : Int) := by rw [wrap_in (by omega) (by omega)]; omega
theorem wS {i : Nat} (h : i < 4611686018427387904) : wrap64 ((i : Int) + 1) = ((i + 1 : Nat) : Int) := by rw [wrap_in (by omega) (by omega)]; omega
theorem wand {b : Int} (b0 : 0 ≤ b) (b1 : b < 256) : wrap64 (Go.bits .and .u8 b 127) = b % 128 := by rw [u8_and127 b b0 b1, wrap_in (by omega) (by omega)]
theorem number_from (l : List Int) (hl : bytesOK l) (hn : l.length ≤ 9223372036854775807) : ∀ (f i k : Nat) (acc : Int), f + i = 8 → f < k → 0 ≤ acc → acc < 2 ^ (7 * i) → codec_number.l0 k l acc i = some ((dn f i acc (l.drop i)).1, ((dn f i acc (l.drop i)).2.1 : Int), (dn f i acc (l.drop i)).2.2)
  | 0, i, k, acc, hf, hk, a0, a1 => by
    obtain ⟨k, rfl⟩ : ∃ m, k = m + 1 := ⟨k - 1, by omega⟩
    simp only [codec_number.l0, dn]
    rw [if_neg (by omega)]; rfl
  | f + 1, i, k, acc, hf, hk, a0, a1 => by
    obtain ⟨k, rfl⟩ : ∃ m, k = m + 1 := ⟨k - 1, by omega⟩
    obtain ⟨p1, p2, p3⟩ := pow7 (i := i) (by omega)
    simp only [codec_number.l0]
    rw [if_pos (by omega)]
    by_cases hi : i < l.length
    · obtain ⟨b0, b1⟩ := rd_ok hl hi
      rw [rd_drop hi]
      generalize rd l i = b at b0 b1 ⊢
      rw [if_neg (by omega), if_pos (by omega), if_pos (by omega), w7 (by omega), if_pos (by omega), wand b0 b1, shl7 (by omega) (by omega) (by omega), or7 (by omega) (by omega) (by omega) a0 a1, wS (by omega)]
      unfold dn
      by_cases hb : b < 128
      · rw [if_pos hb, if_pos hb, show b % 128 = b by omega]
        by_cases h0 : 0 < i
        · rw [if_pos (by omega)]
          by_cases hb0 : b = 0
          · rw [if_pos hb0, if_pos ⟨h0, hb0⟩]; rfl
          · rw [if_neg hb0, if_neg (fun h => hb0 h.2)]
        · rw [if_neg (by omega), if_neg (fun h => h0 h.1)]
      · rw [if_neg hb, if_neg hb]
        obtain ⟨m1, m2⟩ := mul_le7 (b := b % 128) (by omega) (by omega) p2 p1
        exact number_from l hl hn f (i + 1) k _ (by omega) (by omega) (by omega) (by rw [p3]; omega)
    · rw [if_pos (by omega), List.drop_eq_nil_of_le (by omega)]; rfl
theorem number_is (l : List Int) (hl : bytesOK l) (hn : l.length ≤ 9223372036854775807) : codec_number.f 9 l = some ((dnum l).1, ((dnum l).2.1 : Int), (dnum l).2.2) := number_from l hl hn 8 0 9 0 rfl (by omega) (by omega) (by decide)
def at1 (at_ : Nat) (r : Int × Nat × Int) : Int × Int × Int := if r.2.2 = 0 then (r.1, ((at_ + r.2.1 : Nat) : Int), 0) else (0, 0, r.2.2)
end Go.Proofs.YtkbmmgpdnienfaaDoor.P
