/- Part 26 of the proof of chunkBack_card: its words, walks and plain laws, one text behind the other. -/
import Derived.Shelf.Spec.RuneCount
import Derived.Test.YtkbmmgpdnienfaaDoorK922
import Derived.Test.YtkbmmgpdnienfaaDoorK925
import Derived.Test.YtkbmmgpdnienfaaDoorK96
set_option linter.unusedVariables false
set_option linter.unusedSimpArgs false
namespace Go.Proofs.YtkbmmgpdnienfaaDoor.P
open Go.RowKit Go.Proofs.YtkbmmgpdnienfaaDoorW.PrintWords Go.Proofs.YtkbmmgpdnienfaaDoorW.PrintLast Go.Proofs.YtkbmmgpdnienfaaDoorW.PrintMore
def encN : Nat → Nat → List Int
  | 0, _ => []
  | f + 1, n => if 127 < n then ((n % 128 + 128 : Nat) : Int) :: encN f (n / 128) else [(n : Int)]
def numE (n : Nat) : List Int := encN 8 n
def txtE (s : ByteArray) : List Int := numE s.size ++ bytesOf s
theorem encN_len : ∀ f n, (encN f n).length ≤ f
  | 0, _ => Nat.le_refl _
  | f + 1, n => by
    unfold encN
    split
    · have := encN_len f (n / 128); simp only [List.length_cons]; omega
    · simp only [List.length_cons, List.length_nil]; omega
theorem or_head (n : Nat) : Go.bits .or .u8 ((n : Int) % 256) 128 = ((n % 128 + 128 : Nat) : Int) := by
  rw [Lib.u8_or128_any _ (by omega) (by omega)]; omega
theorem p8 {n : Nat} (h : n < 72057594037927936) : n < 128 ^ 8 := by
  have : 128 ^ 8 = 72057594037927936 := by decide
  omega
theorem pow128 (f : Nat) : 128 ^ (f + 1) = 128 ^ f * 128 := Nat.pow_succ ..
theorem seven_from : ∀ (f n k : Nat) (acc : List Int), n < 128 ^ (f + 1) → f < k → acc.length + f < 140737488355328 → codec_seven_int.l0 k (n : Int) acc = some (acc ++ encN (f + 1) n)
  | f, n, k + 1, acc, hn, hk, ha => by
    simp only [codec_seven_int.l0, encN]
    by_cases h : 127 < n
    · rw [if_pos (by omega), if_pos (by omega), if_pos h]
      match f, hn, hk, ha with
      | 0, hn, _, _ => exact absurd hn (by omega)
      | f + 1, hn, hk, ha =>
        have h3 : n / 128 < 128 ^ (f + 1) := by rw [pow128] at hn; omega
        have ih := seven_from f (n / 128) k (acc ++ [Go.bits .or .u8 ((n : Int) % 256) 128]) h3 (by omega) (by simp only [List.length_append, List.length_cons, List.length_nil]; omega)
        rw [show (n : Int) / 128 = ((n / 128 : Nat) : Int) from by omega, ih, or_head, List.append_assoc]
        rfl
    · rw [if_neg (by omega), if_pos (by omega), if_neg h, show (n : Int) % 256 = n from by omega]
theorem seven64_from : ∀ (f n k : Nat) (acc : List Int), n < 128 ^ (f + 1) → f < k → acc.length + f < 140737488355328 → codec_seven_uint64.l0 k (n : Int) acc = some (acc ++ encN (f + 1) n)
  | f, n, k + 1, acc, hn, hk, ha => by
    simp only [codec_seven_uint64.l0, encN]
    by_cases h : 127 < n
    · rw [if_pos (by omega), if_pos (by omega), if_pos h]
      match f, hn, hk, ha with
      | 0, hn, _, _ => exact absurd hn (by omega)
      | f + 1, hn, hk, ha =>
        have h3 : n / 128 < 128 ^ (f + 1) := by rw [pow128] at hn; omega
        have ih := seven64_from f (n / 128) k (acc ++ [Go.bits .or .u8 ((n : Int) % 256) 128]) h3 (by omega) (by simp only [List.length_append, List.length_cons, List.length_nil]; omega)
        rw [show (n : Int) / 128 = ((n / 128 : Nat) : Int) from by omega, ih, or_head, List.append_assoc]
        rfl
    · rw [if_neg (by omega), if_pos (by omega), if_neg h, show (n : Int) % 256 = n from by omega]
theorem num_enc {n k : Nat} (hn : n < 72057594037927936) (hk : 7 < k) : codec_Number.f k (n : Int) = some (numE n, 0) := by
  unfold codec_Number.f codec_seven_int.f
  rw [if_neg (by omega), if_neg (by omega), seven_from 7 n k [] (p8 (by omega)) hk (by simp), Option.bind_some]
  rfl
theorem txt_enc {s : ByteArray} {k : Nat} (hs : s.size ≤ 65536) (hk : 7 < k) : codec_Text.f k s = some (txtE s, 0) := by
  unfold codec_Text.f codec_seven_int.f
  have hl := encN_len (7 + 1) s.size
  rw [if_neg (by omega), seven_from 7 s.size k [] (p8 (by omega)) hk (by simp), Option.bind_some, List.nil_append, if_pos (by omega)]
  rfl
theorem sig_enc {x : Int} {k : Nat} (h0 : -36028797018963968 ≤ x) (h1 : x < 36028797018963968) (hk : 7 < k) : codec_Signed.f k x = some (numE (Lib.zigzag x), 0) ∧ unzig (Lib.zigzag x : Nat) = x ∧ Lib.zigzag x < 72057594037927936 := by
  have hz : Lib.zigzag x < 72057594037927936 := by unfold Lib.zigzag; split <;> omega
  refine ⟨?_, ?_, hz⟩
  · unfold codec_Signed.f codec_seven_uint64.f
    have he : Go.bits .xor .u64 (IntKind.u64.wrap (IntKind.u64.wrap x * 2)) (IntKind.u64.wrap (x / 9223372036854775808)) = ((Lib.zigzag x : Nat) : Int) := by
      have hc : ∀ a b : Int, Go.bits .xor .u64 a b = Go.bits .xor .u64 b a := by
        intro a b
        show IntKind.u64.wrap ((BitVec.ofInt 64 a ^^^ BitVec.ofInt 64 b).toNat : Int) = IntKind.u64.wrap ((BitVec.ofInt 64 b ^^^ BitVec.ofInt 64 a).toNat : Int)
        rw [BitVec.xor_comm]
      by_cases hx : 0 ≤ x
      · rw [show x / 9223372036854775808 = 0 from by omega, Lib.zigzag_nonneg hx, IntKind.wrap_u64, IntKind.wrap_u64, IntKind.wrap_u64, hc]
        obtain ⟨m, rfl⟩ := Int.eq_ofNat_of_zero_le hx
        have e2 : ((m : Int) % 18446744073709551616 * 2) % 18446744073709551616 = ((m * 2 : Nat) : Int) := by omega
        rw [e2]
        have := bits_xor_u64_nat 0 (m * 2) (by decide) (by omega)
        rw [Nat.zero_xor] at this
        simpa using this
      · rw [show x / 9223372036854775808 = -1 from by omega, hc, show IntKind.u64.wrap (-1) = IntKind.u64.max from by decide]
        exact Lib.zigzag_neg (by omega) (by omega)
    rw [if_neg (by omega), if_neg (by omega), he, seven64_from 7 (Lib.zigzag x) k [] (p8 (by omega)) hk (by simp), Option.bind_some]
    rfl
  · rw [unzig_is (by omega) (by omega)]
    unfold unzig1 Lib.zigzag
    split <;> split <;> omega
theorem dn_enc : ∀ (f i n : Nat) (acc : Int) (l : List Int), n < 128 ^ f → (0 < i → n ≠ 0) → f + i = 8 → i < 8 → dn f i acc (encN f n ++ l) = (acc + (n : Int) * 2 ^ (7 * i), i + (encN f n).length, 0)
  | 0, i, n, acc, l, _, _, h, h2 => by omega
  | f + 1, i, n, acc, l, hn, h0, hf, hi => by
    obtain ⟨_, _, p3⟩ := pow7 hi
    simp only [encN]
    by_cases h : 127 < n
    · rw [if_pos h]
      have h3 : n / 128 < 128 ^ f := by rw [pow128] at hn; omega
      have hf1 : 0 < f := by
        rcases Nat.eq_zero_or_pos f with rfl | h; simp at h3; omega; exact h
      simp only [List.cons_append, dn]
      rw [if_neg (by omega), dn_enc f (i + 1) (n / 128) _ l h3 (fun _ => by omega) (by omega) (by omega), p3]
      simp only [List.length_cons]
      refine Prod.ext ?_ (Prod.ext (by show i + 1 + (encN f (n / 128)).length = i + ((encN f (n / 128)).length + 1); omega) rfl)
      show acc + _ * 2 ^ (7 * i) + _ * (128 * 2 ^ (7 * i)) = acc + _ * 2 ^ (7 * i)
      generalize (2 : Int) ^ (7 * i) = p
      have e1 : (((n % 128 + 128 : Nat) : Int) % 128) = ((n % 128 : Nat) : Int) := by omega
      have e2 : (n : Int) = ((n % 128 : Nat) : Int) + ((n / 128 : Nat) : Int) * 128 := by omega
      rw [e1]
      conv => rhs; rw [e2]
      rw [Int.add_mul, Int.mul_assoc, Int.add_assoc]
    · rw [if_neg h]
      simp only [List.cons_append, List.nil_append, dn]
      rw [if_pos (by omega), if_neg (by intro h2; exact h0 h2.1 (by omega))]
      rfl
theorem numS_enc {n : Nat} (hn : n < 72057594037927936) (l : List Int) : numS (numE n ++ l) 0 = ((n : Int), l, 0) := by
  have h := dn_enc 8 0 n 0 l (p8 (by omega)) (by omega) rfl (by omega)
  unfold numS dnum numE
  rw [if_neg (by simp), h]
  simp
theorem strOf_bytes (s : ByteArray) : strOfNums (bytesOf s) = s := strOfNums_bytes s
theorem textS_enc {s : ByteArray} (hs : s.size ≤ 65536) (l : List Int) : textS (txtE s ++ l) 0 = (s, l, 0) := by
  unfold textS txtE
  rw [List.append_assoc, numS_enc (by omega)]
  have hb : (bytesOf s).length = s.size := bytesOf_length s
  dsimp only
  rw [if_neg (by simp), if_neg (by omega), if_neg (by rw [List.length_append, hb]; omega), Int.toNat_natCast, ← hb, List.take_left, List.drop_left, strOf_bytes]
theorem textS_cut {s : ByteArray} (hs : s.size ≤ 65536) : (textS (txtE s).dropLast 0).2.2 ≠ 0 := by
  have hb : (bytesOf s).length = s.size := bytesOf_length s
  by_cases h : s.size = 0
  · have e : txtE s = [0] := by
      unfold txtE
      rw [h, List.length_eq_zero_iff.1 (hb.trans h)]
      rfl
    rw [e]
    decide
  · have e : (txtE s).dropLast = numE s.size ++ (bytesOf s).dropLast := by
      unfold txtE
      rw [List.dropLast_append_of_ne_nil (by intro h2; rw [h2] at hb; exact h hb.symm)]
    rw [e]
    unfold textS
    rw [numS_enc (by omega)]
    dsimp only
    rw [if_neg (by simp), if_neg (by omega), if_pos (by rw [List.length_dropLast, hb]; omega)]
    simp
theorem numE_len (n : Nat) : (numE n).length ≤ 8 := encN_len 8 n
theorem txtE_len (s : ByteArray) : (txtE s).length ≤ 8 + s.size := by
  have := numE_len s.size
  unfold txtE
  rw [List.length_append, bytesOf_length]
  omega
theorem txtE_ne (s : ByteArray) : txtE s ≠ [] := by
  unfold txtE numE encN
  split <;> simp
theorem encN_ok : ∀ f n, (f = 0 ∨ n < 128 ^ f) → bytesOK (encN f n)
  | 0, n, _ => fun x hx => by cases hx
  | f + 1, n, h => by
    unfold encN
    split
    · intro x hx
      rcases List.mem_cons.1 hx with rfl | h2
      · omega
      · refine encN_ok f (n / 128) ?_ x h2
        rcases h with h | h
        · omega
        · rw [pow128] at h; exact .inr (by omega)
    · intro x hx
      rw [List.mem_singleton.1 hx]
      omega
theorem numE_ok {n : Nat} (hn : n < 72057594037927936) : bytesOK (numE n) := encN_ok 8 n (.inr (p8 (by omega)))
theorem bytesOK.app {a b : List Int} (ha : bytesOK a) (hb : bytesOK b) : bytesOK (a ++ b) := fun x hx => by
  rcases List.mem_append.1 hx with h | h
  · exact ha x h
  · exact hb x h
theorem txtE_ok {s : ByteArray} (hs : s.size ≤ 65536) : bytesOK (txtE s) := (numE_ok (by omega)).app (bytesOf_ok s)
end Go.Proofs.YtkbmmgpdnienfaaDoor.P
