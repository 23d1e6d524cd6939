/- Part 23 of the proof of chunkBack_card: its words, walks and plain laws, one text behind the other. -/
import Derived.Lib.TrimUEq
import Derived.Lib.ValidLaws
import Derived.Lib.MapLaws
import Derived.Test.YtkbmmgpdnienfaaDoorK96
import Derived.Test.YtkbmmgpdnienfaaDoorK918
set_option linter.unusedVariables false
set_option linter.unusedSimpArgs false
namespace Go.Proofs.YtkbmmgpdnienfaaDoor.P
open Go.RowKit Go.Proofs.YtkbmmgpdnienfaaDoorW.PrintWords Go.Proofs.YtkbmmgpdnienfaaDoorW.PrintLast Go.Proofs.YtkbmmgpdnienfaaDoorW.PrintMore
theorem letter2_is (c : Int) : icehouseref02_letter.f c = some (letterB c) := by
  unfold icehouseref02_letter.f letterB
  repeat' split
  all_goals (congr 1; rw [Bool.eq_iff_iff]; simp; try omega)
theorem digit2_is (c : Int) : icehouseref02_digit.f c = some (digitB c) := by
  unfold icehouseref02_digit.f digitB
  repeat' split
  all_goals (congr 1; rw [Bool.eq_iff_iff]; simp; try omega)
theorem name2_from (s : ByteArray) (hs : s.size < 9223372036854775807) : ∀ d i k, i + d = s.size → d < k → icehouseref02_Name.l0 k s i = some (((List.range' i d).all fun j => nameCh (bt s j) j) && (decide (1 ≤ s.size) && decide (s.size ≤ 64))) := by
  intro d
  induction d with
  | zero =>
    intro i k hi hk
    obtain ⟨k, rfl⟩ : ∃ m, k = m + 1 := ⟨k - 1, by omega⟩
    simp only [icehouseref02_Name.l0]
    rw [if_neg (by omega)]
    simp only [List.range'_zero, List.all_nil, Bool.true_and]
    by_cases h1 : (s.size : Int) ≥ 1
    · rw [if_pos h1, decide_eq_true (show 1 ≤ s.size by omega), Bool.true_and]
      congr 1
      rw [Bool.eq_iff_iff]; simp only [decide_eq_true_eq]; omega
    · rw [if_neg h1, decide_eq_false (show ¬ 1 ≤ s.size by omega)]; rfl
  | succ d ih =>
    intro i k hi hk
    obtain ⟨k, rfl⟩ : ∃ m, k = m + 1 := ⟨k - 1, by omega⟩
    have hw : wrap64 ((i : Int) + 1) = ((i + 1 : Nat) : Int) := by unfold wrap64; omega
    simp only [icehouseref02_Name.l0]
    rw [if_pos (by omega), if_pos (by omega), letter2_is, Option.bind_some, hw, ih (i + 1) k (by omega) (by omega), digit2_is, Option.bind_some]
    rw [List.range'_succ, List.all_cons]
    generalize List.all (List.range' (i + 1) d) _ = R
    unfold nameCh
    cases letterB (bt s i) with
    | true => simp
    | false =>
      by_cases h0 : i = 0
      · subst h0; simp
      · have hi0 : ¬ (i : Int) = 0 := by omega
        have hb : (i != 0) = true := by simp [h0]
        rw [if_neg (by simp), if_neg hi0, hb]
        cases digitB (bt s i) <;> simp
theorem name2_is (s : ByteArray) (hs : s.size < 9223372036854775807) (k : Nat) (hk : s.size < k) : icehouseref02_Name.f k s = some (nameB s) := by
  unfold icehouseref02_Name.f nameB nameTo
  have := name2_from s hs s.size 0 k (by omega) hk
  rw [show ((0 : Nat) : Int) = 0 from rfl] at this
  rw [this, List.range_eq_range', Bool.and_assoc]
theorem bt_getD (s : ByteArray) (i : Nat) : bt s i = ((s.data.toList.getD i 0).toNat : Int) := by
  unfold bt
  rw [Int.toNat_natCast]
  by_cases h : i < s.size
  · rw [dif_pos h, List.getD_eq_getElem?_getD, List.getElem?_eq_getElem (by simpa using h)]; rfl
  · rw [dif_neg h, List.getD_eq_getElem?_getD, List.getElem?_eq_none (by simpa using h)]; rfl
theorem wid {x : Int} (h0 : -9223372036854775808 ≤ x) (h1 : x ≤ 9223372036854775807) : wrap64 x = x := by unfold wrap64; omega
def runeEnd (c : Int) (n least : Int) : Int × Int := if c < least then (0, 0) else if c > 1114111 then (0, 0) else if c ≥ 55296 then (if c < 57344 then (0, 0) else (c, n)) else (c, n)
theorem rune_end (k : Nat) (s : ByteArray) (c n least i : Int) (h : ¬ i < n) : icehouseref02_Rune.l0 (k + 1) s c n least i = some (runeEnd c n least) := by
  simp only [icehouseref02_Rune.l0]
  rw [if_neg h]
  unfold runeEnd
  repeat' split
  all_goals rfl
theorem rune_step (k : Nat) (s : ByteArray) (c n least : Int) (i : Nat) (h : (i : Int) < n) (hi : i < s.size) (hi2 : i < 10) (hc0 : 0 ≤ c) (hc : c ≤ 10000000) :
    icehouseref02_Rune.l0 (k + 1) s c n least i = if bt s i < 128 ∨ bt s i ≥ 192 then some (0, 0) else icehouseref02_Rune.l0 k s (64 * c + bt s i - 128) n least ((i + 1 : Nat) : Int) := by
  have hb := bt_range s i
  have hm := hb.1
  have hM := hb.2
  simp only [icehouseref02_Rune.l0]
  rw [if_pos h, if_pos (by omega), if_pos (by omega)]
  clear hb
  generalize bt s i = b at hm hM ⊢
  by_cases h1 : b < 128
  · rw [if_pos h1, if_pos (.inl h1)]
  · rw [if_neg h1]
    by_cases h2 : b ≥ 192
    · rw [if_pos h2, if_pos (.inr h2)]
    · rw [if_neg h2, if_neg (by omega), wid (x := b) (by omega) (by omega), wid (x := 64 * c) (by omega) (by omega), wid (x := 64 * c + b) (by omega) (by omega), wid (x := 64 * c + b - 128) (by omega) (by omega), wid (x := (i : Int) + 1) (by omega) (by omega)]
      rfl
def widthN (n b0 b1 b2 b3 : Nat) : Nat := if (Lib.decodeN n b0 b1 b2 b3).1 = 65533 ∧ (Lib.decodeN n b0 b1 b2 b3).2 = 1 then 0 else (Lib.decodeN n b0 b1 b2 b3).2
theorem widthN_bad {n b0 b1 b2 b3 : Nat} (h : Lib.decodeN n b0 b1 b2 b3 = (65533, 1)) : widthN n b0 b1 b2 b3 = 0 := by
  unfold widthN; rw [h]; rfl
theorem widthN_ok {n b0 b1 b2 b3 c w : Nat} (h : Lib.decodeN n b0 b1 b2 b3 = (c, w)) (hw : w ≠ 1 ∨ c ≠ 65533) : widthN n b0 b1 b2 b3 = w := by
  unfold widthN; rw [h]
  rw [if_neg]
  rintro ⟨h1, h2⟩
  rcases hw with hw | hw
  · exact hw h2
  · exact hw h1
theorem rj0t (k : Nat) (s : ByteArray) (c : Int) : icehouseref02_Rune.j0 (k + 1) s c true = icehouseref02_Rune.j2 k s (wrap64 (c - 192)) 2 128 := by rw [icehouseref02_Rune.j0, if_pos rfl]
theorem rj0f (k : Nat) (s : ByteArray) (c : Int) : icehouseref02_Rune.j0 (k + 1) s c false = if c ≥ 224 then icehouseref02_Rune.j1 k s c (decide (c < 240)) else icehouseref02_Rune.j1 k s c false := by rw [icehouseref02_Rune.j0, if_neg (by decide)]
theorem rj1t (k : Nat) (s : ByteArray) (c : Int) : icehouseref02_Rune.j1 (k + 1) s c true = icehouseref02_Rune.j2 k s (wrap64 (c - 224)) 3 2048 := by rw [icehouseref02_Rune.j1, if_pos rfl]
theorem rj1f (k : Nat) (s : ByteArray) (c : Int) : icehouseref02_Rune.j1 (k + 1) s c false = if c ≥ 240 then (if c < 248 then icehouseref02_Rune.j2 k s (wrap64 (c - 240)) 4 65536 else some (0, 0)) else some (0, 0) := by rw [icehouseref02_Rune.j1, if_neg (by decide)]
theorem rj2 (k : Nat) (s : ByteArray) (c n l : Int) : icehouseref02_Rune.j2 (k + 1) s c n l = if (s.size : Int) < n then some (0, 0) else icehouseref02_Rune.l0 k s c n l 1 := by rw [icehouseref02_Rune.j2]
theorem rune_is (s : ByteArray) (hs : 0 < s.size) (k : Nat) : ∃ c : Int, icehouseref02_Rune.f (k + 10) s = some (c, ((widthN s.size (s.data.toList.getD 0 0).toNat (s.data.toList.getD 1 0).toNat (s.data.toList.getD 2 0).toNat (s.data.toList.getD 3 0).toNat : Nat) : Int)) := by
  have e0 := bt_getD s 0
  have e1 := bt_getD s 1
  have e2 := bt_getD s 2
  have e3 := bt_getD s 3
  have r0 := bt_range s 0
  have r1 := bt_range s 1
  have r2 := bt_range s 2
  have r3 := bt_range s 3
  rw [show ((0 : Nat) : Int) = 0 from rfl] at e0
  rw [show ((1 : Nat) : Int) = 1 from rfl] at e1
  rw [show ((2 : Nat) : Int) = 2 from rfl] at e2
  rw [show ((3 : Nat) : Int) = 3 from rfl] at e3
  have S1 : ∀ k c n least, (1 : Int) < n → 1 < s.size → 0 ≤ c → c ≤ 10000000 → icehouseref02_Rune.l0 (k + 1) s c n least 1 = if bt s 1 < 128 ∨ bt s 1 ≥ 192 then some (0, 0) else icehouseref02_Rune.l0 k s (64 * c + bt s 1 - 128) n least 2 := fun k c n least h hi a b => rune_step k s c n least 1 h hi (by decide) a b
  have S2 : ∀ k c n least, (2 : Int) < n → 2 < s.size → 0 ≤ c → c ≤ 10000000 → icehouseref02_Rune.l0 (k + 1) s c n least 2 = if bt s 2 < 128 ∨ bt s 2 ≥ 192 then some (0, 0) else icehouseref02_Rune.l0 k s (64 * c + bt s 2 - 128) n least 3 := fun k c n least h hi a b => rune_step k s c n least 2 h hi (by decide) a b
  have S3 : ∀ k c n least, (3 : Int) < n → 3 < s.size → 0 ≤ c → c ≤ 10000000 → icehouseref02_Rune.l0 (k + 1) s c n least 3 = if bt s 3 < 128 ∨ bt s 3 ≥ 192 then some (0, 0) else icehouseref02_Rune.l0 k s (64 * c + bt s 3 - 128) n least 4 := fun k c n least h hi a b => rune_step k s c n least 3 h hi (by decide) a b
  generalize (s.data.toList.getD 0 0).toNat = b0 at e0 ⊢
  generalize (s.data.toList.getD 1 0).toNat = b1 at e1 ⊢
  generalize (s.data.toList.getD 2 0).toNat = b2 at e2 ⊢
  generalize (s.data.toList.getD 3 0).toNat = b3 at e3 ⊢
  rw [e0] at r0
  rw [e1] at r1 S1
  rw [e2] at r2 S2
  rw [e3] at r3 S3
  unfold icehouseref02_Rune.f
  rw [if_neg (by omega), if_pos (by omega), e0, wid (by omega) (by omega)]
  by_cases h1 : (b0 : Int) < 128
  · rw [if_pos h1]
    exact ⟨_, by rw [widthN_ok (c := b0) (w := 1) (by unfold Lib.decodeN; rw [if_pos (by omega)]) (.inr (by omega))]; rfl⟩
  rw [if_neg h1]
  by_cases h2 : (b0 : Int) ≥ 192
  case neg =>
    rw [if_neg h2]
    rw [rj0f (k + 9), if_neg (by omega), rj1f (k + 8), if_neg (by omega)]
    refine ⟨0, ?_⟩
    rw [widthN_bad (by unfold Lib.decodeN; rw [if_neg (by omega), if_neg (by omega), if_neg (by omega), if_neg (by omega)])]
    rfl
  rw [if_pos h2]
  by_cases h3 : (b0 : Int) < 224
  · rw [decide_eq_true h3]
    rw [rj0t (k + 9), rj2 (k + 8)]
    rw [wid (by omega) (by omega)]
    by_cases hn : (s.size : Int) < 2
    · rw [if_pos hn]
      exact ⟨0, by rw [widthN_bad (by unfold Lib.decodeN; rw [if_neg (by omega), if_neg (by omega), if_neg (by omega), if_neg (by omega)])]; rfl⟩
    rw [if_neg hn, S1 (k + 7) _ _ _ (by omega) (by omega) (by omega) (by omega)]
    by_cases hc : (b1 : Int) < 128 ∨ (b1 : Int) ≥ 192
    · rw [if_pos hc]
      exact ⟨0, by rw [widthN_bad (by unfold Lib.decodeN; rw [if_neg (by omega), if_neg (by omega), if_neg (by omega), if_neg (by omega)])]; rfl⟩
    rw [if_neg hc, rune_end (k + 6) _ _ _ _ _ (by omega)]
    unfold runeEnd
    by_cases hl : 64 * ((b0 : Int) - 192) + b1 - 128 < 128
    · rw [if_pos hl]
      exact ⟨0, by rw [widthN_bad (by unfold Lib.decodeN; rw [if_neg (by omega), if_pos (by omega), if_neg (by omega)])]; rfl⟩
    rw [if_neg hl, if_neg (by omega), if_neg (by omega)]
    exact ⟨_, by rw [widthN_ok (c := b0 % 32 * 64 + b1 % 64) (w := 2) (by unfold Lib.decodeN; rw [if_neg (by omega), if_pos (by omega), if_pos (by omega)]) (.inl (by decide))]; rfl⟩
  rw [decide_eq_false h3]
  rw [rj0f (k + 9), if_pos (by omega)]
  by_cases h4 : (b0 : Int) < 240
  · rw [decide_eq_true h4]
    rw [rj1t (k + 8), rj2 (k + 7)]
    rw [wid (by omega) (by omega)]
    by_cases hn : (s.size : Int) < 3
    · rw [if_pos hn]
      exact ⟨0, by rw [widthN_bad (by unfold Lib.decodeN; rw [if_neg (by omega), if_neg (by omega), if_neg (by omega), if_neg (by omega)])]; rfl⟩
    rw [if_neg hn, S1 (k + 6) _ _ _ (by omega) (by omega) (by omega) (by omega)]
    by_cases hc : (b1 : Int) < 128 ∨ (b1 : Int) ≥ 192
    · rw [if_pos hc]
      exact ⟨0, by rw [widthN_bad (by unfold Lib.decodeN; rw [if_neg (by omega), if_neg (by omega), if_neg (by omega), if_neg (by omega)])]; rfl⟩
    rw [if_neg hc, S2 (k + 5) _ _ _ (by omega) (by omega) (by omega) (by omega)]
    by_cases hc2 : (b2 : Int) < 128 ∨ (b2 : Int) ≥ 192
    · rw [if_pos hc2]
      exact ⟨0, by rw [widthN_bad (by unfold Lib.decodeN; rw [if_neg (by omega), if_neg (by omega), if_neg (by omega), if_neg (by omega)])]; rfl⟩
    rw [if_neg hc2, rune_end (k + 4) _ _ _ _ _ (by omega)]
    unfold runeEnd
    by_cases hl : 64 * (64 * ((b0 : Int) - 224) + b1 - 128) + b2 - 128 < 2048
    · rw [if_pos hl]
      exact ⟨0, by rw [widthN_bad (by unfold Lib.decodeN; rw [if_neg (by omega), if_neg (by omega), if_pos (by omega), if_neg (by omega)])]; rfl⟩
    rw [if_neg hl, if_neg (by omega)]
    by_cases hs1 : 64 * (64 * ((b0 : Int) - 224) + b1 - 128) + b2 - 128 ≥ 55296
    · rw [if_pos hs1]
      by_cases hs2 : 64 * (64 * ((b0 : Int) - 224) + b1 - 128) + b2 - 128 < 57344
      · rw [if_pos hs2]
        exact ⟨0, by rw [widthN_bad (by unfold Lib.decodeN; rw [if_neg (by omega), if_neg (by omega), if_pos (by omega), if_neg (by omega)])]; rfl⟩
      · rw [if_neg hs2]
        exact ⟨_, by rw [widthN_ok (c := b0 % 16 * 4096 + b1 % 64 * 64 + b2 % 64) (w := 3) (by unfold Lib.decodeN; rw [if_neg (by omega), if_neg (by omega), if_pos (by omega), if_pos (by omega)]) (.inl (by decide))]; rfl⟩
    · rw [if_neg hs1]
      exact ⟨_, by rw [widthN_ok (c := b0 % 16 * 4096 + b1 % 64 * 64 + b2 % 64) (w := 3) (by unfold Lib.decodeN; rw [if_neg (by omega), if_neg (by omega), if_pos (by omega), if_pos (by omega)]) (.inl (by decide))]; rfl⟩
  rw [decide_eq_false h4]
  rw [rj1f (k + 8), if_pos (by omega)]
  by_cases h5 : (b0 : Int) < 248
  case neg =>
    rw [if_neg h5]
    exact ⟨0, by rw [widthN_bad (by unfold Lib.decodeN; rw [if_neg (by omega), if_neg (by omega), if_neg (by omega), if_neg (by omega)])]; rfl⟩
  rw [if_pos h5]
  rw [rj2 (k + 7)]
  rw [wid (by omega) (by omega)]
  by_cases hn : (s.size : Int) < 4
  · rw [if_pos hn]
    exact ⟨0, by rw [widthN_bad (by unfold Lib.decodeN; rw [if_neg (by omega), if_neg (by omega), if_neg (by omega), if_neg (by omega)])]; rfl⟩
  rw [if_neg hn, S1 (k + 6) _ _ _ (by omega) (by omega) (by omega) (by omega)]
  by_cases hc : (b1 : Int) < 128 ∨ (b1 : Int) ≥ 192
  · rw [if_pos hc]
    exact ⟨0, by rw [widthN_bad (by unfold Lib.decodeN; rw [if_neg (by omega), if_neg (by omega), if_neg (by omega), if_neg (by omega)])]; rfl⟩
  rw [if_neg hc, S2 (k + 5) _ _ _ (by omega) (by omega) (by omega) (by omega)]
  by_cases hc2 : (b2 : Int) < 128 ∨ (b2 : Int) ≥ 192
  · rw [if_pos hc2]
    exact ⟨0, by rw [widthN_bad (by unfold Lib.decodeN; rw [if_neg (by omega), if_neg (by omega), if_neg (by omega), if_neg (by omega)])]; rfl⟩
  rw [if_neg hc2, S3 (k + 4) _ _ _ (by omega) (by omega) (by omega) (by omega)]
  by_cases hc3 : (b3 : Int) < 128 ∨ (b3 : Int) ≥ 192
  · rw [if_pos hc3]
    exact ⟨0, by rw [widthN_bad (by unfold Lib.decodeN; rw [if_neg (by omega), if_neg (by omega), if_neg (by omega), if_neg (by omega)])]; rfl⟩
  rw [if_neg hc3, rune_end (k + 3) _ _ _ _ _ (by omega)]
  unfold runeEnd
  by_cases hl : 64 * (64 * (64 * ((b0 : Int) - 240) + b1 - 128) + b2 - 128) + b3 - 128 < 65536
  · rw [if_pos hl]
    exact ⟨0, by rw [widthN_bad (by unfold Lib.decodeN; rw [if_neg (by omega), if_neg (by omega), if_neg (by omega), if_pos (by omega), if_neg (by omega)])]; rfl⟩
  rw [if_neg hl]
  by_cases hg : 64 * (64 * (64 * ((b0 : Int) - 240) + b1 - 128) + b2 - 128) + b3 - 128 > 1114111
  · rw [if_pos hg]
    exact ⟨0, by rw [widthN_bad (by unfold Lib.decodeN; rw [if_neg (by omega), if_neg (by omega), if_neg (by omega), if_pos (by omega), if_neg (by omega)])]; rfl⟩
  rw [if_neg hg, if_pos (by omega), if_neg (by omega)]
  exact ⟨_, by rw [widthN_ok (c := b0 % 8 * 262144 + b1 % 64 * 4096 + b2 % 64 * 64 + b3 % 64) (w := 4) (by unfold Lib.decodeN; rw [if_neg (by omega), if_neg (by omega), if_neg (by omega), if_pos (by omega), if_pos (by omega)]) (.inl (by decide))]; rfl⟩
theorem rune_L (s : ByteArray) (hs : 0 < s.size) (k : Nat) : ∃ c : Int, icehouseref02_Rune.f (k + 10) s = some (c, ((if (Lib.decodeL s.data.toList).1 = 65533 ∧ (Lib.decodeL s.data.toList).2 = 1 then 0 else (Lib.decodeL s.data.toList).2 : Nat) : Int)) := by
  obtain ⟨c, h⟩ := rune_is s hs k
  refine ⟨c, ?_⟩
  rw [h, Lib.decodeL_N]
  unfold widthN
  rw [show s.data.toList.length = s.size from by simp]
theorem extract_list (s : ByteArray) (n : Nat) : (s.extract n s.size).data.toList = s.data.toList.drop n := by
  simp
  rw [List.take_of_length_le (by rw [List.length_drop]; simp)]
theorem good2_from : ∀ m (s : ByteArray) k, s.size ≤ m → m + 11 < k → icehouseref02_Good.l0 k s = some (Lib.validD s.data.toList) := by
  intro m
  induction m with
  | zero =>
    intro s k hm hk
    obtain ⟨k, rfl⟩ : ∃ j, k = j + 1 := ⟨k - 1, by omega⟩
    have hl : s.data.toList = [] := List.eq_nil_of_length_eq_zero (by have : s.data.toList.length = s.size := by simp
                                                                      omega)
    simp only [icehouseref02_Good.l0]
    rw [if_neg (by omega), hl]
    rfl
  | succ m ih =>
    intro s k hm hk
    obtain ⟨k, rfl⟩ : ∃ j, k = j + 10 + 1 := ⟨k - 11, by omega⟩
    have hlen : s.data.toList.length = s.size := by simp
    by_cases h0 : 0 < s.size
    · have hne : s.data.toList ≠ [] := fun e => by rw [e] at hlen; simp at hlen; omega
      obtain ⟨c, hr⟩ := rune_L s h0 k
      have hle := Lib.decodeL_le s.data.toList hne
      have hwd := Lib.decodeL_width s.data.toList
      simp only [icehouseref02_Good.l0]
      rw [if_pos (by omega), hr, Option.bind_some, Lib.validD_step _ hne]
      by_cases hb : (Lib.decodeL s.data.toList).1 = 65533 ∧ (Lib.decodeL s.data.toList).2 = 1
      · rw [if_pos hb, if_pos hb]
        rfl
      · rw [if_neg hb, if_neg hb]
        show (if (((Lib.decodeL s.data.toList).2 : Nat) : Int) = 0 then some false else _) = _
        rw [if_neg (by omega)]
        show (if 0 ≤ (((Lib.decodeL s.data.toList).2 : Nat) : Int) then _ else _) = _
        rw [if_pos (by omega)]
        show (if (((Lib.decodeL s.data.toList).2 : Nat) : Int) ≤ (s.size : Int) then icehouseref02_Good.l0 (k + 10) (s.extract (((Lib.decodeL s.data.toList).2 : Nat) : Int).toNat s.size) else none) = _
        rw [if_pos (by omega), Int.toNat_natCast, ih _ _ (by rw [ByteArray.size_extract]; omega) (by omega), extract_list]
    · exact by
        have hl : s.data.toList = [] := List.eq_nil_of_length_eq_zero (by omega)
        simp only [icehouseref02_Good.l0]
        rw [if_neg (by omega), hl]
        rfl
theorem value2_is (s : ByteArray) (k : Nat) (hk : 150 < k) : icehouseref02_Value.f k s = some (valueB s) := by
  unfold icehouseref02_Value.f valueB
  by_cases h1 : (s.size : Int) ≥ 1
  · rw [if_pos h1, decide_eq_true (show 1 ≤ s.size by omega)]
    by_cases h2 : (s.size : Int) ≤ 128
    · rw [if_pos h2, decide_eq_true (show s.size ≤ 128 by omega), icehouseref02_Good.f, good2_from 128 s k (by omega) (by omega)]
      rfl
    · rw [if_neg h2, decide_eq_false (show ¬ s.size ≤ 128 by omega)]
      rfl
  · rw [if_neg h1, decide_eq_false (show ¬ 1 ≤ s.size by omega)]
    rfl
theorem rd88_mem (l : List S88) (i : Nat) (h : i < l.length) : rd_T88 l i ∈ l := by
  show l.getD ((i : Int).toNat) _ ∈ l
  rw [Int.toNat_natCast, List.getD_eq_getElem?_getD, List.getElem?_eq_getElem h]
  exact List.getElem_mem h
theorem labels2_from (l : List S88) (hl : l.length < 9223372036854775807) (m : Nat) (hm : ∀ x ∈ l, x.f0.size ≤ m) (hm2 : m < 9223372036854775807) : ∀ d i k, i + d = l.length → d + m + 152 < k → icehouseref02_Right.l0 k l i = some (((List.range' i d).all (labOK l)) && (decide (1 ≤ l.length) && decide (l.length ≤ 16))) := by
  intro d
  induction d with
  | zero =>
    intro i k hi hk
    obtain ⟨k, rfl⟩ : ∃ m, k = m + 1 := ⟨k - 1, by omega⟩
    simp only [icehouseref02_Right.l0]
    rw [if_neg (by omega)]
    simp only [List.range'_zero, List.all_nil, Bool.true_and]
    by_cases h1 : (l.length : Int) ≥ 1
    · rw [if_pos h1, decide_eq_true (show 1 ≤ l.length by omega), Bool.true_and]
      congr 1
      rw [Bool.eq_iff_iff]; simp only [decide_eq_true_eq]; omega
    · rw [if_neg h1, decide_eq_false (show ¬ 1 ≤ l.length by omega)]; rfl
  | succ d ih =>
    intro i k hi hk
    obtain ⟨k, rfl⟩ : ∃ m, k = m + 1 := ⟨k - 1, by omega⟩
    have hx := hm _ (rd88_mem l i (by omega))
    have hw : wrap64 ((i : Int) + 1) = ((i + 1 : Nat) : Int) := by rw [wrap_id (by omega) (by omega)]; omega
    simp only [icehouseref02_Right.l0]
    rw [if_pos (by omega), if_pos (by omega), name2_is _ (by omega) k (by omega), Option.bind_some, value2_is _ k (by omega), Option.bind_some, hw, ih (i + 1) k (by omega) (by omega)]
    rw [List.range'_succ, List.all_cons]
    unfold labOK
    generalize List.all (List.range' (i + 1) d) _ = R
    cases hN : nameB (rd_T88 l i).f0 with
    | false => simp
    | true =>
      cases hV : valueB (rd_T88 l i).f1 with
      | false => simp
      | true =>
        by_cases h0 : i = 0
        · subst h0; simp
        · have hw2 : wrap64 ((i : Int) - 1) = ((i - 1 : Nat) : Int) := by rw [wrap_id (by omega) (by omega)]; omega
          have hb : (i == 0) = false := by simp [h0]
          rw [if_pos rfl, if_pos rfl, if_pos (by omega), hw2, if_pos (by omega), if_pos (by omega), hb]
          cases Op.bytesLess (rd_T88 l ((i - 1 : Nat) : Int)).f0.toList (rd_T88 l i).f0.toList <;> simp
theorem labels2_is (l : List S88) (hl : l.length < 9223372036854775807) (m : Nat) (hm : ∀ x ∈ l, x.f0.size ≤ m) (hm2 : m < 9223372036854775807) (k : Nat) (hk : l.length + m + 152 < k) : icehouseref02_Right.f k l = some (labelsR l) := by
  unfold icehouseref02_Right.f labelsR
  have := labels2_from l hl m hm hm2 l.length 0 k (by omega) hk
  rw [show ((0 : Nat) : Int) = 0 from rfl] at this
  rw [this, List.range_eq_range', Bool.and_assoc]
end Go.Proofs.YtkbmmgpdnienfaaDoor.P
