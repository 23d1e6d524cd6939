/- Part 29 of the proof of chunkBack_card: its words, walks and plain laws, one text behind the other. -/
import Derived.Test.YtkbmmgpdnienfaaDoorK926
import Derived.Test.YtkbmmgpdnienfaaDoorK928
set_option linter.unusedVariables false
set_option linter.unusedSimpArgs false
namespace Go.Proofs.YtkbmmgpdnienfaaDoor.P
open Go.RowKit Go.Proofs.YtkbmmgpdnienfaaDoorW.PrintWords Go.Proofs.YtkbmmgpdnienfaaDoorW.PrintLast Go.Proofs.YtkbmmgpdnienfaaDoorW.PrintMore
def labFrom (lab : List S88) : Nat → Nat → List Int
  | 0, _ => []
  | d + 1, i => txtE (rd_T88 lab i).f0 ++ (txtE (rd_T88 lab i).f1 ++ labFrom lab d (i + 1))
def labE (lab : List S88) : List Int := numE lab.length ++ labFrom lab lab.length 0
def labSz (lab : List S88) : Prop := ∀ i, i < lab.length → (rd_T88 lab i).f0.size ≤ 64 ∧ (rd_T88 lab i).f1.size ≤ 128
theorem labSz_of {lab : List S88} (h : labelsR lab = true) : labSz lab ∧ 1 ≤ lab.length ∧ lab.length ≤ 16 := by
  unfold labelsR at h
  simp only [Bool.and_eq_true, decide_eq_true_eq, List.all_eq_true, List.mem_range] at h
  refine ⟨fun i hi => ?_, h.1.2, h.2⟩
  have := h.1.1 i hi
  unfold labOK nameB valueB at this
  simp only [Bool.and_eq_true, decide_eq_true_eq] at this
  exact ⟨this.1.1.2, this.1.2.1.2⟩
theorem labFrom_len {lab : List S88} (h : labSz lab) : ∀ d i, d + i ≤ lab.length → (labFrom lab d i).length ≤ d * 208
  | 0, _, _ => Nat.le_refl _
  | d + 1, i, hi => by
    have ih := labFrom_len h d (i + 1) (by omega)
    have h1 := h i (by omega)
    have h2 := txtE_len (rd_T88 lab i).f0
    have h3 := txtE_len (rd_T88 lab i).f1
    simp only [labFrom, List.length_append]
    omega
theorem labFrom_ok {lab : List S88} (h : labSz lab) : ∀ d i, d + i ≤ lab.length → bytesOK (labFrom lab d i)
  | 0, _, _ => fun x hx => by cases hx
  | d + 1, i, hi => by
    have h1 := h i (by omega)
    exact (txtE_ok (by omega)).app ((txtE_ok (by omega)).app (labFrom_ok h d (i + 1) (by omega)))
theorem labE_ok {lab : List S88} (h : labelsR lab = true) : bytesOK (labE lab) ∧ (labE lab).length ≤ 3400 := by
  obtain ⟨h1, h2, h3⟩ := labSz_of h
  refine ⟨(numE_ok (by omega)).app (labFrom_ok h1 _ _ (by omega)), ?_⟩
  have := labFrom_len h1 lab.length 0 (by omega)
  have := numE_len lab.length
  unfold labE
  rw [List.length_append]
  omega
theorem labels_enc_from {lab : List S88} (h : labSz lab) (hl : lab.length ≤ 16) : ∀ d i k b, i + d = lab.length → d + 8 < k → b.length + d * 208 < 140737488355328 → label_Bytes.l0 k b lab (lab.length : Int) (i : Int) = some (b ++ labFrom lab d i, 0)
  | 0, i, k + 1, b, hi, hk, hb => by
    simp only [label_Bytes.l0, labFrom]
    rw [if_neg (by omega), List.append_nil]
  | d + 1, i, k + 1, b, hi, hk, hb => by
    have h1 := h i (by omega)
    have h2 := txtE_len (rd_T88 lab i).f0
    have h3 := txtE_len (rd_T88 lab i).f1
    simp only [label_Bytes.l0, labFrom]
    rw [if_pos (by omega), if_pos (by omega), if_pos (by omega), txt_enc (by omega) (by omega), Option.bind_some, txt_enc (by omega) (by omega), Option.bind_some]
    have hf : slices_Concat_byte_byte.f [b, txtE (rd_T88 lab i).f0, txtE (rd_T88 lab i).f1] = some (b ++ (txtE (rd_T88 lab i).f0 ++ txtE (rd_T88 lab i).f1)) := by
      unfold slices_Concat_byte_byte.f
      have e : [b, txtE (rd_T88 lab i).f0, txtE (rd_T88 lab i).f1].flatten = b ++ (txtE (rd_T88 lab i).f0 ++ txtE (rd_T88 lab i).f1) := by simp
      rw [e, if_pos (by simp only [List.length_append]; omega)]
    dsimp only
    rw [hf, Option.bind_some, w1 (by omega), labels_enc_from h hl d (i + 1) k _ (by omega) (by omega) (by simp only [List.length_append]; omega)]
    simp only [List.append_assoc]
theorem labels_enc {lab : List S88} (h : labelsR lab = true) (k : Nat) (hk : lab.length + 8 < k) : label_Bytes.f k lab = some (labE lab, 0) := by
  obtain ⟨h1, h2, h3⟩ := labSz_of h
  have hn := numE_len lab.length
  unfold label_Bytes.f
  rw [labels_is lab (by omega) k (by omega), Option.bind_some, h, if_pos rfl, num_enc (by omega) (by omega), Option.bind_some]
  have := labels_enc_from h1 h3 lab.length 0 k (numE lab.length) (by omega) (by omega) (by omega)
  exact this
def rowE (first : Bool) (was r : S48) : List Int := numE (r.f1 - was.f1).toNat ++ ((if first then numE r.f0.toNat else numE (Lib.zigzag (r.f0 - was.f0))) ++ txtE r.f2)
def rowFrom (xs : List S48) : Nat → Nat → List Int
  | 0, _ => []
  | d + 1, i => rowE (i == 0) (wasAt xs i) (rd_T48 xs i) ++ rowFrom xs d (i + 1)
def rowTill (xs : List S48) : Nat → List Int
  | 0 => []
  | j + 1 => rowTill xs j ++ rowE (j == 0) (wasAt xs j) (rd_T48 xs j)
theorem rowTill_from (xs : List S48) : ∀ d i, rowTill xs i ++ rowFrom xs d i = rowTill xs (i + d)
  | 0, i => List.append_nil _
  | d + 1, i => by
    have := rowTill_from xs d (i + 1)
    rw [rowFrom, ← List.append_assoc]
    show rowTill xs (i + 1) ++ _ = _
    rw [this]
    congr 1
    omega
def rowSz (xs : List S48) (i : Nat) : Prop := 1 ≤ (rd_T48 xs i).f0 ∧ (rd_T48 xs i).f0 < 1099511627776 ∧ 0 ≤ (rd_T48 xs i).f1 - (wasAt xs i).f1 ∧ (rd_T48 xs i).f1 - (wasAt xs i).f1 < 1099511627776 ∧ 0 ≤ (wasAt xs i).f0 ∧ (wasAt xs i).f0 < 1099511627776 ∧ (rd_T48 xs i).f2.size ≤ 1024 ∧ 0 ≤ (rd_T48 xs i).f1 ∧ (rd_T48 xs i).f1 < 1099511627776
theorem rowSz_of {lab : List S88} {xs : List S48} (h : chunkR lab xs = true) : labelsR lab = true ∧ 1 ≤ xs.length ∧ xs.length ≤ 1000 ∧ ∀ i, i < xs.length → rowSz xs i := by
  unfold chunkR rowsTo at h
  simp only [Bool.and_eq_true, decide_eq_true_eq, List.all_eq_true, List.mem_range] at h
  obtain ⟨⟨h1, h2⟩, h3⟩ := h
  have key : ∀ i, i < xs.length → 1 ≤ (rd_T48 xs i).f0 ∧ (rd_T48 xs i).f0 < 1099511627776 ∧ 0 ≤ (rd_T48 xs i).f1 ∧ (rd_T48 xs i).f1 < 1099511627776 ∧ labelsR lab = true ∧ (rd_T48 xs i).f2.size ≤ 1024 ∧ beforeB (rd_T48 xs i).f0 (rd_T48 xs i).f1 (wasAt xs i).f0 (wasAt xs i).f1 = false := by
    intro i hi
    have := h1 i hi
    unfold rowOK rightE at this
    simp only [Bool.and_eq_true, decide_eq_true_eq, Bool.not_eq_true'] at this
    obtain ⟨_, ⟨a1, a2, a3, a4, a5, a6⟩, a7⟩ := this
    exact ⟨a1, a2, a3, a4, a5, a6, a7⟩
  refine ⟨(key 0 (by omega)).2.2.2.2.1, h2, h3, fun i hi => ?_⟩
  obtain ⟨a1, a2, a3, a4, a5, a6, a7⟩ := key i hi
  unfold beforeB at a7
  simp only [Bool.or_eq_false_iff, decide_eq_false_iff_not] at a7
  match i, hi, a1, a2, a3, a4, a6, a7 with
  | 0, hi, a1, a2, a3, a4, a6, a7 => exact ⟨a1, a2, by show 0 ≤ _ - (0 : Int); omega, by show _ - (0 : Int) < _; omega, (show (0 : Int) ≤ 0 from by decide), (show (0 : Int) < 1099511627776 from by decide), a6, a3, a4⟩
  | j + 1, hi, a1, a2, a3, a4, a6, a7 =>
    obtain ⟨b1, b2, b3, b4, _⟩ := key j (by omega)
    have e : wasAt xs (j + 1) = rd_T48 xs j := rfl
    rw [e] at a7
    refine ⟨a1, a2, ?_, ?_, ?_, ?_, a6, a3, a4⟩ <;> rw [e] <;> omega
theorem rowE_len {xs : List S48} {i : Nat} (h : rowSz xs i) : (rowE (i == 0) (wasAt xs i) (rd_T48 xs i)).length ≤ 1048 := by
  obtain ⟨_, _, _, _, _, _, h7, _⟩ := h
  have h1 := numE_len ((rd_T48 xs i).f1 - (wasAt xs i).f1).toNat
  have h2 := numE_len (rd_T48 xs i).f0.toNat
  have h3 := numE_len (Lib.zigzag ((rd_T48 xs i).f0 - (wasAt xs i).f0))
  have h4 := txtE_len (rd_T48 xs i).f2
  unfold rowE
  simp only [List.length_append]
  split <;> omega
theorem rowE_ok {xs : List S48} {i : Nat} (h : rowSz xs i) : bytesOK (rowE (i == 0) (wasAt xs i) (rd_T48 xs i)) := by
  obtain ⟨h1, h2, h3, h4, h5, h6, h7, _⟩ := h
  refine (numE_ok (by omega)).app (bytesOK.app ?_ (txtE_ok (by omega)))
  split
  · exact numE_ok (by omega)
  · exact numE_ok (sig_enc (k := 8) (by omega) (by omega) (by omega)).2.2
theorem rowTill_ok {xs : List S48} (h : ∀ i, i < xs.length → rowSz xs i) : ∀ j, j ≤ xs.length → bytesOK (rowTill xs j) ∧ (rowTill xs j).length ≤ j * 1048
  | 0, _ => ⟨(fun x hx => by cases hx), Nat.le_refl _⟩
  | j + 1, hj => by
    have ih := rowTill_ok h j (by omega)
    refine ⟨ih.1.app (rowE_ok (h j (by omega))), ?_⟩
    have := rowE_len (h j (by omega))
    rw [rowTill, List.length_append]
    omega
theorem row_enc {xs : List S48} {i k : Nat} {b : List Int} (h : rowSz xs i) (hk : 7 < k) (hb : b.length ≤ 10000000) : putRow k b (wasAt xs i) (rd_T48 xs i) (i == 0) = some (b ++ rowE (i == 0) (wasAt xs i) (rd_T48 xs i)) := by
  have hlen := rowE_len h
  obtain ⟨h1, h2, h3, h4, h5, h6, h7, h8, h9⟩ := h
  generalize rd_T48 xs i = r at *
  generalize wasAt xs i = was at *
  obtain ⟨t, ht⟩ : ∃ t : Nat, r.f1 - was.f1 = (t : Int) := ⟨_, (Int.toNat_of_nonneg h3).symm⟩
  obtain ⟨s, hs⟩ : ∃ s : Nat, r.f0 = (s : Int) := ⟨_, (Int.toNat_of_nonneg (by omega)).symm⟩
  have hsg := sig_enc (x := r.f0 - was.f0) (k := k) (by omega) (by omega) hk
  unfold putRow
  unfold rowE at hlen ⊢
  rw [ht, Int.toNat_natCast] at hlen ⊢
  rw [show wrap64 (t : Int) = (t : Int) from wrap_in (by omega) (by omega), show wrap64 (r.f0 - was.f0) = r.f0 - was.f0 from wrap_in (by omega) (by omega), num_enc (by omega) hk, Option.bind_some, hsg.1, Option.bind_some]
  have e3 : (if (i == 0) = true then codec_Number.f k r.f0 else some (numE (Lib.zigzag (r.f0 - was.f0)), 0)) = some ((if (i == 0) = true then numE r.f0.toNat else numE (Lib.zigzag (r.f0 - was.f0))), 0) := by
    split
    · rw [hs, num_enc (by omega) hk, Int.toNat_natCast]
    · rfl
  rw [e3, Option.bind_some, txt_enc (by omega) hk, Option.bind_some]
  unfold slices_Concat_byte_byte.f
  generalize (if (i == 0) = true then numE r.f0.toNat else numE (Lib.zigzag (r.f0 - was.f0))) = q at hlen ⊢
  have e : [b, numE t, q, txtE r.f2].flatten = b ++ (numE t ++ (q ++ txtE r.f2)) := by simp
  dsimp only
  rw [e, if_pos (by rw [List.length_append]; omega)]
theorem rows_enc {xs : List S48} (h : ∀ i, i < xs.length → rowSz xs i) (hx : xs.length ≤ 1000) {k : Nat} (hk : 7 < k) {b : List Int} (hb : b.length ≤ 10000) : ∀ j, j ≤ xs.length → putRows k b xs j = some (b ++ rowTill xs j)
  | 0, _ => by rw [putRows, rowTill, List.append_nil]
  | j + 1, hj => by
    have ih := rows_enc h hx hk hb j (by omega)
    have h2 := (rowTill_ok h j (by omega)).2
    rw [putRows, ih, Option.bind_some, row_enc (h j (by omega)) hk (by rw [List.length_append]; omega), rowTill, List.append_assoc]
def chunkE (lab : List S88) (xs : List S48) : List Int := (numE (labE lab).length ++ labE lab) ++ (numE xs.length ++ rowTill xs xs.length)
theorem bytesOf_strOf {l : List Int} (h : bytesOK l) : bytesOf (strOfNums l) = l := by
  show (strOfNums l).data.toList.map _ = l
  have e : (strOfNums l).data.toList = l.map fun x => UInt8.ofNat x.toNat := rfl
  rw [e, List.map_map]
  refine (List.map_congr_left (g := id) fun x hx => ?_).trans (List.map_id _)
  obtain ⟨h0, h1⟩ := h x hx
  show ((UInt8.ofNat x.toNat).toNat : Int) = x
  rw [UInt8.toNat_ofNat', Nat.mod_eq_of_lt (by omega)]
  omega
theorem strOf_size {l : List Int} (h : bytesOK l) : (strOfNums l).size = l.length := by rw [← bytesOf_length, bytesOf_strOf h]
theorem put_is {lab : List S88} {xs : List S48} (hf : chunkFit lab xs) : chunk_Put.f lab xs = some (if chunkR lab xs = true then (chunkE lab xs, 0) else ([], 1)) := by
  unfold chunk_Put.f
  rw [right4_is hf, Option.bind_some]
  by_cases h : chunkR lab xs = true
  · rw [if_pos h, if_pos h]
    obtain ⟨h1, h2, h3, h4⟩ := rowSz_of h
    obtain ⟨h5, h6⟩ := labE_ok h1
    have h7 := strOf_size h5
    have h8 := numE_len xs.length
    have h9 := numE_len (labE lab).length
    unfold putB
    rw [labels_enc h1 _ (by omega), Option.bind_some, txt_enc (by rw [h7]; omega) (by omega), Option.bind_some, num_enc (by omega) (by omega), Option.bind_some]
    have e : txtE (strOfNums (labE lab)) = numE (labE lab).length ++ labE lab := by unfold txtE; rw [h7, bytesOf_strOf h5]
    dsimp only
    rw [e, if_pos (by rw [List.length_append]; omega), rows_enc h4 h3 (by omega) (by simp only [List.length_append]; omega) _ (Nat.le_refl _), Option.bind_some]
    unfold chunkE
    rw [List.append_assoc _ (numE xs.length)]
  · rw [if_neg h, if_neg h]
theorem chunkE_ok {lab : List S88} {xs : List S48} (h : chunkR lab xs = true) : bytesOK (chunkE lab xs) ∧ (chunkE lab xs).length ≤ 10000000 ∧ chunkE lab xs ≠ [] := by
  obtain ⟨h1, h2, h3, h4⟩ := rowSz_of h
  obtain ⟨h5, h6⟩ := labE_ok h1
  obtain ⟨h7, h8⟩ := rowTill_ok h4 xs.length (Nat.le_refl _)
  have h9 := numE_len xs.length
  have h10 := numE_len (labE lab).length
  refine ⟨((numE_ok (by omega)).app h5).app ((numE_ok (by omega)).app h7), ?_, ?_⟩
  · unfold chunkE
    simp only [List.length_append]
    omega
  · unfold chunkE numE encN
    split <;> simp
end Go.Proofs.YtkbmmgpdnienfaaDoor.P
namespace Go.Proofs.YtkbmmgpdnienfaaDoor.P
open Go.RowKit Go.Proofs.YtkbmmgpdnienfaaDoorW.PrintWords Go.Proofs.YtkbmmgpdnienfaaDoorW.PrintLast Go.Proofs.YtkbmmgpdnienfaaDoorW.PrintMore
theorem rd88_get (xs : List S88) (i : Nat) (h : i < xs.length) : rd_T88 xs i = xs[i] := by
  show xs.getD ((i : Int).toNat) _ = _
  rw [Int.toNat_natCast, List.getD_eq_getElem?_getD, List.getElem?_eq_getElem h]; rfl
theorem labs_back {lab : List S88} (h : labSz lab) : ∀ i, i ≤ lab.length → labsTo (labFrom lab lab.length 0) 0 i = (lab.take i, labFrom lab (lab.length - i) i, 0)
  | 0, _ => rfl
  | i + 1, hi => by
    have h1 := h i (by omega)
    have e : labFrom lab (lab.length - i) i = txtE (rd_T88 lab i).f0 ++ (txtE (rd_T88 lab i).f1 ++ labFrom lab (lab.length - (i + 1)) (i + 1)) := by
      rw [show lab.length - i = lab.length - (i + 1) + 1 from by omega]; rfl
    rw [labsTo, labs_back h i (by omega), e]
    unfold nextL
    dsimp only
    rw [textS_enc (by omega)]
    dsimp only
    rw [textS_enc (by omega)]
    dsimp only
    rw [rd88_get lab i (by omega), List.take_succ_eq_append_getElem (by omega)]
theorem read_back {lab : List S88} (h : labelsR lab = true) : readS (labE lab) = (lab, 0) := by
  obtain ⟨h1, h2, h3⟩ := labSz_of h
  have hn : numS (labE lab) 0 = ((lab.length : Int), labFrom lab lab.length 0, 0) := numS_enc (by omega) _
  have hs : labsS (labE lab) = (lab, [], 0) := by
    unfold labsS labsN
    rw [hn]
    dsimp only
    rw [Int.toNat_natCast, Nat.min_eq_left (by omega), labs_back h1 _ (Nat.le_refl _), List.take_length, Nat.sub_self]
    rfl
  unfold readS
  rw [hs, if_neg]
  show ¬ (doneR [] 0 ≠ 0 ∨ labelsR lab = false)
  rw [h]
  simp [doneR]
theorem rowE_ne (first : Bool) (was r : S48) : rowE first was r ≠ [] := by
  unfold rowE numE encN
  split <;> simp
theorem rowFrom_ne (xs : List S48) (d i : Nat) : rowFrom xs (d + 1) i ≠ [] := by
  unfold rowFrom
  intro h
  exact rowE_ne _ _ _ (List.append_eq_nil_iff.1 h).1
theorem was_succ (xs : List S48) (i : Nat) : wasAt xs (i + 1) = rd_T48 xs i := rfl
theorem next_back {xs : List S48} {i : Nat} (h : rowSz xs i) (rows : List S48) (l : List Int) : nextR i ⟨rows, wasAt xs i, rowE (i == 0) (wasAt xs i) (rd_T48 xs i) ++ l, 0⟩ = ⟨rows ++ [rd_T48 xs i], rd_T48 xs i, l, 0⟩ := by
  obtain ⟨h1, h2, h3, h4, h5, h6, h7, h8, h9⟩ := h
  generalize rd_T48 xs i = r at *
  generalize wasAt xs i = was at *
  obtain ⟨t, ht⟩ : ∃ t : Nat, r.f1 - was.f1 = (t : Int) := ⟨_, (Int.toNat_of_nonneg h3).symm⟩
  obtain ⟨s, hs⟩ : ∃ s : Nat, r.f0 = (s : Int) := ⟨_, (Int.toNat_of_nonneg (by omega)).symm⟩
  have hsg := sig_enc (x := r.f0 - was.f0) (k := 8) (by omega) (by omega) (by omega)
  obtain ⟨q, hq⟩ : ∃ q : Nat, q = (if (i == 0) = true then r.f0.toNat else Lib.zigzag (r.f0 - was.f0)) := ⟨_, rfl⟩
  have hqb : q < 72057594037927936 := by
    rw [hq]
    split
    · omega
    · exact hsg.2.2
  have hrow : rowE (i == 0) was r = numE t ++ (numE q ++ txtE r.f2) := by
    unfold rowE
    rw [ht, Int.toNat_natCast, hq]
    split <;> rfl
  have eT : rowT ⟨rows, was, rowE (i == 0) was r ++ l, 0⟩ = ((t : Int), numE q ++ (txtE r.f2 ++ l), 0) := by
    unfold rowT
    rw [hrow, List.append_assoc, List.append_assoc]
    exact numS_enc (by omega) _
  have eQ : rowQ ⟨rows, was, rowE (i == 0) was r ++ l, 0⟩ = ((q : Int), txtE r.f2 ++ l, 0) := by
    unfold rowQ
    rw [eT]
    exact numS_enc hqb _
  have eX : rowX ⟨rows, was, rowE (i == 0) was r ++ l, 0⟩ = (r.f2, l, 0) := by
    unfold rowX
    rw [eQ]
    exact textS_enc (by omega) _
  have eN : rowN i ⟨rows, was, rowE (i == 0) was r ++ l, 0⟩ = r := by
    unfold rowN
    rw [eT, eQ, eX]
    dsimp only
    have a0 : (if i = 0 then (q : Int) else wrap64 (was.f0 + unzig (q : Int))) = r.f0 := by
      by_cases hi : i = 0
      · subst hi
        rw [if_pos rfl, hq, if_pos (by decide : ((0 : Nat) == 0) = true), hs, Int.toNat_natCast]
      · rw [if_neg hi, hq, if_neg (by simpa using hi), hsg.2.1, show was.f0 + (r.f0 - was.f0) = r.f0 from by omega]
        exact wrap_in (by omega) (by omega)
    have a1 : wrap64 (was.f1 + (t : Int)) = r.f1 := by
      rw [← ht, show was.f1 + (r.f1 - was.f1) = r.f1 from by omega]
      exact wrap_in (by omega) (by omega)
    rw [a0, a1]
  unfold nextR
  rw [eN, eX]
theorem next_cut {xs : List S48} {i : Nat} (h : rowSz xs i) (rows : List S48) : (nextR i ⟨rows, wasAt xs i, (rowE (i == 0) (wasAt xs i) (rd_T48 xs i)).dropLast, 0⟩).e ≠ 0 := by
  obtain ⟨h1, h2, h3, h4, h5, h6, h7, h8, h9⟩ := h
  generalize rd_T48 xs i = r at *
  generalize wasAt xs i = was at *
  obtain ⟨t, ht⟩ : ∃ t : Nat, r.f1 - was.f1 = (t : Int) := ⟨_, (Int.toNat_of_nonneg h3).symm⟩
  have hsg := sig_enc (x := r.f0 - was.f0) (k := 8) (by omega) (by omega) (by omega)
  obtain ⟨q, hq⟩ : ∃ q : Nat, q = (if (i == 0) = true then r.f0.toNat else Lib.zigzag (r.f0 - was.f0)) := ⟨_, rfl⟩
  have hqb : q < 72057594037927936 := by
    rw [hq]
    split
    · omega
    · exact hsg.2.2
  have hrow : (rowE (i == 0) was r).dropLast = numE t ++ (numE q ++ (txtE r.f2).dropLast) := by
    have e : rowE (i == 0) was r = (numE t ++ numE q) ++ txtE r.f2 := by
      unfold rowE
      rw [ht, Int.toNat_natCast, hq, List.append_assoc]
      split <;> rfl
    rw [e, List.dropLast_append_of_ne_nil (txtE_ne _), List.append_assoc]
  rw [hrow]
  have eT : rowT ⟨rows, was, numE t ++ (numE q ++ (txtE r.f2).dropLast), 0⟩ = ((t : Int), numE q ++ (txtE r.f2).dropLast, 0) := numS_enc (by omega) _
  have eQ : rowQ ⟨rows, was, numE t ++ (numE q ++ (txtE r.f2).dropLast), 0⟩ = ((q : Int), (txtE r.f2).dropLast, 0) := by
    unfold rowQ
    rw [eT]
    exact numS_enc hqb _
  show (rowX _).2.2 ≠ 0
  unfold rowX
  rw [eQ]
  exact textS_cut (by omega)
theorem rows_back {xs : List S48} (h : ∀ i, i < xs.length → rowSz xs i) : ∀ i, i ≤ xs.length → rowsS (rowFrom xs xs.length 0) 0 i = ⟨xs.take i, wasAt xs i, rowFrom xs (xs.length - i) i, 0⟩
  | 0, _ => rfl
  | i + 1, hi => by
    have e : rowFrom xs (xs.length - i) i = rowE (i == 0) (wasAt xs i) (rd_T48 xs i) ++ rowFrom xs (xs.length - (i + 1)) (i + 1) := by
      rw [show xs.length - i = xs.length - (i + 1) + 1 from by omega]; rfl
    rw [rowsS, rows_back h i (by omega), e, next_back (h i (by omega)), was_succ, List.take_succ_eq_append_getElem (by omega), rd48_get xs i (by omega)]
theorem rows_cut {xs : List S48} (h : ∀ i, i < xs.length → rowSz xs i) : ∀ i, i < xs.length → rowsS (rowFrom xs xs.length 0).dropLast 0 i = ⟨xs.take i, wasAt xs i, (rowFrom xs (xs.length - i) i).dropLast, 0⟩
  | 0, _ => rfl
  | i + 1, hi => by
    have e : (rowFrom xs (xs.length - i) i).dropLast = rowE (i == 0) (wasAt xs i) (rd_T48 xs i) ++ (rowFrom xs (xs.length - (i + 1)) (i + 1)).dropLast := by
      rw [show xs.length - i = xs.length - (i + 1) + 1 from by omega]
      show List.dropLast (rowE (i == 0) (wasAt xs i) (rd_T48 xs i) ++ rowFrom xs (xs.length - (i + 1)) (i + 1)) = _
      rw [show xs.length - (i + 1) = xs.length - (i + 2) + 1 from by omega, List.dropLast_append_of_ne_nil (rowFrom_ne _ _ _)]
    rw [rowsS, rows_cut h i (by omega), e, next_back (h i (by omega)), was_succ, List.take_succ_eq_append_getElem (by omega), rd48_get xs i (by omega)]
theorem head_back {lab : List S88} (h : labelsR lab = true) (n : Nat) (hn : n ≤ 1000) (R : List Int) : getN ((numE (labE lab).length ++ labE lab) ++ (numE n ++ R)) = ((n : Int), R, 0) ∧ getL ((numE (labE lab).length ++ labE lab) ++ (numE n ++ R)) = lab := by
  obtain ⟨h5, h6⟩ := labE_ok h
  have h7 := strOf_size h5
  have e : txtE (strOfNums (labE lab)) = numE (labE lab).length ++ labE lab := by unfold txtE; rw [h7, bytesOf_strOf h5]
  have hT : getT ((numE (labE lab).length ++ labE lab) ++ (numE n ++ R)) = (strOfNums (labE lab), numE n ++ R, 0) := by
    unfold getT
    rw [← e]
    exact textS_enc (by rw [h7]; omega) _
  refine ⟨?_, ?_⟩
  · unfold getN
    rw [hT]
    exact numS_enc (by omega) _
  · unfold getL
    rw [hT]
    dsimp only
    rw [bytesOf_strOf h5, read_back h]
theorem till_from (xs : List S48) : rowTill xs xs.length = rowFrom xs xs.length 0 := by
  have := rowTill_from xs xs.length 0
  rw [Nat.zero_add] at this
  exact this.symm
theorem get_back {lab : List S88} {xs : List S48} (h : chunkR lab xs = true) : getS (chunkE lab xs) = (lab, xs, 0) := by
  obtain ⟨h1, h2, h3, h4⟩ := rowSz_of h
  obtain ⟨hN, hL⟩ := head_back h1 xs.length h3 (rowFrom xs xs.length 0)
  have hR : getR (chunkE lab xs) = ⟨xs, wasAt xs xs.length, [], 0⟩ := by
    unfold getR chunkE
    rw [till_from, hN]
    dsimp only
    rw [Int.toNat_natCast, rows_back h4 _ (Nat.le_refl _), List.take_length, Nat.sub_self]
    rfl
  unfold getS
  rw [hR]
  unfold chunkE
  rw [till_from, hN, hL]
  dsimp only
  rw [if_neg (by omega), if_neg (by rw [h]; simp [doneR])]
theorem get_cut {lab : List S88} {xs : List S48} (h : chunkR lab xs = true) : getS (chunkE lab xs).dropLast = ([], [], 21) := by
  obtain ⟨h1, h2, h3, h4⟩ := rowSz_of h
  obtain ⟨hN, hL⟩ := head_back h1 xs.length h3 (rowFrom xs xs.length 0).dropLast
  obtain ⟨m, hm⟩ : ∃ m, xs.length = m + 1 := ⟨xs.length - 1, by omega⟩
  have hd : (chunkE lab xs).dropLast = (numE (labE lab).length ++ labE lab) ++ (numE xs.length ++ (rowFrom xs xs.length 0).dropLast) := by
    unfold chunkE
    have hne : rowFrom xs xs.length 0 ≠ [] := by rw [hm]; exact rowFrom_ne _ _ _
    rw [till_from, List.dropLast_append_of_ne_nil (by intro h; exact hne (List.append_eq_nil_iff.1 h).2), List.dropLast_append_of_ne_nil hne]
  have hR : (getR (chunkE lab xs).dropLast).e ≠ 0 := by
    unfold getR
    rw [hd, hN]
    dsimp only
    rw [Int.toNat_natCast]
    have hc := rows_cut h4 m (by omega)
    have e2 : rowFrom xs (xs.length - m) m = rowE (m == 0) (wasAt xs m) (rd_T48 xs m) := by
      rw [hm, Nat.add_sub_cancel_left]
      exact List.append_nil _
    rw [e2] at hc
    have hk : ∀ n, n = m + 1 → (rowsS (rowFrom xs xs.length 0).dropLast 0 n).e ≠ 0 := by
      rintro n rfl
      rw [rowsS, hc]
      exact next_cut (h4 m (by omega)) _
    exact hk _ hm
  unfold getS
  rw [if_neg (by rw [hd, hN]; dsimp only; omega), if_pos]
  left
  unfold doneR
  rw [if_pos hR]
  exact hR
end Go.Proofs.YtkbmmgpdnienfaaDoor.P
