/- Part 17 of the proof of chunkBack_card: its words, walks and plain laws, one text behind the other. -/
import Derived.Laws.RangeAny
import Derived.Lib.OthersKept
import Derived.WalkSmall
import Derived.Test.YtkbmmgpdnienfaaDoorK96
set_option linter.unusedVariables false
set_option linter.unusedSimpArgs false
namespace Go.Proofs.YtkbmmgpdnienfaaDoor.P
open Go.RowKit Go.Proofs.YtkbmmgpdnienfaaDoorW.PrintWords Go.Proofs.YtkbmmgpdnienfaaDoorW.PrintLast Go.Proofs.YtkbmmgpdnienfaaDoorW.PrintMore
def letterB (c : Int) : Bool := (97 ≤ c && c ≤ 122) || (65 ≤ c && c ≤ 90) || c == 95
def digitB (c : Int) : Bool := 48 ≤ c && c ≤ 57
def nameCh (c : Int) (i : Nat) : Bool := letterB c || (i != 0 && digitB c)
def nameTo (s : ByteArray) (n : Nat) : Bool := (List.range n).all fun i => nameCh (bt s i) i
def label_Name.f (a0 : ByteArray) : Option Bool := some (nameTo a0 a0.size && decide (1 ≤ a0.size) && decide (a0.size ≤ 64))
theorem letter_is (c : Int) : label_letter.f c = some (letterB c) := by
  unfold label_letter.f letterB
  repeat' split
  all_goals (congr 1; rw [Bool.eq_iff_iff]; simp; try omega)
theorem digit_is (c : Int) : label_digit.f c = some (digitB c) := by
  unfold label_digit.f digitB
  repeat' split
  all_goals (congr 1; rw [Bool.eq_iff_iff]; simp; try omega)
theorem nameTo_succ (s : ByteArray) (n : Nat) : nameTo s (n + 1) = (nameTo s n && nameCh (bt s n) n) := by
  simp [nameTo, List.range_succ]
theorem nameTo_false (s : ByteArray) (n m : Nat) (h : n < m) (hc : nameCh (bt s n) n = false) : nameTo s m = false := by
  simp only [nameTo, List.all_eq_false, List.mem_range]
  exact ⟨n, h, by simp [hc]⟩
theorem nameCh_high (c : Int) (i : Nat) (h : 128 ≤ c) : nameCh c i = false := by
  simp only [nameCh, letterB, digitB, Bool.or_eq_false_iff, Bool.and_eq_false_iff, decide_eq_false_iff_not, beq_eq_false_iff_ne]
  omega
set_option maxHeartbeats 1000000 in
set_option maxRecDepth 100000 in
theorem label_Name.calls (a0 : ByteArray) (r : Bool) (w : World) (h : label_Name.f a0 = some r) :
    Calls Tryd.prog 109 #[.string a0] w fun e w' => e = .returned (.bool r) ∧ Below w.heap.size w w' := by
  obtain ⟨R, hR⟩ : ∃ R, nameTo a0 a0.size = R := ⟨_, rfl⟩
  unfold label_Name.f at h
  rw [hR] at h
  have HR := Aside0.mk hR
  have H := Aside0.mk (Option.some.inj h)
  clear h hR
  go_enter Tryd.func109, Tryd.ntmps109
  go_wp2_with fail
  go_loopw [3] (fun _ wr => ∃ pos : Nat, pos ≤ a0.size ∧ Aside0 (nameTo a0 pos = true) ∧ Aside0 (wr.heap[w.heap.size]? = some (.stringIter a0 pos)) ∧ Aside0 (Below w.heap.size w wr)) (fun _ wr => a0.size - wr.iterPos w.heap.size)
  case atStart => exact ⟨0, Nat.zero_le _, ⟨rfl⟩, ⟨World.iter_heap _ _ _⟩, ⟨(Below.refl _ _).alloc (Nat.le_refl _) _⟩⟩
  case round =>
    obtain ⟨pos, hpos, HN, HI, HB⟩ := hrel
    by_cases hp : pos < a0.size
    · have hnx : ∀ ty, (Instr.next (.pointer (some ⟨w.heap.size, 0, none⟩)) true ty).run Tryd.prog wr = _ := fun ty => Lib.run_next_any_at wr w.heap.size a0 pos ty HI.out hp
      have hW1 := Lib.iterAt_heap wr w.heap.size a0 pos (pos + (Utf8.decode a0 pos).2) HI.out
      have hB1 := Lib.below_iterAt HB.out (Nat.le_refl w.heap.size) a0 (pos + (Utf8.decode a0 pos).2)
      have hsz := Lib.iterAt_size wr w.heap.size a0 (pos + (Utf8.decode a0 pos).2)
      have hd : nameCh ((Utf8.decode a0 pos).1 : Int) pos = true → (Utf8.decode a0 pos).2 = 1 ∧ ((Utf8.decode a0 pos).1 : Int) = bt a0 pos := by
        intro hc
        by_cases ha : (a0[pos]'hp).toNat < 128
        · rw [decode_ascii a0 pos hp ha]; exact ⟨rfl, by simp [bt, hp]⟩
        · have := decode_high a0 pos hp (by omega)
          rw [nameCh_high _ _ (by omega)] at hc
          cases hc
      have hd2 : nameCh ((Utf8.decode a0 pos).1 : Int) pos = false → nameCh (bt a0 pos) pos = false := by
        intro hc
        by_cases ha : (a0[pos]'hp).toNat < 128
        · rw [decode_ascii a0 pos hp ha] at hc; rw [← hc]; simp [bt, hp]
        · have hb : (128 : Int) ≤ bt a0 pos := by simp only [bt, Int.toNat_natCast, hp, dif_pos]; omega
          exact nameCh_high _ _ hb
      generalize wr.iterAt w.heap.size a0 (pos + (Utf8.decode a0 pos).2) = W1 at hnx hW1 hB1 hsz
      generalize (Utf8.decode a0 pos).2 = d at hd hW1
      generalize ((Utf8.decode a0 pos).1 : Int) = c at hnx hd hd2
      have HW1 := Aside0.mk hW1
      have HB1 := Aside0.mk hB1
      have HD := Aside0.mk hd
      have HD2 := Aside0.mk hd2
      have HIP := Aside0.mk (iterPos_of HI.out)
      clear hW1 hB1 hsz hd hd2 HB HI
      have CL := fun W => label_letter.calls c (letterB c) W (letter_is c)
      have CD := fun W => label_digit.calls c (digitB c) W (digit_is c)
      have HCL := Aside0.mk CL
      have HCD := Aside0.mk CD
      clear CL CD
      cases hl : letterB c with
      | true =>
        rw [hl] at HCL
        have HC : Aside0 (nameCh c pos = true) := ⟨by simp [nameCh, hl]⟩
        go_wp2_with (go_at_call 117; (with_reducible refine (HCL.out _).mono ?_); rintro e w' ⟨rfl, ⟨nd, rfl⟩⟩)
        go_roundw
        case rel =>
          obtain ⟨rfl, hb⟩ := HD.out HC.out
          exact ⟨pos + 1, by omega, ⟨by rw [nameTo_succ, HN.out, ← hb, HC.out]; rfl⟩, HW1, ⟨pw_below_drewN HB1.out _⟩⟩
        case measure =>
          obtain ⟨rfl, hb⟩ := HD.out HC.out
          have h1 : (W1.drewN nd).iterPos w.heap.size = pos + 1 := iterPos_of HW1.out
          rw [h1, HIP.out]; omega
      | false =>
        rw [hl] at HCL
        by_cases h0 : pos = 0
        · have h0b : ((pos : Int) == 0) = true := by simp [h0]
          have HC : Aside0 (nameCh c pos = false) := ⟨by simp [nameCh, hl, h0]⟩
          have HP := Aside0.mk hp
          clear h0
          go_wp2_with (go_at_call 117; (with_reducible refine (HCL.out _).mono ?_); rintro e w' ⟨rfl, ⟨nd, rfl⟩⟩)
          go_ret
          have hf := nameTo_false a0 pos a0.size HP.out (HD2.out HC.out)
          exact ⟨by rw [← H.out, ← HR.out, hf]; rfl, pw_below_drewN HB1.out _⟩
        · have h0b : ((pos : Int) == 0) = false := by simp [h0]
          cases hg : digitB c with
          | true =>
            rw [hg] at HCD
            have HC : Aside0 (nameCh c pos = true) := ⟨by simp [nameCh, hl, hg, h0]⟩
            clear h0
            go_wp2_with (first | (go_at_call 117; (with_reducible refine (HCL.out _).mono ?_); rintro e w' ⟨rfl, ⟨nd, rfl⟩⟩) | (go_at_call 118; (with_reducible refine (HCD.out _).mono ?_); rintro e w' ⟨rfl, ⟨nd2, rfl⟩⟩))
            go_roundw
            case rel =>
              obtain ⟨rfl, hb⟩ := HD.out HC.out
              exact ⟨pos + 1, by omega, ⟨by rw [nameTo_succ, HN.out, ← hb, HC.out]; rfl⟩, HW1, ⟨pw_below_drewN HB1.out _⟩⟩
            case measure =>
              obtain ⟨rfl, hb⟩ := HD.out HC.out
              have h1 : (W1.drewN (nd + nd2)).iterPos w.heap.size = pos + 1 := iterPos_of HW1.out
              rw [h1, HIP.out]; omega
          | false =>
            rw [hg] at HCD
            have HC : Aside0 (nameCh c pos = false) := ⟨by simp [nameCh, hl, hg]⟩
            have HP := Aside0.mk hp
            clear h0
            go_wp2_with (first | (go_at_call 117; (with_reducible refine (HCL.out _).mono ?_); rintro e w' ⟨rfl, ⟨nd, rfl⟩⟩) | (go_at_call 118; (with_reducible refine (HCD.out _).mono ?_); rintro e w' ⟨rfl, ⟨nd2, rfl⟩⟩))
            go_ret
            have hf := nameTo_false a0 pos a0.size HP.out (HD2.out HC.out)
            exact ⟨by rw [← H.out, ← HR.out, hf]; rfl, pw_below_drewN HB1.out _⟩
    · have hnx : ∀ ty, (Instr.next (.pointer (some ⟨w.heap.size, 0, none⟩)) true ty).run Tryd.prog wr = _ := fun ty => Lib.run_next_end_at wr w.heap.size a0 pos ty HI.out hp
      have hps : pos = a0.size := by omega
      have hRt : R = true := by rw [← HR.out, ← hps]; exact HN.out
      have HRT := Aside0.mk hRt
      clear hRt hps
      by_cases h1 : (1 : Int) ≤ (a0.size : Int)
      · have d1 : decide (1 ≤ a0.size) = true := decide_eq_true (by omega)
        have HD1 := Aside0.mk d1
        clear d1
        by_cases h2 : (a0.size : Int) ≤ 64
        · have d2 : decide (a0.size ≤ 64) = true := decide_eq_true (by omega)
          have HD2 := Aside0.mk d2
          clear d2
          go_wp2_with fail
          go_ret
          exact ⟨by rw [← H.out, HRT.out, HD1.out, HD2.out]; rfl, HB.out⟩
        · have d2 : decide (a0.size ≤ 64) = false := decide_eq_false (by omega)
          have HD2 := Aside0.mk d2
          clear d2
          go_wp2_with fail
          go_ret
          exact ⟨by rw [← H.out, HRT.out, HD1.out, HD2.out]; rfl, HB.out⟩
      · have d1 : decide (1 ≤ a0.size) = false := decide_eq_false (by omega)
        have HD1 := Aside0.mk d1
        clear d1
        go_wp2_with fail
        go_ret
        exact ⟨by rw [← H.out, HRT.out, HD1.out]; rfl, HB.out⟩
end Go.Proofs.YtkbmmgpdnienfaaDoor.P
