/- Part 13 of the proof of chunkBack_card: its words, walks and plain laws, one text behind the other. -/
import Derived.BigRegion
import Derived.Test.YtkbmmgpdnienfaaDoorK911
import Derived.Test.YtkbmmgpdnienfaaDoorK912
import Derived.Test.YtkbmmgpdnienfaaDoorK96
set_option linter.unusedVariables false
set_option linter.unusedSimpArgs false
namespace Go.Proofs.YtkbmmgpdnienfaaDoor.P
open Go.RowKit Go.Proofs.YtkbmmgpdnienfaaDoorW.PrintWords Go.Proofs.YtkbmmgpdnienfaaDoorW.PrintLast Go.Proofs.YtkbmmgpdnienfaaDoorW.PrintMore
attribute [local go_sem] Oper.semAt_some
def Dec (W : World) (lo g : Nat) (l : List Int) (e : Int) : Prop :=
  ∃ A c, W.heap[g]? = some (.cells #[.slice A l.length c, .int .i64 e, .bool true] 139 (0, 0)) ∧ lo ≤ g ∧ l.length ≤ c ∧ Kd.F (Kd.int .u8) W (fun k => lo ≤ k ∧ k < g) A l.length l
theorem Dec.lt {W : World} {lo g : Nat} {l : List Int} {e : Int} (h : Dec W lo g l e) : g < W.heap.size := by obtain ⟨A, c, hb, _⟩ := h; exact (Array.getElem?_eq_some_iff.1 hb).1
theorem Dec.step {W W1 : World} {lo g : Nat} {l : List Int} {e : Int} (h : Dec W lo g l e) (hk : ∀ i, i < W.heap.size → lo ≤ i → i ≤ g → W1.heap[i]? = W.heap[i]?) : Dec W1 lo g l e := by
  have hl := h.lt
  obtain ⟨A, c, hg, hlo, hc, hF⟩ := h
  exact ⟨A, c, (hk g hl hlo (Nat.le_refl _)).trans hg, hlo, hc, Kd.F_step hF (fun k h1 h2 => hk k h2 h1.1 (by omega))⟩
theorem Dec.below {W W1 : World} {lo g B : Nat} {l : List Int} {e : Int} (h : Dec W lo g l e) (hb : Below B W W1) (hB : g < B) : Dec W1 lo g l e := h.step (fun i _ _ h3 => hb.block i (by omega))
abbrev Kp1 (g : Nat) (A B : World) : Prop := KpW (fun i => i = g) A B
set_option maxHeartbeats 1000000 in
theorem none_calls (lo g : Nat) (l : List Int) (e : Int) (w : World) (h : Dec w lo g l e) : Calls Tryd.prog 99 #[.pointer (some ⟨g, 0, none⟩)] w fun en w' => en = .returned (.bool false) ∧ w = w' := by
  obtain ⟨A, c, hg, -, -, -⟩ := h
  have hu := Tryd.underlying139
  have y2 : w.cell? ⟨g, 2, none⟩ = some (.bool true) := (blk_cell hg 2).trans rfl
  clear hg
  go_enter Tryd.func99, Tryd.ntmps99
  go_wp2
  go_ret
  exact ⟨rfl, rfl⟩
set_option maxHeartbeats 1000000 in
theorem err_calls (lo g : Nat) (l : List Int) (e : Int) (w : World) (h : Dec w lo g l e) : Calls Tryd.prog 72 #[.pointer (some ⟨g, 0, none⟩)] w fun en w' => en = .returned (.int .i64 e) ∧ w = w' := by
  have HD := Aside0.mk h
  obtain ⟨A, c, hg, -, -, -⟩ := h
  have hu := Tryd.underlying139
  have y1 : w.cell? ⟨g, 1, none⟩ = some (.int .i64 e) := (blk_cell hg 1).trans rfl
  clear hg
  go_enter Tryd.func72, Tryd.ntmps72
  go_wp2_with (go_at_call 99; refine (none_calls lo g l e _ HD.out).mono ?_; rintro en w' ⟨rfl, rfl⟩)
  go_ret
  exact ⟨rfl, rfl⟩
def doneR (l : List Int) (e : Int) : Int := if e ≠ 0 then e else if l ≠ [] then 21 else 0
set_option maxHeartbeats 1000000 in
set_option maxRecDepth 100000 in
theorem done_calls (lo g : Nat) (l : List Int) (e : Int) (w : World) (h : Dec w lo g l e) : Calls Tryd.prog 73 #[.pointer (some ⟨g, 0, none⟩)] w fun en w' => en = .returned (.int .i64 (doneR l e)) ∧ w = w' := by
  have HD := Aside0.mk h
  obtain ⟨A, c, hg, -, -, -⟩ := h
  have hu := Tryd.underlying139
  have y0 : w.cell? ⟨g, 0, none⟩ = some (.slice A l.length c) := (blk_cell hg 0).trans rfl
  clear hg
  by_cases he : e = 0
  · subst he
    by_cases hl : l = []
    · have hz : ¬ (0 : Int) < (l.length : Int) := by rw [hl]; simp
      have HL := Aside0.mk hl
      clear hl
      go_enter Tryd.func73, Tryd.ntmps73
      go_wp2_with (go_at_call 72; refine (err_calls lo g _ _ _ HD.out).mono ?_; rintro en w' ⟨rfl, rfl⟩)
      go_ret
      exact ⟨by simp [doneR, HL.out], rfl⟩
    · have hz : (0 : Int) < (l.length : Int) := by have := List.length_pos_iff.2 hl; omega
      have HL := Aside0.mk hl
      clear hl
      go_enter Tryd.func73, Tryd.ntmps73
      go_wp2_with (go_at_call 72; refine (err_calls lo g _ _ _ HD.out).mono ?_; rintro en w' ⟨rfl, rfl⟩)
      go_ret
      exact ⟨by simp [doneR, HL.out], rfl⟩
  · go_enter Tryd.func73, Tryd.ntmps73
    go_wp2_with (go_at_call 72; refine (err_calls lo g _ _ _ HD.out).mono ?_; rintro en w' ⟨rfl, rfl⟩)
    go_ret
    exact ⟨by simp [doneR, he], rfl⟩
def numD (l : List Int) (e : Int) : Option (Int × List Int × Int) := if e ≠ 0 then some (0, l, e) else (codec_number.f 9 l).bind fun r => if 0 ≤ r.2.1 ∧ r.2.1 ≤ (l.length : Int) then some (r.1, l.drop r.2.1.toNat, r.2.2) else none
set_option maxHeartbeats 2000000 in
set_option maxRecDepth 100000 in
theorem number_calls (lo g : Nat) (l : List Int) (e : Int) (n : Int) (l' : List Int) (e' : Int) (w : World) (hD : Dec w lo g l e) (h : numD l e = some (n, l', e')) :
    Calls Tryd.prog 70 #[.pointer (some ⟨g, 0, none⟩)] w fun en w' => en = .returned (.int .i64 n) ∧ Dec w' lo g l' e' ∧ Kp1 g w w' := by
  have HD := Aside0.mk hD
  obtain ⟨A, c, hg, hlo, hc, hF⟩ := hD
  have HLO := Aside0.mk hlo
  clear hlo
  have hu := Tryd.underlying139
  have y0 : w.cell? ⟨g, 0, none⟩ = some (.slice A l.length c) := (blk_cell hg 0).trans rfl
  have y1 : w.cell? ⟨g, 1, none⟩ = some (.int .i64 e) := (blk_cell hg 1).trans rfl
  have HG := Aside0.mk hg
  have HF := Aside0.mk hF
  have HC := Aside0.mk hc
  clear hg hc hF
  unfold numD at h
  by_cases he : e = 0
  · subst he
    rw [if_neg (by simp)] at h
    obtain ⟨⟨r1, r2, r3⟩, hr, h⟩ := Option.bind_eq_some_iff.1 h
    have HR := Aside0.mk hr
    clear hr
    by_cases hs : 0 ≤ r2 ∧ r2 ≤ (l.length : Int)
    case neg => rw [if_neg hs] at h; cases h
    rw [if_pos hs] at h
    simp only [Option.some.injEq, Prod.mk.injEq] at h
    obtain ⟨rfl, rfl, rfl⟩ := h
    obtain ⟨s, rfl⟩ : ∃ s : Nat, r2 = (s : Int) := ⟨r2.toNat, by omega⟩
    have hs2 : (s : Int) ≤ (l.length : Int) := hs.2
    have hs1 : (0 : Int) ≤ (s : Int) := hs.1
    clear hs
    go_enter Tryd.func70, Tryd.ntmps70
    go_wp2_with (first
      | (go_at_call 99; refine (none_calls lo g _ _ _ HD.out).mono ?_; rintro en w' ⟨rfl, rfl⟩)
      | (go_at_call 100; refine (codec_number.calls 9 A c l r1 s r3 _ (Kd.F_now HF.out) HC.out HR.out).mono ?_; rintro en w' ⟨rfl, ⟨nq, rfl⟩⟩))
    have hg2 := blk_drewN HG.out nq
    have HG2 := Aside0.mk hg2
    have HK := Aside0.mk (KpW.drewN (KpW.refl (fun i => i = g) w) nq)
    have HF2 := Aside0.mk (Kd.F_drewN HF.out nq)
    clear y0 y1 HG HF HD hg2
    generalize w.drewN nq = w2 at HG2 HK HF2 ⊢
    have y0 : w2.cell? ⟨g, 0, none⟩ = some (.slice A l.length c) := (blk_cell HG2.out 0).trans rfl
    have y1 : w2.cell? ⟨g, 1, none⟩ = some (.int .i64 0) := (blk_cell HG2.out 1).trans rfl
    have z0 := blk_frozen HG2.out 0
    have z1 := blk_frozen HG2.out 1
    have hF := Kd.F_cut (m := s) (c := c) HF2.out (by omega) HC.out
    rw [show (Kd.int .u8).sz = 1 from rfl, Nat.mul_one] at hF
    go_region
    generalize (if c = s then A else Option.map (fun x => x.add s) A) = A2 at hF ⊢
    rw [show l.length - s = (l.drop s).length from List.length_drop.symm]
    have hb := blk_drew (blk_put (blk_put HG2.out 1 (.int .i64 r3) rfl) 0 (.slice A2 (l.drop s).length (c - s)) rfl)
    have hF3 := Kd.F_drew (Kd.F_far (p := ⟨g, 0, none⟩) (Kd.F_far (p := ⟨g, 1, none⟩) hF (fun _ h => Nat.ne_of_lt h.2) (.int .i64 r3)) (fun _ h => Nat.ne_of_lt h.2) (.slice A2 (l.drop s).length (c - s)))
    have hk := HK.out.trans (KpW.drewN (KpW.trans (KpW.of_grown (S := fun i => i = g) (grown_set w2 g 1 (.int .i64 r3)) (fun r e => by cases e; rfl)) (KpW.of_grown (grown_set _ g 0 (.slice A2 (l.drop s).length (c - s))) (fun r e => by cases e; rfl))) 1)
    have HFIN : Aside0 (Dec _ lo g (l.drop s) r3 ∧ Kp1 g w _) := ⟨⟨A2, c - s, hb, HLO.out, by rw [List.length_drop]; have := HC.out; omega, hF3⟩, hk⟩
    clear hb hF3 hk hF
    go_wp2
    go_ret
    exact ⟨rfl, HFIN.out⟩
  · rw [if_pos he] at h
    simp only [Option.some.injEq, Prod.mk.injEq] at h
    obtain ⟨rfl, rfl, rfl⟩ := h
    go_enter Tryd.func70, Tryd.ntmps70
    go_wp2_with (go_at_call 99; refine (none_calls lo g _ _ _ HD.out).mono ?_; rintro en w' ⟨rfl, rfl⟩)
    go_ret
    exact ⟨rfl, HD.out, KpW.refl _ _⟩
end Go.Proofs.YtkbmmgpdnienfaaDoor.P
namespace Go.Proofs.YtkbmmgpdnienfaaDoor.P
open Go.RowKit Go.Proofs.YtkbmmgpdnienfaaDoorW.PrintWords Go.Proofs.YtkbmmgpdnienfaaDoorW.PrintLast Go.Proofs.YtkbmmgpdnienfaaDoorW.PrintMore
attribute [local go_sem] Oper.semAt_some
theorem Dec.of {w W : World} {lo g c : Nat} {A : Option Addr} {l : List Int} {e : Int} (hlo : lo ≤ g) (hF : Kd.F (Kd.int .u8) w (fun k => lo ≤ k ∧ k < g) A l.length l) (hc : l.length ≤ c) (hk : Kp1 g w W) (hb : W.heap[g]? = some (.cells #[.slice A l.length c, .int .i64 e, .bool true] 139 (0, 0))) : Dec W lo g l e ∧ Kp1 g w W :=
  ⟨⟨A, c, hb, hlo, hc, Kd.F_step hF (fun k h1 h2 => hk.block k h2 (Nat.ne_of_lt h1.2))⟩, hk⟩
theorem Kp1.set {g j : Nat} {A B : World} {v : Value} (h : Kp1 g A B) : Kp1 g A (B.setCell ⟨g, j, none⟩ v) := h.trans (KpW.of_grown (grown_set B g j v) (fun r e => by cases e; rfl))
def textD (l : List Int) (e : Int) : Option (ByteArray × List Int × Int) := (numD l e).bind fun r =>
  if r.2.2 ≠ 0 then some (⟨#[]⟩, l, r.2.2) else if 65536 < r.1 then some (⟨#[]⟩, l, 21) else if (r.2.1.length : Int) < r.1 then some (⟨#[]⟩, l, 20) else if 0 ≤ r.1 then some (strOfNums (r.2.1.take r.1.toNat), r.2.1.drop r.1.toNat, 0) else none
set_option maxHeartbeats 4000000 in
set_option maxRecDepth 100000 in
theorem text_calls (lo g : Nat) (l : List Int) (e : Int) (s : ByteArray) (l' : List Int) (e' : Int) (w : World) (hD : Dec w lo g l e) (h : textD l e = some (s, l', e')) :
    Calls Tryd.prog 69 #[.pointer (some ⟨g, 0, none⟩)] w fun en w' => en = .returned (.string s) ∧ Dec w' lo g l' e' ∧ Kp1 g w w' := by
  have HD := Aside0.mk hD
  obtain ⟨A, c, hg, hlo, hc, hF⟩ := hD
  have HLO := Aside0.mk hlo
  clear hlo
  have hu := Tryd.underlying139
  have hu56 := Tryd.underlying56
  have y0 : w.cell? ⟨g, 0, none⟩ = some (.slice A l.length c) := (blk_cell hg 0).trans rfl
  have HF := Aside0.mk hF
  have HC := Aside0.mk hc
  clear hg hc hF
  obtain ⟨⟨n, l1, e1⟩, hn, h⟩ := Option.bind_eq_some_iff.1 h
  have HN := Aside0.mk hn
  clear hn
  simp only at h
  by_cases he : e1 = 0
  · subst he
    rw [if_neg (by simp)] at h
    by_cases hb : 65536 < n
    · rw [if_pos hb] at h
      simp only [Option.some.injEq, Prod.mk.injEq] at h
      obtain ⟨rfl, rfl, rfl⟩ := h
      go_enter Tryd.func69, Tryd.ntmps69
      go_wp2_with (first
        | (go_at_call 99; refine (none_calls lo g _ _ _ HD.out).mono ?_; rintro en w' ⟨rfl, rfl⟩)
        | (go_at_call 70; refine (number_calls lo g _ _ _ _ _ _ HD.out HN.out).mono ?_; rintro en w1 ⟨rfl, hD1, hk1⟩; have HK1 := Aside0.mk hk1; obtain ⟨A1, c1, hg1, -, hc1, hF1⟩ := hD1; have HG1 := Aside0.mk hg1; have HF1 := Aside0.mk hF1; have HC1 := Aside0.mk hc1; clear y0 hk1 hg1 hF1 hc1; have y0 : w1.cell? ⟨g, 0, none⟩ = some (.slice A1 l1.length c1) := (blk_cell HG1.out 0).trans rfl; have y1 : w1.cell? ⟨g, 1, none⟩ = some (.int .i64 0) := (blk_cell HG1.out 1).trans rfl; have z0 := blk_frozen HG1.out 0; have z1 := blk_frozen HG1.out 1))
      go_ret
      exact ⟨rfl, Dec.of HLO.out HF.out HC.out HK1.out.set.set (blk_put (blk_put HG1.out 1 (.int .i64 21) rfl) 0 (.slice A l.length c) rfl)⟩
    · rw [if_neg hb] at h
      by_cases hb2 : (l1.length : Int) < n
      · rw [if_pos hb2] at h
        simp only [Option.some.injEq, Prod.mk.injEq] at h
        obtain ⟨rfl, rfl, rfl⟩ := h
        go_enter Tryd.func69, Tryd.ntmps69
        go_wp2_with (first
          | (go_at_call 99; refine (none_calls lo g _ _ _ HD.out).mono ?_; rintro en w' ⟨rfl, rfl⟩)
          | (go_at_call 70; refine (number_calls lo g _ _ _ _ _ _ HD.out HN.out).mono ?_; rintro en w1 ⟨rfl, hD1, hk1⟩; have HK1 := Aside0.mk hk1; obtain ⟨A1, c1, hg1, -, hc1, hF1⟩ := hD1; have HG1 := Aside0.mk hg1; have HF1 := Aside0.mk hF1; have HC1 := Aside0.mk hc1; clear y0 hk1 hg1 hF1 hc1; have y0 : w1.cell? ⟨g, 0, none⟩ = some (.slice A1 l1.length c1) := (blk_cell HG1.out 0).trans rfl; have y1 : w1.cell? ⟨g, 1, none⟩ = some (.int .i64 0) := (blk_cell HG1.out 1).trans rfl; have z0 := blk_frozen HG1.out 0; have z1 := blk_frozen HG1.out 1))
        go_ret
        exact ⟨rfl, Dec.of HLO.out HF.out HC.out HK1.out.set.set (blk_put (blk_put HG1.out 1 (.int .i64 20) rfl) 0 (.slice A l.length c) rfl)⟩
      · rw [if_neg hb2] at h
        by_cases h0 : 0 ≤ n
        case neg => rw [if_neg h0] at h; cases h
        rw [if_pos h0] at h
        simp only [Option.some.injEq, Prod.mk.injEq] at h
        obtain ⟨rfl, rfl, rfl⟩ := h
        obtain ⟨m, rfl⟩ : ∃ m : Nat, n = (m : Int) := ⟨n.toNat, by omega⟩
        have hm : (m : Int) ≤ (l1.length : Int) := by omega
        have hm0 : (0 : Int) ≤ (m : Int) := by omega
        simp only [Int.toNat_natCast]
        go_enter Tryd.func69, Tryd.ntmps69
        go_wp2_with (first
          | (go_at_call 99; refine (none_calls lo g _ _ _ HD.out).mono ?_; rintro en w' ⟨rfl, rfl⟩)
          | (go_at_call 70; refine (number_calls lo g _ _ _ _ _ _ HD.out HN.out).mono ?_; rintro en w1 ⟨rfl, hD1, hk1⟩; have HK1 := Aside0.mk hk1; obtain ⟨A1, c1, hg1, -, hc1, hF1⟩ := hD1; have HG1 := Aside0.mk hg1; have HF1 := Aside0.mk hF1; have HC1 := Aside0.mk hc1; clear y0 hk1 hg1 hF1 hc1; have y0 : w1.cell? ⟨g, 0, none⟩ = some (.slice A1 l1.length c1) := (blk_cell HG1.out 0).trans rfl; have y1 : w1.cell? ⟨g, 1, none⟩ = some (.int .i64 0) := (blk_cell HG1.out 1).trans rfl; have z0 := blk_frozen HG1.out 0; have z1 := blk_frozen HG1.out 1; have hmc : (m : Int) ≤ (c1 : Int) := (by have := HC1.out; omega); have hcv := Kd.C_string (P := Tryd.prog) (src := 56) (dst := 9) (n := (l1.take m).length) (c := c1) Tryd.underlying56 Tryd.underlying5 Tryd.underlying9 (Kd.C_take (m := m) (Kd.F_now HF1.out) (by omega)); rw [show (l1.take m).length = m from (by rw [List.length_take]; omega)] at hcv; obtain ⟨i0, hi0, _, hsz, _⟩ := info_parts info5; have hcut := cut_from (P := Tryd.prog) 56 5 .i64 Tryd.underlying56 hi0 1 hsz A1 l1.length c1 (m : Int) hm0 hm; have hF2 := Kd.F_cut (m := m) (c := c1) HF1.out (by omega) HC1.out; rw [show (Kd.int .u8).sz = 1 from rfl] at hF2; simp only [Int.toNat_natCast, Nat.mul_one] at hcut hF2; generalize (if c1 = m then A1 else Option.map (fun x => x.add m) A1) = A2 at hcut hF2; have HF2 := Aside0.mk hF2; clear hF2 hi0 hsz))
        go_ret
        rw [show l1.length - m = (l1.drop m).length from List.length_drop.symm]
        refine ⟨rfl, ⟨A2, c1 - m, blk_put HG1.out 0 (.slice A2 (l1.drop m).length (c1 - m)) rfl, HLO.out, by rw [List.length_drop]; have := HC1.out; omega, Kd.F_far (p := ⟨g, 0, none⟩) HF2.out (fun _ h => Nat.ne_of_lt h.2) _⟩, HK1.out.set⟩
  · rw [if_pos he] at h
    simp only [Option.some.injEq, Prod.mk.injEq] at h
    obtain ⟨rfl, rfl, rfl⟩ := h
    go_enter Tryd.func69, Tryd.ntmps69
    go_wp2_with (first
      | (go_at_call 99; refine (none_calls lo g _ _ _ HD.out).mono ?_; rintro en w' ⟨rfl, rfl⟩)
      | (go_at_call 70; refine (number_calls lo g _ _ _ _ _ _ HD.out HN.out).mono ?_; rintro en w1 ⟨rfl, hD1, hk1⟩; have HK1 := Aside0.mk hk1; obtain ⟨A1, c1, hg1, -, hc1, hF1⟩ := hD1; have HG1 := Aside0.mk hg1; have HF1 := Aside0.mk hF1; have HC1 := Aside0.mk hc1; clear y0 hk1 hg1 hF1 hc1; have y0 : w1.cell? ⟨g, 0, none⟩ = some (.slice A1 l1.length c1) := (blk_cell HG1.out 0).trans rfl; have y1 : w1.cell? ⟨g, 1, none⟩ = some (.int .i64 e1) := (blk_cell HG1.out 1).trans rfl; have z0 := blk_frozen HG1.out 0; have z1 := blk_frozen HG1.out 1))
    go_ret
    exact ⟨rfl, Dec.of HLO.out HF.out HC.out HK1.out.set (blk_put HG1.out 0 (.slice A l.length c) rfl)⟩
def unzig (n : Int) : Int := Go.bits .xor .i64 (n / 2) (wrap64 (-(Go.bits .and .i64 n 1)))
set_option maxHeartbeats 1000000 in
set_option maxRecDepth 100000 in
theorem signed_calls (lo g : Nat) (l : List Int) (e : Int) (n : Int) (l' : List Int) (e' : Int) (w : World) (hD : Dec w lo g l e) (h : numD l e = some (n, l', e')) :
    Calls Tryd.prog 71 #[.pointer (some ⟨g, 0, none⟩)] w fun en w' => en = .returned (.int .i64 (unzig n)) ∧ Dec w' lo g l' e' ∧ Kp1 g w w' := by
  have HD := Aside0.mk hD
  have HN := Aside0.mk h
  clear hD h
  go_enter Tryd.func71, Tryd.ntmps71
  go_wp2_with (go_at_call 70; refine (number_calls lo g _ _ _ _ _ _ HD.out HN.out).mono ?_; rintro en w1 ⟨rfl, hD1, hk1⟩; have HD1 := Aside0.mk hD1; have HK1 := Aside0.mk hk1; clear hD1 hk1)
  go_ret
  exact ⟨rfl, HD1.out, HK1.out⟩
set_option maxHeartbeats 1000000 in
set_option maxRecDepth 100000 in
theorem new_calls (A : Option Addr) (c : Nat) (l : List Int) (w : World) (hr : Kd.C (Kd.int .u8) w A l.length l) (hc : l.length ≤ c) (hl : slices_Clone_byte_byte.f l = some l) :
    Calls Tryd.prog 67 #[.slice A l.length c] w fun en w' => ∃ g, en = .returned (.pointer (some ⟨g, 0, none⟩)) ∧ Dec w' w.heap.size g l 0 ∧ Below w.heap.size w w' := by
  have HR := Aside0.mk hr
  have HC := Aside0.mk hc
  have HL := Aside0.mk hl
  clear hr hc hl
  go_enter Tryd.func67, Tryd.ntmps67
  go_wp2_with (go_at_call 98; refine (slices_Clone_byte_byte.calls A c l l _ HR.out HC.out HL.out).mono ?_; rintro en w1 ⟨v, rfl, ho, hb⟩; obtain ⟨A1, c1, rfl⟩ := Kd.R_slice ho; have HO := Aside0.mk ho; have HB := Aside0.mk hb; clear ho hb)
  go_ret
  exact ⟨w1.heap.size, rfl, ⟨A1, c1, heap_alloc_new _ _, HB.out.size, (Kd.R_reads' HO.out).2.1, Kd.R_F (Kd.R_alloc (Kd.R_mono (Kd.R_bound HO.out) (fun k hk => ⟨hk.2.1, hk.2.2.1⟩)) _)⟩, below_alloc HB.out _⟩
end Go.Proofs.YtkbmmgpdnienfaaDoor.P
