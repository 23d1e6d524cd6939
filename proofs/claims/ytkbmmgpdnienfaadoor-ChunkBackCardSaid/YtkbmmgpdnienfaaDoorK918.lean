/- Part 18 of the proof of chunkBack_card: its words, walks and plain laws, one text behind the other. -/
import Derived.Test.YtkbmmgpdnienfaaDoorK96
import Derived.Test.YtkbmmgpdnienfaaDoorK917
import Derived.Test.YtkbmmgpdnienfaaDoorK99
set_option linter.unusedVariables false
set_option linter.unusedSimpArgs false
namespace Go.Proofs.YtkbmmgpdnienfaaDoor.P
open Go.RowKit Go.Proofs.YtkbmmgpdnienfaaDoorW.PrintWords Go.Proofs.YtkbmmgpdnienfaaDoorW.PrintLast Go.Proofs.YtkbmmgpdnienfaaDoorW.PrintMore
attribute [local go_sem] max2_int min2_int max_two min_two max_three min_three max_four min_four   -- for this text's walks alone
def label_Right.l0 : Nat → List (S88) → List (S88) → Int → Int → Option (Bool)
  | 0, _, _, _, _ => none
  | k + 1, x0, x5, x6, x7 => if x7 < x6 then (if 0 ≤ x7 then (if x7 < (x5.length : Int) then ((label_Name.f ((rd_T88 x5 x7).f0)).bind fun t137 => (if t137 = true then ((label_Value.f ((rd_T88 x5 x7).f1)).bind fun t138 => (if t138 = true then (if x7 > 0 then (if 0 ≤ (wrap64 (x7 - 1)) then (if (wrap64 (x7 - 1)) < (x0.length : Int) then (if ((Op.bytesLess (((rd_T88 x0 (wrap64 (x7 - 1))).f0).toList) (((rd_T88 x5 x7).f0).toList)) = true) then (label_Right.l0 k x0 x5 x6 (wrap64 (x7 + 1))) else (some false)) else (none)) else (none)) else (label_Right.l0 k x0 x5 x6 (wrap64 (x7 + 1)))) else (some false))) else (some false))) else (none)) else (none)) else (if (x0.length : Int) ≥ 1 then (some (decide ((x0.length : Int) ≤ 16))) else (some false))
def label_Right.f (k : Nat) (l0 : List (S88)) : Option (Bool) := label_Right.l0 k l0 l0 (l0.length : Int) 0
def label_Right.T4 : Bool × List (List Nat × List Nat) := (true, [([], []), ([0], [0]), ([1], [1]), ([2], [2]), ([3, 2], [3]), ([4], [4]), ([5, 4], [4, 5]), ([6, 4, 4], [4, 6]), ([7, 4], [4, 7]), ([4, 8], [4, 8]), ([9, 7], [9]), ([10], [10]), ([11, 10], [10, 11]), ([12, 10, 10], [10, 12]), ([13], [13]), ([14, 13], [13, 14]), ([13], [13]), ([13], [13]), ([17, 13], [13, 17]), ([16, 18, 13], [13, 16, 18]), ([19, 13], [13, 19]), ([20, 13], [13, 20]), ([15, 21, 13], [13, 15, 21]), ([13, 22, 10], [10, 13, 22]), ([10, 23], [10, 23])])
def label_Right.B4 : List Nat := [0, 1, 3, 7, 15, 31, 63, 127, 255, 511, 1023, 2047, 4095, 8191, 16383, 32767, 16383, 16383, 147455, 475135, 999423, 2047999, 4194303, 8388607, 16777215]
theorem label_Right.tab4 : rtab .any (opsOf Tryd.f85 4) = label_Right.T4 := by kernel_rfl
theorem label_Right.bits4 : waitsOk label_Right.T4.2 label_Right.B4 = true := by kernel_rfl
set_option maxHeartbeats 8000000 in
set_option maxRecDepth 100000 in
theorem label_Right.calls (k : Nat) (A0 : Option Addr) (c0 : Nat) (l0 : List (S88)) (r : Bool) (w : World) (hr0 : Kd.C k88 w A0 l0.length l0) (hc0 : l0.length ≤ c0) (hG : Laid w) (h : label_Right.f k l0 = some r) :
    Calls Tryd.prog 85 #[.slice A0 l0.length c0] w fun e w' => e = .returned (.bool r) ∧ Below w.heap.size w w' := by
  have hu88 := Tryd.underlying88
  have HGL := Aside0.mk hG
  clear hG
  have HR0 := Aside0.mk hr0
  have HC0 := Aside0.mk hc0
  clear hr0 hc0
  have HB := Aside0.mk (Below.refl w.heap.size w)
  have H : (label_Right.l0 k l0 l0 (l0.length : Int) 0) = some r := h
  clear h
  have H' := Aside0.mk H
  clear H
  go_enter Tryd.func85, Tryd.ntmps85
  go_wp2
  go_loopg [7] k (fun kq v7 w' => ∃ (x7_1 : Int), v7 = .int .i64 x7_1 ∧ Aside0 (label_Right.l0 kq l0 l0 (l0.length : Int) x7_1 = some r) ∧ Aside0 (kq ≤ k) ∧ Aside0 (Below w.heap.size w w'))
  case atStart => exact ⟨(0), (by first | rfl | (simp; done) | (simp [*]; done)), H', ⟨Nat.le_refl _⟩, ⟨by repeat (first | (with_reducible first | exact HB.out | apply below_alloc | apply pw_below_drewN | apply below_drew1) | exact HB.out)⟩⟩
  case round =>
    clear H'
    obtain ⟨x7_1, rfl, HA, HK1, HB⟩ := hrel
    cases gk with
    | zero => exact absurd HA.out (by simp [label_Right.l0])
    | succ k1 =>
      have H := HA.out
      clear HA
      simp only [label_Right.l0] at H
      by_cases c2 : x7_1 < (l0.length : Int)
      · rw [if_pos c2] at H
        have c2b0 : decide (x7_1 < (l0.length : Int)) = true := decide_eq_true c2
        clear c2
        by_cases c3 : 0 ≤ x7_1
        · rw [if_pos c3] at H
          have c3b0 : decide (0 ≤ x7_1) = true := decide_eq_true c3
          clear c3
          by_cases c4 : x7_1 < (l0.length : Int)
          · rw [if_pos c4] at H
            have c4b0 : decide (x7_1 < (l0.length : Int)) = true := decide_eq_true c4
            clear c4
            replace H := Option.bind_eq_some_iff.mp H
            obtain ⟨t137, A50, H⟩ := H
            replace H : (if t137 = true then ((label_Value.f ((rd_T88 l0 x7_1).f1)).bind fun t138 => (if t138 = true then (if x7_1 > 0 then (if 0 ≤ (wrap64 (x7_1 - 1)) then (if (wrap64 (x7_1 - 1)) < (l0.length : Int) then (if ((Op.bytesLess (((rd_T88 l0 (wrap64 (x7_1 - 1))).f0).toList) (((rd_T88 l0 x7_1).f0).toList)) = true) then (label_Right.l0 k1 l0 l0 (l0.length : Int) (wrap64 (x7_1 + 1))) else (some false)) else (none)) else (none)) else (label_Right.l0 k1 l0 l0 (l0.length : Int) (wrap64 (x7_1 + 1)))) else (some false))) else (some false)) = some r := H
            have A5 := Aside0.mk A50
            clear A50
            by_cases c6 : t137 = true
            · subst c6
              have H1 : ((label_Value.f ((rd_T88 l0 x7_1).f1)).bind fun t138 => (if t138 = true then (if x7_1 > 0 then (if 0 ≤ (wrap64 (x7_1 - 1)) then (if (wrap64 (x7_1 - 1)) < (l0.length : Int) then (if ((Op.bytesLess (((rd_T88 l0 (wrap64 (x7_1 - 1))).f0).toList) (((rd_T88 l0 x7_1).f0).toList)) = true) then (label_Right.l0 k1 l0 l0 (l0.length : Int) (wrap64 (x7_1 + 1))) else (some false)) else (none)) else (none)) else (label_Right.l0 k1 l0 l0 (l0.length : Int) (wrap64 (x7_1 + 1)))) else (some false))) = some r := by rw [if_pos rfl] at H; exact H
              clear H
              have H := H1
              clear H1
              replace H := Option.bind_eq_some_iff.mp H
              obtain ⟨t138, A70, H⟩ := H
              replace H : (if t138 = true then (if x7_1 > 0 then (if 0 ≤ (wrap64 (x7_1 - 1)) then (if (wrap64 (x7_1 - 1)) < (l0.length : Int) then (if ((Op.bytesLess (((rd_T88 l0 (wrap64 (x7_1 - 1))).f0).toList) (((rd_T88 l0 x7_1).f0).toList)) = true) then (label_Right.l0 k1 l0 l0 (l0.length : Int) (wrap64 (x7_1 + 1))) else (some false)) else (none)) else (none)) else (label_Right.l0 k1 l0 l0 (l0.length : Int) (wrap64 (x7_1 + 1)))) else (some false)) = some r := H
              have A7 := Aside0.mk A70
              clear A70
              by_cases c8 : t138 = true
              · subst c8
                have H1 : (if x7_1 > 0 then (if 0 ≤ (wrap64 (x7_1 - 1)) then (if (wrap64 (x7_1 - 1)) < (l0.length : Int) then (if ((Op.bytesLess (((rd_T88 l0 (wrap64 (x7_1 - 1))).f0).toList) (((rd_T88 l0 x7_1).f0).toList)) = true) then (label_Right.l0 k1 l0 l0 (l0.length : Int) (wrap64 (x7_1 + 1))) else (some false)) else (none)) else (none)) else (label_Right.l0 k1 l0 l0 (l0.length : Int) (wrap64 (x7_1 + 1)))) = some r := by rw [if_pos rfl] at H; exact H
                clear H
                have H := H1
                clear H1
                by_cases c9 : x7_1 > 0
                · rw [if_pos c9] at H
                  have c9b0 : decide (0 < x7_1) = true := decide_eq_true c9
                  clear c9
                  obtain ⟨ji10, hji10⟩ : ∃ j_ : Int, (wrap64 (x7_1 - 1)) = j_ := ⟨_, rfl⟩
                  replace H : (if 0 ≤ (ji10) then (if (ji10) < (l0.length : Int) then (if ((Op.bytesLess (((rd_T88 l0 (ji10)).f0).toList) (((rd_T88 l0 x7_1).f0).toList)) = true) then (label_Right.l0 k1 l0 l0 (l0.length : Int) (wrap64 (x7_1 + 1))) else (some false)) else (none)) else (none)) = some r := by first | (rw [hji10] at H; exact H) | (simp only [hji10] at H ⊢; exact H)
                  (try rw [hji10] at A5)
                  (try rw [hji10] at A7)
                  have hji10w : (IntKind.i64.wrap (x7_1 - 1)) = ji10 := (i64_w _).trans hji10
                  by_cases c11 : 0 ≤ (ji10)
                  · rw [if_pos c11] at H
                    have c11b0 : decide (0 ≤ (ji10)) = true := decide_eq_true c11
                    clear c11
                    by_cases c12 : (ji10) < (l0.length : Int)
                    · rw [if_pos c12] at H
                      have c12b0 : decide ((ji10) < (l0.length : Int)) = true := decide_eq_true c12
                      clear c12
                      by_cases c13 : ((Op.bytesLess (((rd_T88 l0 (ji10)).f0).toList) (((rd_T88 l0 x7_1).f0).toList)) = true)
                      · rw [if_pos c13] at H
                        have c13b0 : (Op.bytesLess (((rd_T88 l0 (ji10)).f0).toList) (((rd_T88 l0 x7_1).f0).toList)) = true := c13
                        clear c13
                        have H' := Aside0.mk H
                        clear H
                        have p135 : 0 ≤ (x7_1 : Int) := of_decide_eq_true (by first | (with_reducible assumption) | assumption)
                        have q135 : x7_1 < (l0.length : Int) := of_decide_eq_true (by first | (with_reducible assumption) | assumption)
                        obtain ⟨ad135, e135, hx135_0, hx135_1⟩ := at_T88 HR0.out x7_1 p135 q135
                        cases e135
                        replace hx135_0 := (HB.out.cell (World.block_lt_of_cell? w _ hx135_0)).trans hx135_0
                        replace hx135_1 := (HB.out.cell (World.block_lt_of_cell? w _ hx135_1)).trans hx135_1
                        replace p135 := eq_true p135
                        replace q135 := eq_true q135
                        try go_wp2_with (first | ((with_reducible refine gate_dst (N := 4) rfl ?_); (try (refine gate_guard (by rfl) ?_; dsimp only)); refine box_event ?hg (N := 4) ?hd (cs := #[.string (⟨#[]⟩ : ByteArray), .string (⟨#[]⟩ : ByteArray)]) (t := 88) ?hr ?_; (case hd => rfl); (case hg => rfl); (case hr => first | (go_simp; done) | (go_simp; rfl)); intro gb136 hg w14 hbox hb; have n0_ := Aside0.mk (below_step (by repeat (first | (with_reducible first | exact HB.out | apply below_alloc | apply pw_below_drewN | apply below_drew1) | exact HB.out)) hb); have n1_ := Aside0.mk (hbox); have n2_ := Aside0.mk ((by rw [hg]; exact (below_size (by repeat (first | (with_reducible first | exact HB.out | apply below_alloc | apply pw_below_drewN | apply below_drew1) | exact HB.out))) : w.heap.size ≤ gb136)); have n3_ := Aside0.mk ((by rw [hg]; exact (below_size (by repeat (first | (with_reducible first | exact HB.out | apply below_alloc | apply pw_below_drewN | apply below_drew1) | exact HB.out))) : w.heap.size ≤ gb136)); clear HB; have HB := n0_; have BK136 := n1_; have GW136 := n2_; have GE136 := n3_; clear n0_ n1_ n2_ n3_; clear hb hbox hg; have hcz15_0 : w14.cell? ⟨gb136, 0, none⟩ = some (.string (⟨#[]⟩ : ByteArray)) := (blk_cell BK136.out 0).trans rfl; have hcz15_1 : w14.cell? ⟨gb136, 1, none⟩ = some (.string (⟨#[]⟩ : ByteArray)) := (blk_cell BK136.out 1).trans rfl; have hfz15_0 := blk_frozen BK136.out 0; have hfz15_1 := blk_frozen BK136.out 1))
                        have n0_ : Aside0 (((w14.setCell ⟨gb136, 0, none⟩ (.string ((rd_T88 l0 x7_1).f0))).setCell ⟨gb136, 1, none⟩ (.string ((rd_T88 l0 x7_1).f1))).heap[gb136]? = some (.cells #[.string ((rd_T88 l0 x7_1).f0), .string ((rd_T88 l0 x7_1).f1)] 88 (0, 0))) := ⟨by (with_reducible repeat (first | refine blk_drewN ?_ _ | refine blk_drew ?_ | refine blk_alloc ?_ _)); refine blk_put (cs := #[.string ((rd_T88 l0 x7_1).f0), .string (⟨#[]⟩ : ByteArray)]) ?_ 1 _ rfl; (with_reducible repeat (first | refine blk_drewN ?_ _ | refine blk_drew ?_ | refine blk_alloc ?_ _)); refine blk_put (cs := #[.string (⟨#[]⟩ : ByteArray), .string (⟨#[]⟩ : ByteArray)]) ?_ 0 _ rfl; (with_reducible repeat (first | refine blk_drewN ?_ _ | refine blk_drew ?_ | refine blk_alloc ?_ _)); exact BK136.out⟩
                        have n1_ : Aside0 (Below w.heap.size w ((w14.setCell ⟨gb136, 0, none⟩ (.string ((rd_T88 l0 x7_1).f0))).setCell ⟨gb136, 1, none⟩ (.string ((rd_T88 l0 x7_1).f1)))) := ⟨by repeat (first | (with_reducible first | exact HB.out | apply below_alloc | apply pw_below_drewN | apply below_drew1 | refine below_set ?_ GE136.out) | exact HB.out)⟩
                        (try clear BK136)
                        (try clear HB)
                        generalize ((w14.setCell ⟨gb136, 0, none⟩ (.string ((rd_T88 l0 x7_1).f0))).setCell ⟨gb136, 1, none⟩ (.string ((rd_T88 l0 x7_1).f1))) = w16 at n0_ n1_ ⊢
                        have BK136 := n0_
                        have HB := n1_
                        clear n0_ n1_
                        have n0_ := Aside0.mk (blk_drew BK136.out)
                        have n1_ := Aside0.mk (below_drew1 HB.out)
                        clear BK136
                        clear HB
                        have BK136 := n0_
                        have HB := n1_
                        clear n0_ n1_
                        have p139 : 0 ≤ ((ji10) : Int) := of_decide_eq_true (by first | (with_reducible assumption) | assumption)
                        have q139 : (ji10) < (l0.length : Int) := of_decide_eq_true (by first | (with_reducible assumption) | assumption)
                        obtain ⟨ad139, e139, hx139_0, hx139_1⟩ := at_T88 HR0.out (ji10) p139 q139
                        have hw139_1 := hx139_1
                        have hw139_0 := hx139_0
                        obtain rfl : ad135 = ad139 := (by injection e139)
                        replace hx139_0 := (HB.out.cell (World.block_lt_of_cell? w _ hx139_0)).trans hx139_0
                        replace hx139_1 := (HB.out.cell (World.block_lt_of_cell? w _ hx139_1)).trans hx139_1
                        replace p139 := eq_true p139
                        replace q139 := eq_true q139
                        refine start_ (n := 25) (S := fun w' => w'.cell? ⟨gb136, 0, none⟩ = some (.string ((rd_T88 l0 x7_1).f0)) ∧ w'.cell? ⟨gb136, 1, none⟩ = some (.string ((rd_T88 l0 x7_1).f1)) ∧ w'.cell? (ad135.add (((ji10)).toNat * 2)) = some (.string ((rd_T88 l0 (ji10)).f0)) ∧ w'.cell? ⟨(ad135.add (((ji10)).toNat * 2)).block, (ad135.add (((ji10)).toNat * 2)).off + 1, none⟩ = some (.string ((rd_T88 l0 (ji10)).f1))) (ds := []) #[false, false, false, false, false, false, false, false, false, false, false, false, false, false, false, false, false, false, false, false, false, false, false, false, false] (by kernel_rfl) rfl rfl ⟨(blk_cell BK136.out 0).trans rfl, (blk_cell BK136.out 1).trans rfl, ((HB.out.cell (World.block_lt_of_cell? w _ hw139_0)).trans hw139_0), ((HB.out.cell (World.block_lt_of_cell? w _ hw139_1)).trans hw139_1)⟩ (fun hHeld => ?_); refine with_tabW label_Right.tab4 label_Right.bits4 (fun HT_ HW_ => ?_)
                        generalize w16.drew = w17 at BK136 HB hx139_0 hx139_1 hHeld ⊢
                        refine pu_ 0 (some 12) (bs 25 1) ?_
                        refine tk_ 1 (some 13) (bs 25 3) ?_
                        refine one_ (i := 2) (N := some 14) (bs 25 7) rfl rfl (one_of HT_.out (by kernel_rfl)) (by decide) (fun K hK => ?_)
                        refine goes_ Tryd.func109 (by kernel_rfl) rfl #[.string ((rd_T88 l0 x7_1).f0)] (by rfl) rfl rfl (by (try simp only [List.map_toArray, List.map_cons, List.map_nil]); first | done | rfl | (simp only [List.length_drop, List.length_take]; rfl)) ?_
                        with_reducible refine (label_Name.calls ((rd_T88 l0 x7_1).f0) true _ A5.out).mono ?_
                        rintro e w18 ⟨rfl, hb⟩
                        refine ⟨_, rfl, ?_⟩
                        have n0_ := Aside0.mk (blk_below (g := gb136) (o := .cells #[.string ((rd_T88 l0 x7_1).f0), .string ((rd_T88 l0 x7_1).f1)] 88 (0, 0)) (by (with_reducible repeat (first | refine blk_drewN ?_ _ | refine blk_drew ?_ | refine blk_alloc ?_ _)); exact BK136.out) hb)
                        have n1_ := Aside0.mk (below_step (by repeat (first | (with_reducible first | exact HB.out | apply below_alloc | apply pw_below_drewN | apply below_drew1 | refine below_set ?_ GE136.out) | exact HB.out)) hb)
                        clear BK136
                        clear HB
                        have BK136 := n0_
                        have HB := n1_
                        clear n0_ n1_
                        (try clear hb)
                        (try clear hb2)
                        (try clear hk)
                        (try clear hi)
                        refine hK.out _ _ ⟨(blk_cell BK136.out 0).trans rfl, (blk_cell BK136.out 1).trans rfl, ((HB.out.cell (World.block_lt_of_cell? w _ hw139_0)).trans hw139_0), ((HB.out.cell (World.block_lt_of_cell? w _ hw139_1)).trans hw139_1)⟩ (fun hHeld => ?_)
                        clear hK K
                        refine pt_ ?_
                        refine pu_ 3 (some 15) (bs 25 15) ?_
                        refine pu_ 4 (some 16) (bs 25 31) ?_
                        refine pu_ 5 (some 17) (bs 25 63) ?_
                        refine tk_ 6 (some 18) (bs 25 127) ?_
                        refine one_ (i := 7) (N := some 19) (bs 25 255) rfl rfl (one_of HT_.out (by kernel_rfl)) (by decide) (fun K hK => ?_)
                        refine goes_ Tryd.func110 (by kernel_rfl) rfl #[.string ((rd_T88 l0 x7_1).f1)] (by rfl) rfl rfl (by (try simp only [List.map_toArray, List.map_cons, List.map_nil]); first | done | rfl | (simp only [List.length_drop, List.length_take]; rfl)) ?_
                        with_reducible refine (label_Value.calls ((rd_T88 l0 x7_1).f1) true _ ?side1 A7.out).mono ?_
                        (case side1 => exact laid_below HGL.out (by repeat (first | (with_reducible first | exact HB.out | apply below_alloc | apply pw_below_drewN | apply below_drew1 | refine below_set ?_ GE136.out) | exact HB.out)))
                        rintro e w19 ⟨rfl, hb⟩
                        refine ⟨_, rfl, ?_⟩
                        have n0_ := Aside0.mk (blk_below (g := gb136) (o := .cells #[.string ((rd_T88 l0 x7_1).f0), .string ((rd_T88 l0 x7_1).f1)] 88 (0, 0)) (by (with_reducible repeat (first | refine blk_drewN ?_ _ | refine blk_drew ?_ | refine blk_alloc ?_ _)); exact BK136.out) hb)
                        have n1_ := Aside0.mk (below_step (by repeat (first | (with_reducible first | exact HB.out | apply below_alloc | apply pw_below_drewN | apply below_drew1 | refine below_set ?_ GE136.out) | exact HB.out)) hb)
                        clear BK136
                        clear HB
                        have BK136 := n0_
                        have HB := n1_
                        clear n0_ n1_
                        (try clear hb)
                        (try clear hb2)
                        (try clear hk)
                        (try clear hi)
                        refine hK.out _ _ ⟨(blk_cell BK136.out 0).trans rfl, (blk_cell BK136.out 1).trans rfl, ((HB.out.cell (World.block_lt_of_cell? w _ hw139_0)).trans hw139_0), ((HB.out.cell (World.block_lt_of_cell? w _ hw139_1)).trans hw139_1)⟩ (fun hHeld => ?_)
                        clear hK K
                        refine pt_ ?_
                        refine pu_ 8 (some 20) (bs 25 511) ?_
                        refine pu_ 9 (some 21) (bs 25 1023) ?_
                        refine pu_ 10 (some 22) (bs 25 2047) ?_
                        refine pu_ 11 (some 23) (bs 25 4095) ?_
                        refine pu_ 12 (some 24) (bs 25 8191) ?_
                        refine pu_ 13 (some 25) (bs 25 16383) ?_
                        refine pu_ 14 (some 26) (bs 25 32767) ?_
                        refine pu_ 16 (some 28) (bs 25 98303) ?_
                        refine pu_ 17 (some 29) (bs 25 229375) ?_
                        refine pu_ 18 (some 30) (bs 25 491519) ?_
                        refine pu_ 19 (some 31) (bs 25 1015807) ?_
                        refine pu_ 20 (some 32) (bs 25 2064383) ?_
                        refine tk_ 15 (some 27) (bs 25 2097151) ?_
                        refine tk_ 21 (some 33) (bs 25 4194303) ?_
                        refine pu_ 22 (some 34) (bs 25 8388607) ?_
                        refine pu_ 23 (some 35) (bs 25 16777215) ?_
                        refine pu_ 24 (some 36) (bs 25 33554431) ?_
                        refine done_ (done_of HT_.out (by kernel_rfl)) ?_
                        try go_wp2
                        go_roundg k1
                        case measure => have := HK1.out; omega
                        case rel => exact ⟨(wrap64 (x7_1 + 1)), (by first | rfl | (simp; done) | (simp [*]; done)), H', ⟨by have := HK1.out; omega⟩, ⟨by repeat (first | (with_reducible first | exact HB.out | apply below_alloc | apply pw_below_drewN | apply below_drew1 | refine below_set ?_ GE136.out) | exact HB.out)⟩⟩
                      · rw [if_neg c13] at H
                        have c13b0 : (Op.bytesLess (((rd_T88 l0 (ji10)).f0).toList) (((rd_T88 l0 x7_1).f0).toList)) = false := by simpa using c13
                        clear c13
                        obtain rfl := Option.some.inj H
                        have p135 : 0 ≤ (x7_1 : Int) := of_decide_eq_true (by first | (with_reducible assumption) | assumption)
                        have q135 : x7_1 < (l0.length : Int) := of_decide_eq_true (by first | (with_reducible assumption) | assumption)
                        obtain ⟨ad135, e135, hx135_0, hx135_1⟩ := at_T88 HR0.out x7_1 p135 q135
                        cases e135
                        replace hx135_0 := (HB.out.cell (World.block_lt_of_cell? w _ hx135_0)).trans hx135_0
                        replace hx135_1 := (HB.out.cell (World.block_lt_of_cell? w _ hx135_1)).trans hx135_1
                        replace p135 := eq_true p135
                        replace q135 := eq_true q135
                        try go_wp2_with (first | ((with_reducible refine gate_dst (N := 4) rfl ?_); (try (refine gate_guard (by rfl) ?_; dsimp only)); refine box_event ?hg (N := 4) ?hd (cs := #[.string (⟨#[]⟩ : ByteArray), .string (⟨#[]⟩ : ByteArray)]) (t := 88) ?hr ?_; (case hd => rfl); (case hg => rfl); (case hr => first | (go_simp; done) | (go_simp; rfl)); intro gb136 hg w20 hbox hb; have n0_ := Aside0.mk (below_step (by repeat (first | (with_reducible first | exact HB.out | apply below_alloc | apply pw_below_drewN | apply below_drew1) | exact HB.out)) hb); have n1_ := Aside0.mk (hbox); have n2_ := Aside0.mk ((by rw [hg]; exact (below_size (by repeat (first | (with_reducible first | exact HB.out | apply below_alloc | apply pw_below_drewN | apply below_drew1) | exact HB.out))) : w.heap.size ≤ gb136)); have n3_ := Aside0.mk ((by rw [hg]; exact (below_size (by repeat (first | (with_reducible first | exact HB.out | apply below_alloc | apply pw_below_drewN | apply below_drew1) | exact HB.out))) : w.heap.size ≤ gb136)); clear HB; have HB := n0_; have BK136 := n1_; have GW136 := n2_; have GE136 := n3_; clear n0_ n1_ n2_ n3_; clear hb hbox hg; have hcz21_0 : w20.cell? ⟨gb136, 0, none⟩ = some (.string (⟨#[]⟩ : ByteArray)) := (blk_cell BK136.out 0).trans rfl; have hcz21_1 : w20.cell? ⟨gb136, 1, none⟩ = some (.string (⟨#[]⟩ : ByteArray)) := (blk_cell BK136.out 1).trans rfl; have hfz21_0 := blk_frozen BK136.out 0; have hfz21_1 := blk_frozen BK136.out 1))
                        have n0_ : Aside0 (((w20.setCell ⟨gb136, 0, none⟩ (.string ((rd_T88 l0 x7_1).f0))).setCell ⟨gb136, 1, none⟩ (.string ((rd_T88 l0 x7_1).f1))).heap[gb136]? = some (.cells #[.string ((rd_T88 l0 x7_1).f0), .string ((rd_T88 l0 x7_1).f1)] 88 (0, 0))) := ⟨by (with_reducible repeat (first | refine blk_drewN ?_ _ | refine blk_drew ?_ | refine blk_alloc ?_ _)); refine blk_put (cs := #[.string ((rd_T88 l0 x7_1).f0), .string (⟨#[]⟩ : ByteArray)]) ?_ 1 _ rfl; (with_reducible repeat (first | refine blk_drewN ?_ _ | refine blk_drew ?_ | refine blk_alloc ?_ _)); refine blk_put (cs := #[.string (⟨#[]⟩ : ByteArray), .string (⟨#[]⟩ : ByteArray)]) ?_ 0 _ rfl; (with_reducible repeat (first | refine blk_drewN ?_ _ | refine blk_drew ?_ | refine blk_alloc ?_ _)); exact BK136.out⟩
                        have n1_ : Aside0 (Below w.heap.size w ((w20.setCell ⟨gb136, 0, none⟩ (.string ((rd_T88 l0 x7_1).f0))).setCell ⟨gb136, 1, none⟩ (.string ((rd_T88 l0 x7_1).f1)))) := ⟨by repeat (first | (with_reducible first | exact HB.out | apply below_alloc | apply pw_below_drewN | apply below_drew1 | refine below_set ?_ GE136.out) | exact HB.out)⟩
                        (try clear BK136)
                        (try clear HB)
                        generalize ((w20.setCell ⟨gb136, 0, none⟩ (.string ((rd_T88 l0 x7_1).f0))).setCell ⟨gb136, 1, none⟩ (.string ((rd_T88 l0 x7_1).f1))) = w22 at n0_ n1_ ⊢
                        have BK136 := n0_
                        have HB := n1_
                        clear n0_ n1_
                        have n0_ := Aside0.mk (blk_drew BK136.out)
                        have n1_ := Aside0.mk (below_drew1 HB.out)
                        clear BK136
                        clear HB
                        have BK136 := n0_
                        have HB := n1_
                        clear n0_ n1_
                        have p139 : 0 ≤ ((ji10) : Int) := of_decide_eq_true (by first | (with_reducible assumption) | assumption)
                        have q139 : (ji10) < (l0.length : Int) := of_decide_eq_true (by first | (with_reducible assumption) | assumption)
                        obtain ⟨ad139, e139, hx139_0, hx139_1⟩ := at_T88 HR0.out (ji10) p139 q139
                        have hw139_1 := hx139_1
                        have hw139_0 := hx139_0
                        obtain rfl : ad135 = ad139 := (by injection e139)
                        replace hx139_0 := (HB.out.cell (World.block_lt_of_cell? w _ hx139_0)).trans hx139_0
                        replace hx139_1 := (HB.out.cell (World.block_lt_of_cell? w _ hx139_1)).trans hx139_1
                        replace p139 := eq_true p139
                        replace q139 := eq_true q139
                        refine start_ (n := 25) (S := fun w' => w'.cell? ⟨gb136, 0, none⟩ = some (.string ((rd_T88 l0 x7_1).f0)) ∧ w'.cell? ⟨gb136, 1, none⟩ = some (.string ((rd_T88 l0 x7_1).f1)) ∧ w'.cell? (ad135.add (((ji10)).toNat * 2)) = some (.string ((rd_T88 l0 (ji10)).f0)) ∧ w'.cell? ⟨(ad135.add (((ji10)).toNat * 2)).block, (ad135.add (((ji10)).toNat * 2)).off + 1, none⟩ = some (.string ((rd_T88 l0 (ji10)).f1))) (ds := []) #[false, false, false, false, false, false, false, false, false, false, false, false, false, false, false, false, false, false, false, false, false, false, false, false, false] (by kernel_rfl) rfl rfl ⟨(blk_cell BK136.out 0).trans rfl, (blk_cell BK136.out 1).trans rfl, ((HB.out.cell (World.block_lt_of_cell? w _ hw139_0)).trans hw139_0), ((HB.out.cell (World.block_lt_of_cell? w _ hw139_1)).trans hw139_1)⟩ (fun hHeld => ?_); refine with_tabW label_Right.tab4 label_Right.bits4 (fun HT_ HW_ => ?_)
                        generalize w22.drew = w23 at BK136 HB hx139_0 hx139_1 hHeld ⊢
                        refine pu_ 0 (some 12) (bs 25 1) ?_
                        refine tk_ 1 (some 13) (bs 25 3) ?_
                        refine one_ (i := 2) (N := some 14) (bs 25 7) rfl rfl (one_of HT_.out (by kernel_rfl)) (by decide) (fun K hK => ?_)
                        refine goes_ Tryd.func109 (by kernel_rfl) rfl #[.string ((rd_T88 l0 x7_1).f0)] (by rfl) rfl rfl (by (try simp only [List.map_toArray, List.map_cons, List.map_nil]); first | done | rfl | (simp only [List.length_drop, List.length_take]; rfl)) ?_
                        with_reducible refine (label_Name.calls ((rd_T88 l0 x7_1).f0) true _ A5.out).mono ?_
                        rintro e w24 ⟨rfl, hb⟩
                        refine ⟨_, rfl, ?_⟩
                        have n0_ := Aside0.mk (blk_below (g := gb136) (o := .cells #[.string ((rd_T88 l0 x7_1).f0), .string ((rd_T88 l0 x7_1).f1)] 88 (0, 0)) (by (with_reducible repeat (first | refine blk_drewN ?_ _ | refine blk_drew ?_ | refine blk_alloc ?_ _)); exact BK136.out) hb)
                        have n1_ := Aside0.mk (below_step (by repeat (first | (with_reducible first | exact HB.out | apply below_alloc | apply pw_below_drewN | apply below_drew1 | refine below_set ?_ GE136.out) | exact HB.out)) hb)
                        clear BK136
                        clear HB
                        have BK136 := n0_
                        have HB := n1_
                        clear n0_ n1_
                        (try clear hb)
                        (try clear hb2)
                        (try clear hk)
                        (try clear hi)
                        refine hK.out _ _ ⟨(blk_cell BK136.out 0).trans rfl, (blk_cell BK136.out 1).trans rfl, ((HB.out.cell (World.block_lt_of_cell? w _ hw139_0)).trans hw139_0), ((HB.out.cell (World.block_lt_of_cell? w _ hw139_1)).trans hw139_1)⟩ (fun hHeld => ?_)
                        clear hK K
                        refine pt_ ?_
                        refine pu_ 3 (some 15) (bs 25 15) ?_
                        refine pu_ 4 (some 16) (bs 25 31) ?_
                        refine pu_ 5 (some 17) (bs 25 63) ?_
                        refine tk_ 6 (some 18) (bs 25 127) ?_
                        refine one_ (i := 7) (N := some 19) (bs 25 255) rfl rfl (one_of HT_.out (by kernel_rfl)) (by decide) (fun K hK => ?_)
                        refine goes_ Tryd.func110 (by kernel_rfl) rfl #[.string ((rd_T88 l0 x7_1).f1)] (by rfl) rfl rfl (by (try simp only [List.map_toArray, List.map_cons, List.map_nil]); first | done | rfl | (simp only [List.length_drop, List.length_take]; rfl)) ?_
                        with_reducible refine (label_Value.calls ((rd_T88 l0 x7_1).f1) true _ ?side1 A7.out).mono ?_
                        (case side1 => exact laid_below HGL.out (by repeat (first | (with_reducible first | exact HB.out | apply below_alloc | apply pw_below_drewN | apply below_drew1 | refine below_set ?_ GE136.out) | exact HB.out)))
                        rintro e w25 ⟨rfl, hb⟩
                        refine ⟨_, rfl, ?_⟩
                        have n0_ := Aside0.mk (blk_below (g := gb136) (o := .cells #[.string ((rd_T88 l0 x7_1).f0), .string ((rd_T88 l0 x7_1).f1)] 88 (0, 0)) (by (with_reducible repeat (first | refine blk_drewN ?_ _ | refine blk_drew ?_ | refine blk_alloc ?_ _)); exact BK136.out) hb)
                        have n1_ := Aside0.mk (below_step (by repeat (first | (with_reducible first | exact HB.out | apply below_alloc | apply pw_below_drewN | apply below_drew1 | refine below_set ?_ GE136.out) | exact HB.out)) hb)
                        clear BK136
                        clear HB
                        have BK136 := n0_
                        have HB := n1_
                        clear n0_ n1_
                        (try clear hb)
                        (try clear hb2)
                        (try clear hk)
                        (try clear hi)
                        refine hK.out _ _ ⟨(blk_cell BK136.out 0).trans rfl, (blk_cell BK136.out 1).trans rfl, ((HB.out.cell (World.block_lt_of_cell? w _ hw139_0)).trans hw139_0), ((HB.out.cell (World.block_lt_of_cell? w _ hw139_1)).trans hw139_1)⟩ (fun hHeld => ?_)
                        clear hK K
                        refine pt_ ?_
                        refine pu_ 8 (some 20) (bs 25 511) ?_
                        refine pu_ 9 (some 21) (bs 25 1023) ?_
                        refine pu_ 10 (some 22) (bs 25 2047) ?_
                        refine pu_ 11 (some 23) (bs 25 4095) ?_
                        refine pu_ 12 (some 24) (bs 25 8191) ?_
                        refine pu_ 13 (some 25) (bs 25 16383) ?_
                        refine pu_ 14 (some 26) (bs 25 32767) ?_
                        refine pu_ 16 (some 28) (bs 25 98303) ?_
                        refine pu_ 17 (some 29) (bs 25 229375) ?_
                        refine pu_ 18 (some 30) (bs 25 491519) ?_
                        refine pu_ 19 (some 31) (bs 25 1015807) ?_
                        refine pu_ 20 (some 32) (bs 25 2064383) ?_
                        refine tk_ 15 (some 27) (bs 25 2097151) ?_
                        refine tk_ 21 (some 33) (bs 25 4194303) ?_
                        refine pu_ 22 (some 34) (bs 25 8388607) ?_
                        refine pu_ 23 (some 35) (bs 25 16777215) ?_
                        refine pu_ 24 (some 36) (bs 25 33554431) ?_
                        refine done_ (done_of HT_.out (by kernel_rfl)) ?_
                        try go_wp2
                        go_ret
                        exact ⟨by first | rfl | (simp [errW_none, errW_some] <;> rfl) | (simp only [← hji10]; first | rfl | (simp [errW_none, errW_some] <;> rfl)) | (simp [*, errW_none, errW_some] <;> rfl), by repeat (first | (with_reducible first | exact HB.out | apply below_alloc | apply pw_below_drewN | apply below_drew1 | refine below_set ?_ GE136.out) | exact HB.out)⟩
                    · rw [if_neg c12] at H
                      exact absurd H (by simp)
                  · rw [if_neg c11] at H
                    exact absurd H (by simp)
                · rw [if_neg c9] at H
                  have c9b0 : decide (0 < x7_1) = false := decide_eq_false c9
                  clear c9
                  have H' := Aside0.mk H
                  clear H
                  have p135 : 0 ≤ (x7_1 : Int) := of_decide_eq_true (by first | (with_reducible assumption) | assumption)
                  have q135 : x7_1 < (l0.length : Int) := of_decide_eq_true (by first | (with_reducible assumption) | assumption)
                  obtain ⟨ad135, e135, hx135_0, hx135_1⟩ := at_T88 HR0.out x7_1 p135 q135
                  cases e135
                  replace hx135_0 := (HB.out.cell (World.block_lt_of_cell? w _ hx135_0)).trans hx135_0
                  replace hx135_1 := (HB.out.cell (World.block_lt_of_cell? w _ hx135_1)).trans hx135_1
                  replace p135 := eq_true p135
                  replace q135 := eq_true q135
                  try go_wp2_with (first | ((with_reducible refine gate_dst (N := 4) rfl ?_); (try (refine gate_guard (by rfl) ?_; dsimp only)); refine box_event ?hg (N := 4) ?hd (cs := #[.string (⟨#[]⟩ : ByteArray), .string (⟨#[]⟩ : ByteArray)]) (t := 88) ?hr ?_; (case hd => rfl); (case hg => rfl); (case hr => first | (go_simp; done) | (go_simp; rfl)); intro gb136 hg w26 hbox hb; have n0_ := Aside0.mk (below_step (by repeat (first | (with_reducible first | exact HB.out | apply below_alloc | apply pw_below_drewN | apply below_drew1) | exact HB.out)) hb); have n1_ := Aside0.mk (hbox); have n2_ := Aside0.mk ((by rw [hg]; exact (below_size (by repeat (first | (with_reducible first | exact HB.out | apply below_alloc | apply pw_below_drewN | apply below_drew1) | exact HB.out))) : w.heap.size ≤ gb136)); have n3_ := Aside0.mk ((by rw [hg]; exact (below_size (by repeat (first | (with_reducible first | exact HB.out | apply below_alloc | apply pw_below_drewN | apply below_drew1) | exact HB.out))) : w.heap.size ≤ gb136)); clear HB; have HB := n0_; have BK136 := n1_; have GW136 := n2_; have GE136 := n3_; clear n0_ n1_ n2_ n3_; clear hb hbox hg; have hcz27_0 : w26.cell? ⟨gb136, 0, none⟩ = some (.string (⟨#[]⟩ : ByteArray)) := (blk_cell BK136.out 0).trans rfl; have hcz27_1 : w26.cell? ⟨gb136, 1, none⟩ = some (.string (⟨#[]⟩ : ByteArray)) := (blk_cell BK136.out 1).trans rfl; have hfz27_0 := blk_frozen BK136.out 0; have hfz27_1 := blk_frozen BK136.out 1))
                  have n0_ : Aside0 (((w26.setCell ⟨gb136, 0, none⟩ (.string ((rd_T88 l0 x7_1).f0))).setCell ⟨gb136, 1, none⟩ (.string ((rd_T88 l0 x7_1).f1))).heap[gb136]? = some (.cells #[.string ((rd_T88 l0 x7_1).f0), .string ((rd_T88 l0 x7_1).f1)] 88 (0, 0))) := ⟨by (with_reducible repeat (first | refine blk_drewN ?_ _ | refine blk_drew ?_ | refine blk_alloc ?_ _)); refine blk_put (cs := #[.string ((rd_T88 l0 x7_1).f0), .string (⟨#[]⟩ : ByteArray)]) ?_ 1 _ rfl; (with_reducible repeat (first | refine blk_drewN ?_ _ | refine blk_drew ?_ | refine blk_alloc ?_ _)); refine blk_put (cs := #[.string (⟨#[]⟩ : ByteArray), .string (⟨#[]⟩ : ByteArray)]) ?_ 0 _ rfl; (with_reducible repeat (first | refine blk_drewN ?_ _ | refine blk_drew ?_ | refine blk_alloc ?_ _)); exact BK136.out⟩
                  have n1_ : Aside0 (Below w.heap.size w ((w26.setCell ⟨gb136, 0, none⟩ (.string ((rd_T88 l0 x7_1).f0))).setCell ⟨gb136, 1, none⟩ (.string ((rd_T88 l0 x7_1).f1)))) := ⟨by repeat (first | (with_reducible first | exact HB.out | apply below_alloc | apply pw_below_drewN | apply below_drew1 | refine below_set ?_ GE136.out) | exact HB.out)⟩
                  (try clear BK136)
                  (try clear HB)
                  generalize ((w26.setCell ⟨gb136, 0, none⟩ (.string ((rd_T88 l0 x7_1).f0))).setCell ⟨gb136, 1, none⟩ (.string ((rd_T88 l0 x7_1).f1))) = w28 at n0_ n1_ ⊢
                  have BK136 := n0_
                  have HB := n1_
                  clear n0_ n1_
                  have n0_ := Aside0.mk (blk_drew BK136.out)
                  have n1_ := Aside0.mk (below_drew1 HB.out)
                  clear BK136
                  clear HB
                  have BK136 := n0_
                  have HB := n1_
                  clear n0_ n1_
                  refine start_ (n := 25) (S := fun w' => w'.cell? ⟨gb136, 0, none⟩ = some (.string ((rd_T88 l0 x7_1).f0)) ∧ w'.cell? ⟨gb136, 1, none⟩ = some (.string ((rd_T88 l0 x7_1).f1))) (ds := []) #[false, false, false, false, false, false, false, false, false, false, false, false, false, false, false, false, false, false, false, false, false, false, false, false, false] (by kernel_rfl) rfl rfl ⟨(blk_cell BK136.out 0).trans rfl, (blk_cell BK136.out 1).trans rfl⟩ (fun hHeld => ?_); refine with_tabW label_Right.tab4 label_Right.bits4 (fun HT_ HW_ => ?_)
                  generalize w28.drew = w29 at BK136 HB hHeld ⊢
                  refine pu_ 0 (some 12) (bs 25 1) ?_
                  refine tk_ 1 (some 13) (bs 25 3) ?_
                  refine one_ (i := 2) (N := some 14) (bs 25 7) rfl rfl (one_of HT_.out (by kernel_rfl)) (by decide) (fun K hK => ?_)
                  refine goes_ Tryd.func109 (by kernel_rfl) rfl #[.string ((rd_T88 l0 x7_1).f0)] (by rfl) rfl rfl (by (try simp only [List.map_toArray, List.map_cons, List.map_nil]); first | done | rfl | (simp only [List.length_drop, List.length_take]; rfl)) ?_
                  with_reducible refine (label_Name.calls ((rd_T88 l0 x7_1).f0) true _ A5.out).mono ?_
                  rintro e w30 ⟨rfl, hb⟩
                  refine ⟨_, rfl, ?_⟩
                  have n0_ := Aside0.mk (blk_below (g := gb136) (o := .cells #[.string ((rd_T88 l0 x7_1).f0), .string ((rd_T88 l0 x7_1).f1)] 88 (0, 0)) (by (with_reducible repeat (first | refine blk_drewN ?_ _ | refine blk_drew ?_ | refine blk_alloc ?_ _)); exact BK136.out) hb)
                  have n1_ := Aside0.mk (below_step (by repeat (first | (with_reducible first | exact HB.out | apply below_alloc | apply pw_below_drewN | apply below_drew1 | refine below_set ?_ GE136.out) | exact HB.out)) hb)
                  clear BK136
                  clear HB
                  have BK136 := n0_
                  have HB := n1_
                  clear n0_ n1_
                  (try clear hb)
                  (try clear hb2)
                  (try clear hk)
                  (try clear hi)
                  refine hK.out _ _ ⟨(blk_cell BK136.out 0).trans rfl, (blk_cell BK136.out 1).trans rfl⟩ (fun hHeld => ?_)
                  clear hK K
                  refine pt_ ?_
                  refine pu_ 3 (some 15) (bs 25 15) ?_
                  refine pu_ 4 (some 16) (bs 25 31) ?_
                  refine pu_ 5 (some 17) (bs 25 63) ?_
                  refine tk_ 6 (some 18) (bs 25 127) ?_
                  refine one_ (i := 7) (N := some 19) (bs 25 255) rfl rfl (one_of HT_.out (by kernel_rfl)) (by decide) (fun K hK => ?_)
                  refine goes_ Tryd.func110 (by kernel_rfl) rfl #[.string ((rd_T88 l0 x7_1).f1)] (by rfl) rfl rfl (by (try simp only [List.map_toArray, List.map_cons, List.map_nil]); first | done | rfl | (simp only [List.length_drop, List.length_take]; rfl)) ?_
                  with_reducible refine (label_Value.calls ((rd_T88 l0 x7_1).f1) true _ ?side1 A7.out).mono ?_
                  (case side1 => exact laid_below HGL.out (by repeat (first | (with_reducible first | exact HB.out | apply below_alloc | apply pw_below_drewN | apply below_drew1 | refine below_set ?_ GE136.out) | exact HB.out)))
                  rintro e w31 ⟨rfl, hb⟩
                  refine ⟨_, rfl, ?_⟩
                  have n0_ := Aside0.mk (blk_below (g := gb136) (o := .cells #[.string ((rd_T88 l0 x7_1).f0), .string ((rd_T88 l0 x7_1).f1)] 88 (0, 0)) (by (with_reducible repeat (first | refine blk_drewN ?_ _ | refine blk_drew ?_ | refine blk_alloc ?_ _)); exact BK136.out) hb)
                  have n1_ := Aside0.mk (below_step (by repeat (first | (with_reducible first | exact HB.out | apply below_alloc | apply pw_below_drewN | apply below_drew1 | refine below_set ?_ GE136.out) | exact HB.out)) hb)
                  clear BK136
                  clear HB
                  have BK136 := n0_
                  have HB := n1_
                  clear n0_ n1_
                  (try clear hb)
                  (try clear hb2)
                  (try clear hk)
                  (try clear hi)
                  refine hK.out _ _ ⟨(blk_cell BK136.out 0).trans rfl, (blk_cell BK136.out 1).trans rfl⟩ (fun hHeld => ?_)
                  clear hK K
                  refine pt_ ?_
                  refine pu_ 8 (some 20) (bs 25 511) ?_
                  refine pu_ 9 (some 21) (bs 25 1023) ?_
                  refine pu_ 10 (some 22) (bs 25 2047) ?_
                  refine pu_ 11 (some 23) (bs 25 4095) ?_
                  refine pu_ 12 (some 24) (bs 25 8191) ?_
                  refine pu_ 13 (some 25) (bs 25 16383) ?_
                  refine sk_ 14 (some 26) (bs 25 32767) ?_
                  refine sk_ 15 (some 27) (bs 25 65535) ?_
                  refine sk_ 16 (some 28) (bs 25 131071) ?_
                  refine sk_ 17 (some 29) (bs 25 262143) ?_
                  refine sk_ 18 (some 30) (bs 25 524287) ?_
                  refine sk_ 19 (some 31) (bs 25 1048575) ?_
                  refine sk_ 20 (some 32) (bs 25 2097151) ?_
                  refine sk_ 21 (some 33) (bs 25 4194303) ?_
                  refine sk_ 22 (some 34) (bs 25 8388607) ?_
                  refine pu_ 23 (some 35) (bs 25 16777215) ?_
                  refine pu_ 24 (some 36) (bs 25 33554431) ?_
                  refine done_ (done_of HT_.out (by kernel_rfl)) ?_
                  try go_wp2
                  go_roundg k1
                  case measure => have := HK1.out; omega
                  case rel => exact ⟨(wrap64 (x7_1 + 1)), (by first | rfl | (simp; done) | (simp [*]; done)), H', ⟨by have := HK1.out; omega⟩, ⟨by repeat (first | (with_reducible first | exact HB.out | apply below_alloc | apply pw_below_drewN | apply below_drew1 | refine below_set ?_ GE136.out) | exact HB.out)⟩⟩
              · replace c8 := Bool.eq_false_iff.mpr c8
                subst c8
                have H1 : (some false) = some r := by rw [if_neg (show ¬ (false = true) by decide)] at H; exact H
                clear H
                have H := H1
                clear H1
                obtain rfl := Option.some.inj H
                have p135 : 0 ≤ (x7_1 : Int) := of_decide_eq_true (by first | (with_reducible assumption) | assumption)
                have q135 : x7_1 < (l0.length : Int) := of_decide_eq_true (by first | (with_reducible assumption) | assumption)
                obtain ⟨ad135, e135, hx135_0, hx135_1⟩ := at_T88 HR0.out x7_1 p135 q135
                cases e135
                replace hx135_0 := (HB.out.cell (World.block_lt_of_cell? w _ hx135_0)).trans hx135_0
                replace hx135_1 := (HB.out.cell (World.block_lt_of_cell? w _ hx135_1)).trans hx135_1
                replace p135 := eq_true p135
                replace q135 := eq_true q135
                try go_wp2_with (first | ((with_reducible refine gate_dst (N := 4) rfl ?_); (try (refine gate_guard (by rfl) ?_; dsimp only)); refine box_event ?hg (N := 4) ?hd (cs := #[.string (⟨#[]⟩ : ByteArray), .string (⟨#[]⟩ : ByteArray)]) (t := 88) ?hr ?_; (case hd => rfl); (case hg => rfl); (case hr => first | (go_simp; done) | (go_simp; rfl)); intro gb136 hg w32 hbox hb; have n0_ := Aside0.mk (below_step (by repeat (first | (with_reducible first | exact HB.out | apply below_alloc | apply pw_below_drewN | apply below_drew1) | exact HB.out)) hb); have n1_ := Aside0.mk (hbox); have n2_ := Aside0.mk ((by rw [hg]; exact (below_size (by repeat (first | (with_reducible first | exact HB.out | apply below_alloc | apply pw_below_drewN | apply below_drew1) | exact HB.out))) : w.heap.size ≤ gb136)); have n3_ := Aside0.mk ((by rw [hg]; exact (below_size (by repeat (first | (with_reducible first | exact HB.out | apply below_alloc | apply pw_below_drewN | apply below_drew1) | exact HB.out))) : w.heap.size ≤ gb136)); clear HB; have HB := n0_; have BK136 := n1_; have GW136 := n2_; have GE136 := n3_; clear n0_ n1_ n2_ n3_; clear hb hbox hg; have hcz33_0 : w32.cell? ⟨gb136, 0, none⟩ = some (.string (⟨#[]⟩ : ByteArray)) := (blk_cell BK136.out 0).trans rfl; have hcz33_1 : w32.cell? ⟨gb136, 1, none⟩ = some (.string (⟨#[]⟩ : ByteArray)) := (blk_cell BK136.out 1).trans rfl; have hfz33_0 := blk_frozen BK136.out 0; have hfz33_1 := blk_frozen BK136.out 1))
                have n0_ : Aside0 (((w32.setCell ⟨gb136, 0, none⟩ (.string ((rd_T88 l0 x7_1).f0))).setCell ⟨gb136, 1, none⟩ (.string ((rd_T88 l0 x7_1).f1))).heap[gb136]? = some (.cells #[.string ((rd_T88 l0 x7_1).f0), .string ((rd_T88 l0 x7_1).f1)] 88 (0, 0))) := ⟨by (with_reducible repeat (first | refine blk_drewN ?_ _ | refine blk_drew ?_ | refine blk_alloc ?_ _)); refine blk_put (cs := #[.string ((rd_T88 l0 x7_1).f0), .string (⟨#[]⟩ : ByteArray)]) ?_ 1 _ rfl; (with_reducible repeat (first | refine blk_drewN ?_ _ | refine blk_drew ?_ | refine blk_alloc ?_ _)); refine blk_put (cs := #[.string (⟨#[]⟩ : ByteArray), .string (⟨#[]⟩ : ByteArray)]) ?_ 0 _ rfl; (with_reducible repeat (first | refine blk_drewN ?_ _ | refine blk_drew ?_ | refine blk_alloc ?_ _)); exact BK136.out⟩
                have n1_ : Aside0 (Below w.heap.size w ((w32.setCell ⟨gb136, 0, none⟩ (.string ((rd_T88 l0 x7_1).f0))).setCell ⟨gb136, 1, none⟩ (.string ((rd_T88 l0 x7_1).f1)))) := ⟨by repeat (first | (with_reducible first | exact HB.out | apply below_alloc | apply pw_below_drewN | apply below_drew1 | refine below_set ?_ GE136.out) | exact HB.out)⟩
                (try clear BK136)
                (try clear HB)
                generalize ((w32.setCell ⟨gb136, 0, none⟩ (.string ((rd_T88 l0 x7_1).f0))).setCell ⟨gb136, 1, none⟩ (.string ((rd_T88 l0 x7_1).f1))) = w34 at n0_ n1_ ⊢
                have BK136 := n0_
                have HB := n1_
                clear n0_ n1_
                have n0_ := Aside0.mk (blk_drew BK136.out)
                have n1_ := Aside0.mk (below_drew1 HB.out)
                clear BK136
                clear HB
                have BK136 := n0_
                have HB := n1_
                clear n0_ n1_
                refine start_ (n := 25) (S := fun w' => w'.cell? ⟨gb136, 0, none⟩ = some (.string ((rd_T88 l0 x7_1).f0)) ∧ w'.cell? ⟨gb136, 1, none⟩ = some (.string ((rd_T88 l0 x7_1).f1))) (ds := []) #[false, false, false, false, false, false, false, false, false, false, false, false, false, false, false, false, false, false, false, false, false, false, false, false, false] (by kernel_rfl) rfl rfl ⟨(blk_cell BK136.out 0).trans rfl, (blk_cell BK136.out 1).trans rfl⟩ (fun hHeld => ?_); refine with_tabW label_Right.tab4 label_Right.bits4 (fun HT_ HW_ => ?_)
                generalize w34.drew = w35 at BK136 HB hHeld ⊢
                refine pu_ 0 (some 12) (bs 25 1) ?_
                refine tk_ 1 (some 13) (bs 25 3) ?_
                refine one_ (i := 2) (N := some 14) (bs 25 7) rfl rfl (one_of HT_.out (by kernel_rfl)) (by decide) (fun K hK => ?_)
                refine goes_ Tryd.func109 (by kernel_rfl) rfl #[.string ((rd_T88 l0 x7_1).f0)] (by rfl) rfl rfl (by (try simp only [List.map_toArray, List.map_cons, List.map_nil]); first | done | rfl | (simp only [List.length_drop, List.length_take]; rfl)) ?_
                with_reducible refine (label_Name.calls ((rd_T88 l0 x7_1).f0) true _ A5.out).mono ?_
                rintro e w36 ⟨rfl, hb⟩
                refine ⟨_, rfl, ?_⟩
                have n0_ := Aside0.mk (blk_below (g := gb136) (o := .cells #[.string ((rd_T88 l0 x7_1).f0), .string ((rd_T88 l0 x7_1).f1)] 88 (0, 0)) (by (with_reducible repeat (first | refine blk_drewN ?_ _ | refine blk_drew ?_ | refine blk_alloc ?_ _)); exact BK136.out) hb)
                have n1_ := Aside0.mk (below_step (by repeat (first | (with_reducible first | exact HB.out | apply below_alloc | apply pw_below_drewN | apply below_drew1 | refine below_set ?_ GE136.out) | exact HB.out)) hb)
                clear BK136
                clear HB
                have BK136 := n0_
                have HB := n1_
                clear n0_ n1_
                (try clear hb)
                (try clear hb2)
                (try clear hk)
                (try clear hi)
                refine hK.out _ _ ⟨(blk_cell BK136.out 0).trans rfl, (blk_cell BK136.out 1).trans rfl⟩ (fun hHeld => ?_)
                clear hK K
                refine pt_ ?_
                refine pu_ 3 (some 15) (bs 25 15) ?_
                refine pu_ 4 (some 16) (bs 25 31) ?_
                refine pu_ 5 (some 17) (bs 25 63) ?_
                refine tk_ 6 (some 18) (bs 25 127) ?_
                refine one_ (i := 7) (N := some 19) (bs 25 255) rfl rfl (one_of HT_.out (by kernel_rfl)) (by decide) (fun K hK => ?_)
                refine goes_ Tryd.func110 (by kernel_rfl) rfl #[.string ((rd_T88 l0 x7_1).f1)] (by rfl) rfl rfl (by (try simp only [List.map_toArray, List.map_cons, List.map_nil]); first | done | rfl | (simp only [List.length_drop, List.length_take]; rfl)) ?_
                with_reducible refine (label_Value.calls ((rd_T88 l0 x7_1).f1) false _ ?side1 A7.out).mono ?_
                (case side1 => exact laid_below HGL.out (by repeat (first | (with_reducible first | exact HB.out | apply below_alloc | apply pw_below_drewN | apply below_drew1 | refine below_set ?_ GE136.out) | exact HB.out)))
                rintro e w37 ⟨rfl, hb⟩
                refine ⟨_, rfl, ?_⟩
                have n0_ := Aside0.mk (blk_below (g := gb136) (o := .cells #[.string ((rd_T88 l0 x7_1).f0), .string ((rd_T88 l0 x7_1).f1)] 88 (0, 0)) (by (with_reducible repeat (first | refine blk_drewN ?_ _ | refine blk_drew ?_ | refine blk_alloc ?_ _)); exact BK136.out) hb)
                have n1_ := Aside0.mk (below_step (by repeat (first | (with_reducible first | exact HB.out | apply below_alloc | apply pw_below_drewN | apply below_drew1 | refine below_set ?_ GE136.out) | exact HB.out)) hb)
                clear BK136
                clear HB
                have BK136 := n0_
                have HB := n1_
                clear n0_ n1_
                (try clear hb)
                (try clear hb2)
                (try clear hk)
                (try clear hi)
                refine hK.out _ _ ⟨(blk_cell BK136.out 0).trans rfl, (blk_cell BK136.out 1).trans rfl⟩ (fun hHeld => ?_)
                clear hK K
                refine pt_ ?_
                refine pu_ 8 (some 20) (bs 25 511) ?_
                refine pu_ 9 (some 21) (bs 25 1023) ?_
                refine pu_ 10 (some 22) (bs 25 2047) ?_
                refine sk_ 11 (some 23) (bs 25 4095) ?_
                refine sk_ 12 (some 24) (bs 25 8191) ?_
                refine sk_ 13 (some 25) (bs 25 16383) ?_
                refine sk_ 14 (some 26) (bs 25 32767) ?_
                refine sk_ 15 (some 27) (bs 25 65535) ?_
                refine sk_ 16 (some 28) (bs 25 131071) ?_
                refine sk_ 17 (some 29) (bs 25 262143) ?_
                refine sk_ 18 (some 30) (bs 25 524287) ?_
                refine sk_ 19 (some 31) (bs 25 1048575) ?_
                refine sk_ 20 (some 32) (bs 25 2097151) ?_
                refine sk_ 21 (some 33) (bs 25 4194303) ?_
                refine sk_ 22 (some 34) (bs 25 8388607) ?_
                refine sk_ 23 (some 35) (bs 25 16777215) ?_
                refine pu_ 24 (some 36) (bs 25 33554431) ?_
                refine done_ (done_of HT_.out (by kernel_rfl)) ?_
                try go_wp2
                go_ret
                exact ⟨by first | rfl | (simp [errW_none, errW_some] <;> rfl) | (simp [*, errW_none, errW_some] <;> rfl), by repeat (first | (with_reducible first | exact HB.out | apply below_alloc | apply pw_below_drewN | apply below_drew1 | refine below_set ?_ GE136.out) | exact HB.out)⟩
            · replace c6 := Bool.eq_false_iff.mpr c6
              subst c6
              have H1 : (some false) = some r := by rw [if_neg (show ¬ (false = true) by decide)] at H; exact H
              clear H
              have H := H1
              clear H1
              obtain rfl := Option.some.inj H
              have p135 : 0 ≤ (x7_1 : Int) := of_decide_eq_true (by first | (with_reducible assumption) | assumption)
              have q135 : x7_1 < (l0.length : Int) := of_decide_eq_true (by first | (with_reducible assumption) | assumption)
              obtain ⟨ad135, e135, hx135_0, hx135_1⟩ := at_T88 HR0.out x7_1 p135 q135
              cases e135
              replace hx135_0 := (HB.out.cell (World.block_lt_of_cell? w _ hx135_0)).trans hx135_0
              replace hx135_1 := (HB.out.cell (World.block_lt_of_cell? w _ hx135_1)).trans hx135_1
              replace p135 := eq_true p135
              replace q135 := eq_true q135
              try go_wp2_with (first | ((with_reducible refine gate_dst (N := 4) rfl ?_); (try (refine gate_guard (by rfl) ?_; dsimp only)); refine box_event ?hg (N := 4) ?hd (cs := #[.string (⟨#[]⟩ : ByteArray), .string (⟨#[]⟩ : ByteArray)]) (t := 88) ?hr ?_; (case hd => rfl); (case hg => rfl); (case hr => first | (go_simp; done) | (go_simp; rfl)); intro gb136 hg w38 hbox hb; have n0_ := Aside0.mk (below_step (by repeat (first | (with_reducible first | exact HB.out | apply below_alloc | apply pw_below_drewN | apply below_drew1) | exact HB.out)) hb); have n1_ := Aside0.mk (hbox); have n2_ := Aside0.mk ((by rw [hg]; exact (below_size (by repeat (first | (with_reducible first | exact HB.out | apply below_alloc | apply pw_below_drewN | apply below_drew1) | exact HB.out))) : w.heap.size ≤ gb136)); have n3_ := Aside0.mk ((by rw [hg]; exact (below_size (by repeat (first | (with_reducible first | exact HB.out | apply below_alloc | apply pw_below_drewN | apply below_drew1) | exact HB.out))) : w.heap.size ≤ gb136)); clear HB; have HB := n0_; have BK136 := n1_; have GW136 := n2_; have GE136 := n3_; clear n0_ n1_ n2_ n3_; clear hb hbox hg; have hcz39_0 : w38.cell? ⟨gb136, 0, none⟩ = some (.string (⟨#[]⟩ : ByteArray)) := (blk_cell BK136.out 0).trans rfl; have hcz39_1 : w38.cell? ⟨gb136, 1, none⟩ = some (.string (⟨#[]⟩ : ByteArray)) := (blk_cell BK136.out 1).trans rfl; have hfz39_0 := blk_frozen BK136.out 0; have hfz39_1 := blk_frozen BK136.out 1))
              have n0_ : Aside0 (((w38.setCell ⟨gb136, 0, none⟩ (.string ((rd_T88 l0 x7_1).f0))).setCell ⟨gb136, 1, none⟩ (.string ((rd_T88 l0 x7_1).f1))).heap[gb136]? = some (.cells #[.string ((rd_T88 l0 x7_1).f0), .string ((rd_T88 l0 x7_1).f1)] 88 (0, 0))) := ⟨by (with_reducible repeat (first | refine blk_drewN ?_ _ | refine blk_drew ?_ | refine blk_alloc ?_ _)); refine blk_put (cs := #[.string ((rd_T88 l0 x7_1).f0), .string (⟨#[]⟩ : ByteArray)]) ?_ 1 _ rfl; (with_reducible repeat (first | refine blk_drewN ?_ _ | refine blk_drew ?_ | refine blk_alloc ?_ _)); refine blk_put (cs := #[.string (⟨#[]⟩ : ByteArray), .string (⟨#[]⟩ : ByteArray)]) ?_ 0 _ rfl; (with_reducible repeat (first | refine blk_drewN ?_ _ | refine blk_drew ?_ | refine blk_alloc ?_ _)); exact BK136.out⟩
              have n1_ : Aside0 (Below w.heap.size w ((w38.setCell ⟨gb136, 0, none⟩ (.string ((rd_T88 l0 x7_1).f0))).setCell ⟨gb136, 1, none⟩ (.string ((rd_T88 l0 x7_1).f1)))) := ⟨by repeat (first | (with_reducible first | exact HB.out | apply below_alloc | apply pw_below_drewN | apply below_drew1 | refine below_set ?_ GE136.out) | exact HB.out)⟩
              (try clear BK136)
              (try clear HB)
              generalize ((w38.setCell ⟨gb136, 0, none⟩ (.string ((rd_T88 l0 x7_1).f0))).setCell ⟨gb136, 1, none⟩ (.string ((rd_T88 l0 x7_1).f1))) = w40 at n0_ n1_ ⊢
              have BK136 := n0_
              have HB := n1_
              clear n0_ n1_
              have n0_ := Aside0.mk (blk_drew BK136.out)
              have n1_ := Aside0.mk (below_drew1 HB.out)
              clear BK136
              clear HB
              have BK136 := n0_
              have HB := n1_
              clear n0_ n1_
              refine start_ (n := 25) (S := fun w' => w'.cell? ⟨gb136, 0, none⟩ = some (.string ((rd_T88 l0 x7_1).f0)) ∧ w'.cell? ⟨gb136, 1, none⟩ = some (.string ((rd_T88 l0 x7_1).f1))) (ds := []) #[false, false, false, false, false, false, false, false, false, false, false, false, false, false, false, false, false, false, false, false, false, false, false, false, false] (by kernel_rfl) rfl rfl ⟨(blk_cell BK136.out 0).trans rfl, (blk_cell BK136.out 1).trans rfl⟩ (fun hHeld => ?_); refine with_tabW label_Right.tab4 label_Right.bits4 (fun HT_ HW_ => ?_)
              generalize w40.drew = w41 at BK136 HB hHeld ⊢
              refine pu_ 0 (some 12) (bs 25 1) ?_
              refine tk_ 1 (some 13) (bs 25 3) ?_
              refine one_ (i := 2) (N := some 14) (bs 25 7) rfl rfl (one_of HT_.out (by kernel_rfl)) (by decide) (fun K hK => ?_)
              refine goes_ Tryd.func109 (by kernel_rfl) rfl #[.string ((rd_T88 l0 x7_1).f0)] (by rfl) rfl rfl (by (try simp only [List.map_toArray, List.map_cons, List.map_nil]); first | done | rfl | (simp only [List.length_drop, List.length_take]; rfl)) ?_
              with_reducible refine (label_Name.calls ((rd_T88 l0 x7_1).f0) false _ A5.out).mono ?_
              rintro e w42 ⟨rfl, hb⟩
              refine ⟨_, rfl, ?_⟩
              have n0_ := Aside0.mk (blk_below (g := gb136) (o := .cells #[.string ((rd_T88 l0 x7_1).f0), .string ((rd_T88 l0 x7_1).f1)] 88 (0, 0)) (by (with_reducible repeat (first | refine blk_drewN ?_ _ | refine blk_drew ?_ | refine blk_alloc ?_ _)); exact BK136.out) hb)
              have n1_ := Aside0.mk (below_step (by repeat (first | (with_reducible first | exact HB.out | apply below_alloc | apply pw_below_drewN | apply below_drew1 | refine below_set ?_ GE136.out) | exact HB.out)) hb)
              clear BK136
              clear HB
              have BK136 := n0_
              have HB := n1_
              clear n0_ n1_
              (try clear hb)
              (try clear hb2)
              (try clear hk)
              (try clear hi)
              refine hK.out _ _ ⟨(blk_cell BK136.out 0).trans rfl, (blk_cell BK136.out 1).trans rfl⟩ (fun hHeld => ?_)
              clear hK K
              refine pt_ ?_
              refine pu_ 3 (some 15) (bs 25 15) ?_
              refine pu_ 4 (some 16) (bs 25 31) ?_
              refine sk_ 5 (some 17) (bs 25 63) ?_
              refine sk_ 6 (some 18) (bs 25 127) ?_
              refine sk_ 7 (some 19) (bs 25 255) ?_
              refine sk_ 8 (some 20) (bs 25 511) ?_
              refine pu_ 9 (some 21) (bs 25 1023) ?_
              refine pu_ 10 (some 22) (bs 25 2047) ?_
              refine sk_ 11 (some 23) (bs 25 4095) ?_
              refine sk_ 12 (some 24) (bs 25 8191) ?_
              refine sk_ 13 (some 25) (bs 25 16383) ?_
              refine sk_ 14 (some 26) (bs 25 32767) ?_
              refine sk_ 15 (some 27) (bs 25 65535) ?_
              refine sk_ 16 (some 28) (bs 25 131071) ?_
              refine sk_ 17 (some 29) (bs 25 262143) ?_
              refine sk_ 18 (some 30) (bs 25 524287) ?_
              refine sk_ 19 (some 31) (bs 25 1048575) ?_
              refine sk_ 20 (some 32) (bs 25 2097151) ?_
              refine sk_ 21 (some 33) (bs 25 4194303) ?_
              refine sk_ 22 (some 34) (bs 25 8388607) ?_
              refine sk_ 23 (some 35) (bs 25 16777215) ?_
              refine pu_ 24 (some 36) (bs 25 33554431) ?_
              refine done_ (done_of HT_.out (by kernel_rfl)) ?_
              try go_wp2
              go_ret
              exact ⟨by first | rfl | (simp [errW_none, errW_some] <;> rfl) | (simp [*, errW_none, errW_some] <;> rfl), by repeat (first | (with_reducible first | exact HB.out | apply below_alloc | apply pw_below_drewN | apply below_drew1 | refine below_set ?_ GE136.out) | exact HB.out)⟩
          · rw [if_neg c4] at H
            exact absurd H (by simp)
        · rw [if_neg c3] at H
          exact absurd H (by simp)
      · rw [if_neg c2] at H
        have c2b0 : decide (x7_1 < (l0.length : Int)) = false := decide_eq_false c2
        clear c2
        by_cases c43 : (l0.length : Int) ≥ 1
        · rw [if_pos c43] at H
          have c43b0 : decide (1 ≤ (l0.length : Int)) = true := decide_eq_true c43
          have c43b1 : decide (1 ≤ l0.length) = true := decide_eq_true (by omega)
          clear c43
          obtain rfl := Option.some.inj H
          go_wp2
          go_ret
          exact ⟨by first | rfl | (simp [errW_none, errW_some] <;> rfl) | (simp [*, errW_none, errW_some] <;> rfl), by repeat (first | (with_reducible first | exact HB.out | apply below_alloc | apply pw_below_drewN | apply below_drew1) | exact HB.out)⟩
        · rw [if_neg c43] at H
          have c43b0 : decide (1 ≤ (l0.length : Int)) = false := decide_eq_false c43
          have c43b1 : decide (1 ≤ l0.length) = false := decide_eq_false (by omega)
          clear c43
          obtain rfl := Option.some.inj H
          go_wp2
          go_ret
          exact ⟨by first | rfl | (simp [errW_none, errW_some] <;> rfl) | (simp [*, errW_none, errW_some] <;> rfl), by repeat (first | (with_reducible first | exact HB.out | apply below_alloc | apply pw_below_drewN | apply below_drew1) | exact HB.out)⟩
end Go.Proofs.YtkbmmgpdnienfaaDoor.P
namespace Go.Proofs.YtkbmmgpdnienfaaDoor.P
open Go.RowKit Go.Proofs.YtkbmmgpdnienfaaDoorW.PrintWords Go.Proofs.YtkbmmgpdnienfaaDoorW.PrintLast Go.Proofs.YtkbmmgpdnienfaaDoorW.PrintMore
attribute [local go_sem] max2_int min2_int max_two min_two max_three min_three max_four min_four   -- for this text's walks alone
def record_Right.f (k : Nat) (a0_0 : Int) (a0_1 : Int) (l0_2 : List (S88)) (a0_3 : ByteArray) : Option (Bool) := if a0_0 ≥ 1 then (if a0_0 < 1099511627776 then (if a0_1 ≥ 0 then (if a0_1 < 1099511627776 then ((label_Right.f k l0_2).bind fun t141 => (if t141 = true then (some (decide ((a0_3.size : Int) ≤ 1024))) else (some false))) else (some false)) else (some false)) else (some false)) else (some false)
set_option maxHeartbeats 8000000 in
set_option maxRecDepth 100000 in
theorem record_Right.calls (k : Nat) (a0_0 : Int) (a0_1 : Int) (A0_2 : Option Addr) (c0_2 : Nat) (l0_2 : List (S88)) (a0_3 : ByteArray) (r : Bool) (w : World) (hr0_2 : Kd.C k88 w A0_2 l0_2.length l0_2) (hc0_2 : l0_2.length ≤ c0_2) (hG : Laid w) (h : record_Right.f k a0_0 a0_1 l0_2 a0_3 = some r) :
    Calls Tryd.prog 43 #[.agg #[.int .i64 a0_0, .int .i64 a0_1, .slice A0_2 l0_2.length c0_2, .string a0_3]] w fun e w' => e = .returned (.bool r) ∧ Below w.heap.size w w' := by
  have hu53 := Tryd.underlying53
  have HGL := Aside0.mk hG
  clear hG
  have HR0_2 := Aside0.mk hr0_2
  have HC0_2 := Aside0.mk hc0_2
  clear hr0_2 hc0_2
  have HB := Aside0.mk (Below.refl w.heap.size w)
  have H : (if a0_0 ≥ 1 then (if a0_0 < 1099511627776 then (if a0_1 ≥ 0 then (if a0_1 < 1099511627776 then ((label_Right.f k l0_2).bind fun t141 => (if t141 = true then (some (decide ((a0_3.size : Int) ≤ 1024))) else (some false))) else (some false)) else (some false)) else (some false)) else (some false)) = some r := h
  clear h
  by_cases c2 : a0_0 ≥ 1
  · rw [if_pos c2] at H
    have c2b0 : decide (1 ≤ a0_0) = true := decide_eq_true c2
    clear c2
    by_cases c3 : a0_0 < 1099511627776
    · rw [if_pos c3] at H
      have c3b0 : decide (a0_0 < 1099511627776) = true := decide_eq_true c3
      clear c3
      by_cases c4 : a0_1 ≥ 0
      · rw [if_pos c4] at H
        have c4b0 : decide (0 ≤ a0_1) = true := decide_eq_true c4
        clear c4
        by_cases c5 : a0_1 < 1099511627776
        · rw [if_pos c5] at H
          have c5b0 : decide (a0_1 < 1099511627776) = true := decide_eq_true c5
          clear c5
          replace H := Option.bind_eq_some_iff.mp H
          obtain ⟨t141, A60, H⟩ := H
          replace H : (if t141 = true then (some (decide ((a0_3.size : Int) ≤ 1024))) else (some false)) = some r := H
          have A6 := Aside0.mk A60
          clear A60
          by_cases c7 : t141 = true
          · subst c7
            have H1 : (some (decide ((a0_3.size : Int) ≤ 1024))) = some r := by rw [if_pos rfl] at H; exact H
            clear H
            have H := H1
            clear H1
            obtain rfl := Option.some.inj H
            go_enter Tryd.func43, Tryd.ntmps43
            go_wp2_with (first | ((with_reducible refine gate_dst (N := 1) rfl ?_); (try (refine gate_guard (by rfl) ?_; dsimp only)); refine box_event ?hg (N := 1) ?hd (cs := #[.int .i64 a0_0, .int .i64 a0_1, .slice A0_2 l0_2.length c0_2, .string a0_3]) (t := 53) ?hr ?_; (case hd => rfl); (case hg => rfl); (case hr => first | (go_simp; done) | (go_simp; rfl)); intro gb140 hg w8 hbox hb; have n0_ := Aside0.mk (below_step (by repeat (first | (with_reducible first | exact HB.out | apply below_alloc | apply pw_below_drewN | apply below_drew1) | exact HB.out)) hb); have n1_ := Aside0.mk (hbox); have n2_ := Aside0.mk ((by rw [hg]; exact (below_size (by repeat (first | (with_reducible first | exact HB.out | apply below_alloc | apply pw_below_drewN | apply below_drew1) | exact HB.out))) : w.heap.size ≤ gb140)); have n3_ := Aside0.mk ((by rw [hg]; exact (below_size (by repeat (first | (with_reducible first | exact HB.out | apply below_alloc | apply pw_below_drewN | apply below_drew1) | exact HB.out))) : w.heap.size ≤ gb140)); clear HB; have HB := n0_; have BK140 := n1_; have GW140 := n2_; have GE140 := n3_; clear n0_ n1_ n2_ n3_; clear hb hbox hg; have hcz9_0 : w8.cell? ⟨gb140, 0, none⟩ = some (.int .i64 a0_0) := (blk_cell BK140.out 0).trans rfl; have hcz9_1 : w8.cell? ⟨gb140, 1, none⟩ = some (.int .i64 a0_1) := (blk_cell BK140.out 1).trans rfl; have hcz9_2 : w8.cell? ⟨gb140, 2, none⟩ = some (.slice A0_2 l0_2.length c0_2) := (blk_cell BK140.out 2).trans rfl; have hcz9_3 : w8.cell? ⟨gb140, 3, none⟩ = some (.string a0_3) := (blk_cell BK140.out 3).trans rfl; have hfz9_0 := blk_frozen BK140.out 0; have hfz9_1 := blk_frozen BK140.out 1; have hfz9_2 := blk_frozen BK140.out 2; have hfz9_3 := blk_frozen BK140.out 3) | (go_at_call 85; (with_reducible refine (label_Right.calls k _ _ l0_2 true _ ?side1 ?side2 ?side3 A6.out).mono ?_); (case side1 => repeat (first | exact (Kd.C_below HR0_2.out HB.out) | (with_reducible refine Kd.C_alloc ?_ _) | (with_reducible refine Kd.C_drewN ?_ _) | (with_reducible refine Kd.C_drew ?_))); (case side2 => exact HC0_2.out); (case side3 => exact laid_below HGL.out (by repeat (first | (with_reducible first | exact HB.out | apply below_alloc | apply pw_below_drewN | apply below_drew1 | refine below_set ?_ GE140.out) | exact HB.out))); rintro e w10 ⟨rfl, hb⟩; have n0_ := Aside0.mk (blk_below (g := gb140) (o := .cells #[.int .i64 a0_0, .int .i64 a0_1, .slice A0_2 l0_2.length c0_2, .string a0_3] 53 (0, 0)) (by (with_reducible repeat (first | refine blk_drewN ?_ _ | refine blk_drew ?_ | refine blk_alloc ?_ _)); exact BK140.out) hb); have n1_ := Aside0.mk (below_step (by repeat (first | (with_reducible first | exact HB.out | apply below_alloc | apply pw_below_drewN | apply below_drew1 | refine below_set ?_ GE140.out) | exact HB.out)) hb); clear BK140; clear HB; have BK140 := n0_; have HB := n1_; clear n0_ n1_; (try clear hb); (try clear hb2); (try clear hk); (try clear hi); have hcz11_0 : w10.cell? ⟨gb140, 0, none⟩ = some (.int .i64 a0_0) := (blk_cell BK140.out 0).trans rfl; have hcz11_1 : w10.cell? ⟨gb140, 1, none⟩ = some (.int .i64 a0_1) := (blk_cell BK140.out 1).trans rfl; have hcz11_2 : w10.cell? ⟨gb140, 2, none⟩ = some (.slice A0_2 l0_2.length c0_2) := (blk_cell BK140.out 2).trans rfl; have hcz11_3 : w10.cell? ⟨gb140, 3, none⟩ = some (.string a0_3) := (blk_cell BK140.out 3).trans rfl; have hfz11_0 := blk_frozen BK140.out 0; have hfz11_1 := blk_frozen BK140.out 1; have hfz11_2 := blk_frozen BK140.out 2; have hfz11_3 := blk_frozen BK140.out 3))
            go_ret
            exact ⟨by first | rfl | (simp [errW_none, errW_some] <;> rfl) | (simp [*, errW_none, errW_some] <;> rfl), by repeat (first | (with_reducible first | exact HB.out | apply below_alloc | apply pw_below_drewN | apply below_drew1 | refine below_set ?_ GE140.out) | exact HB.out)⟩
          · replace c7 := Bool.eq_false_iff.mpr c7
            subst c7
            have H1 : (some false) = some r := by rw [if_neg (show ¬ (false = true) by decide)] at H; exact H
            clear H
            have H := H1
            clear H1
            obtain rfl := Option.some.inj H
            go_enter Tryd.func43, Tryd.ntmps43
            go_wp2_with (first | ((with_reducible refine gate_dst (N := 1) rfl ?_); (try (refine gate_guard (by rfl) ?_; dsimp only)); refine box_event ?hg (N := 1) ?hd (cs := #[.int .i64 a0_0, .int .i64 a0_1, .slice A0_2 l0_2.length c0_2, .string a0_3]) (t := 53) ?hr ?_; (case hd => rfl); (case hg => rfl); (case hr => first | (go_simp; done) | (go_simp; rfl)); intro gb140 hg w12 hbox hb; have n0_ := Aside0.mk (below_step (by repeat (first | (with_reducible first | exact HB.out | apply below_alloc | apply pw_below_drewN | apply below_drew1) | exact HB.out)) hb); have n1_ := Aside0.mk (hbox); have n2_ := Aside0.mk ((by rw [hg]; exact (below_size (by repeat (first | (with_reducible first | exact HB.out | apply below_alloc | apply pw_below_drewN | apply below_drew1) | exact HB.out))) : w.heap.size ≤ gb140)); have n3_ := Aside0.mk ((by rw [hg]; exact (below_size (by repeat (first | (with_reducible first | exact HB.out | apply below_alloc | apply pw_below_drewN | apply below_drew1) | exact HB.out))) : w.heap.size ≤ gb140)); clear HB; have HB := n0_; have BK140 := n1_; have GW140 := n2_; have GE140 := n3_; clear n0_ n1_ n2_ n3_; clear hb hbox hg; have hcz13_0 : w12.cell? ⟨gb140, 0, none⟩ = some (.int .i64 a0_0) := (blk_cell BK140.out 0).trans rfl; have hcz13_1 : w12.cell? ⟨gb140, 1, none⟩ = some (.int .i64 a0_1) := (blk_cell BK140.out 1).trans rfl; have hcz13_2 : w12.cell? ⟨gb140, 2, none⟩ = some (.slice A0_2 l0_2.length c0_2) := (blk_cell BK140.out 2).trans rfl; have hcz13_3 : w12.cell? ⟨gb140, 3, none⟩ = some (.string a0_3) := (blk_cell BK140.out 3).trans rfl; have hfz13_0 := blk_frozen BK140.out 0; have hfz13_1 := blk_frozen BK140.out 1; have hfz13_2 := blk_frozen BK140.out 2; have hfz13_3 := blk_frozen BK140.out 3) | (go_at_call 85; (with_reducible refine (label_Right.calls k _ _ l0_2 false _ ?side1 ?side2 ?side3 A6.out).mono ?_); (case side1 => repeat (first | exact (Kd.C_below HR0_2.out HB.out) | (with_reducible refine Kd.C_alloc ?_ _) | (with_reducible refine Kd.C_drewN ?_ _) | (with_reducible refine Kd.C_drew ?_))); (case side2 => exact HC0_2.out); (case side3 => exact laid_below HGL.out (by repeat (first | (with_reducible first | exact HB.out | apply below_alloc | apply pw_below_drewN | apply below_drew1 | refine below_set ?_ GE140.out) | exact HB.out))); rintro e w14 ⟨rfl, hb⟩; have n0_ := Aside0.mk (blk_below (g := gb140) (o := .cells #[.int .i64 a0_0, .int .i64 a0_1, .slice A0_2 l0_2.length c0_2, .string a0_3] 53 (0, 0)) (by (with_reducible repeat (first | refine blk_drewN ?_ _ | refine blk_drew ?_ | refine blk_alloc ?_ _)); exact BK140.out) hb); have n1_ := Aside0.mk (below_step (by repeat (first | (with_reducible first | exact HB.out | apply below_alloc | apply pw_below_drewN | apply below_drew1 | refine below_set ?_ GE140.out) | exact HB.out)) hb); clear BK140; clear HB; have BK140 := n0_; have HB := n1_; clear n0_ n1_; (try clear hb); (try clear hb2); (try clear hk); (try clear hi)))
            go_ret
            exact ⟨by first | rfl | (simp [errW_none, errW_some] <;> rfl) | (simp [*, errW_none, errW_some] <;> rfl), by repeat (first | (with_reducible first | exact HB.out | apply below_alloc | apply pw_below_drewN | apply below_drew1 | refine below_set ?_ GE140.out) | exact HB.out)⟩
        · rw [if_neg c5] at H
          have c5b0 : decide (a0_1 < 1099511627776) = false := decide_eq_false c5
          clear c5
          obtain rfl := Option.some.inj H
          go_enter Tryd.func43, Tryd.ntmps43
          go_wp2_with (first | ((with_reducible refine gate_dst (N := 1) rfl ?_); (try (refine gate_guard (by rfl) ?_; dsimp only)); refine box_event ?hg (N := 1) ?hd (cs := #[.int .i64 a0_0, .int .i64 a0_1, .slice A0_2 l0_2.length c0_2, .string a0_3]) (t := 53) ?hr ?_; (case hd => rfl); (case hg => rfl); (case hr => first | (go_simp; done) | (go_simp; rfl)); intro gb140 hg w15 hbox hb; have n0_ := Aside0.mk (below_step (by repeat (first | (with_reducible first | exact HB.out | apply below_alloc | apply pw_below_drewN | apply below_drew1) | exact HB.out)) hb); have n1_ := Aside0.mk (hbox); have n2_ := Aside0.mk ((by rw [hg]; exact (below_size (by repeat (first | (with_reducible first | exact HB.out | apply below_alloc | apply pw_below_drewN | apply below_drew1) | exact HB.out))) : w.heap.size ≤ gb140)); have n3_ := Aside0.mk ((by rw [hg]; exact (below_size (by repeat (first | (with_reducible first | exact HB.out | apply below_alloc | apply pw_below_drewN | apply below_drew1) | exact HB.out))) : w.heap.size ≤ gb140)); clear HB; have HB := n0_; have BK140 := n1_; have GW140 := n2_; have GE140 := n3_; clear n0_ n1_ n2_ n3_; clear hb hbox hg; have hcz16_0 : w15.cell? ⟨gb140, 0, none⟩ = some (.int .i64 a0_0) := (blk_cell BK140.out 0).trans rfl; have hcz16_1 : w15.cell? ⟨gb140, 1, none⟩ = some (.int .i64 a0_1) := (blk_cell BK140.out 1).trans rfl; have hcz16_2 : w15.cell? ⟨gb140, 2, none⟩ = some (.slice A0_2 l0_2.length c0_2) := (blk_cell BK140.out 2).trans rfl; have hcz16_3 : w15.cell? ⟨gb140, 3, none⟩ = some (.string a0_3) := (blk_cell BK140.out 3).trans rfl; have hfz16_0 := blk_frozen BK140.out 0; have hfz16_1 := blk_frozen BK140.out 1; have hfz16_2 := blk_frozen BK140.out 2; have hfz16_3 := blk_frozen BK140.out 3))
          go_ret
          exact ⟨by first | rfl | (simp [errW_none, errW_some] <;> rfl) | (simp [*, errW_none, errW_some] <;> rfl), by repeat (first | (with_reducible first | exact HB.out | apply below_alloc | apply pw_below_drewN | apply below_drew1 | refine below_set ?_ GE140.out) | exact HB.out)⟩
      · rw [if_neg c4] at H
        have c4b0 : decide (0 ≤ a0_1) = false := decide_eq_false c4
        clear c4
        obtain rfl := Option.some.inj H
        go_enter Tryd.func43, Tryd.ntmps43
        go_wp2_with (first | ((with_reducible refine gate_dst (N := 1) rfl ?_); (try (refine gate_guard (by rfl) ?_; dsimp only)); refine box_event ?hg (N := 1) ?hd (cs := #[.int .i64 a0_0, .int .i64 a0_1, .slice A0_2 l0_2.length c0_2, .string a0_3]) (t := 53) ?hr ?_; (case hd => rfl); (case hg => rfl); (case hr => first | (go_simp; done) | (go_simp; rfl)); intro gb140 hg w17 hbox hb; have n0_ := Aside0.mk (below_step (by repeat (first | (with_reducible first | exact HB.out | apply below_alloc | apply pw_below_drewN | apply below_drew1) | exact HB.out)) hb); have n1_ := Aside0.mk (hbox); have n2_ := Aside0.mk ((by rw [hg]; exact (below_size (by repeat (first | (with_reducible first | exact HB.out | apply below_alloc | apply pw_below_drewN | apply below_drew1) | exact HB.out))) : w.heap.size ≤ gb140)); have n3_ := Aside0.mk ((by rw [hg]; exact (below_size (by repeat (first | (with_reducible first | exact HB.out | apply below_alloc | apply pw_below_drewN | apply below_drew1) | exact HB.out))) : w.heap.size ≤ gb140)); clear HB; have HB := n0_; have BK140 := n1_; have GW140 := n2_; have GE140 := n3_; clear n0_ n1_ n2_ n3_; clear hb hbox hg; have hcz18_0 : w17.cell? ⟨gb140, 0, none⟩ = some (.int .i64 a0_0) := (blk_cell BK140.out 0).trans rfl; have hcz18_1 : w17.cell? ⟨gb140, 1, none⟩ = some (.int .i64 a0_1) := (blk_cell BK140.out 1).trans rfl; have hcz18_2 : w17.cell? ⟨gb140, 2, none⟩ = some (.slice A0_2 l0_2.length c0_2) := (blk_cell BK140.out 2).trans rfl; have hcz18_3 : w17.cell? ⟨gb140, 3, none⟩ = some (.string a0_3) := (blk_cell BK140.out 3).trans rfl; have hfz18_0 := blk_frozen BK140.out 0; have hfz18_1 := blk_frozen BK140.out 1; have hfz18_2 := blk_frozen BK140.out 2; have hfz18_3 := blk_frozen BK140.out 3))
        go_ret
        exact ⟨by first | rfl | (simp [errW_none, errW_some] <;> rfl) | (simp [*, errW_none, errW_some] <;> rfl), by repeat (first | (with_reducible first | exact HB.out | apply below_alloc | apply pw_below_drewN | apply below_drew1 | refine below_set ?_ GE140.out) | exact HB.out)⟩
    · rw [if_neg c3] at H
      have c3b0 : decide (a0_0 < 1099511627776) = false := decide_eq_false c3
      clear c3
      obtain rfl := Option.some.inj H
      go_enter Tryd.func43, Tryd.ntmps43
      go_wp2_with (first | ((with_reducible refine gate_dst (N := 1) rfl ?_); (try (refine gate_guard (by rfl) ?_; dsimp only)); refine box_event ?hg (N := 1) ?hd (cs := #[.int .i64 a0_0, .int .i64 a0_1, .slice A0_2 l0_2.length c0_2, .string a0_3]) (t := 53) ?hr ?_; (case hd => rfl); (case hg => rfl); (case hr => first | (go_simp; done) | (go_simp; rfl)); intro gb140 hg w19 hbox hb; have n0_ := Aside0.mk (below_step (by repeat (first | (with_reducible first | exact HB.out | apply below_alloc | apply pw_below_drewN | apply below_drew1) | exact HB.out)) hb); have n1_ := Aside0.mk (hbox); have n2_ := Aside0.mk ((by rw [hg]; exact (below_size (by repeat (first | (with_reducible first | exact HB.out | apply below_alloc | apply pw_below_drewN | apply below_drew1) | exact HB.out))) : w.heap.size ≤ gb140)); have n3_ := Aside0.mk ((by rw [hg]; exact (below_size (by repeat (first | (with_reducible first | exact HB.out | apply below_alloc | apply pw_below_drewN | apply below_drew1) | exact HB.out))) : w.heap.size ≤ gb140)); clear HB; have HB := n0_; have BK140 := n1_; have GW140 := n2_; have GE140 := n3_; clear n0_ n1_ n2_ n3_; clear hb hbox hg; have hcz20_0 : w19.cell? ⟨gb140, 0, none⟩ = some (.int .i64 a0_0) := (blk_cell BK140.out 0).trans rfl; have hcz20_1 : w19.cell? ⟨gb140, 1, none⟩ = some (.int .i64 a0_1) := (blk_cell BK140.out 1).trans rfl; have hcz20_2 : w19.cell? ⟨gb140, 2, none⟩ = some (.slice A0_2 l0_2.length c0_2) := (blk_cell BK140.out 2).trans rfl; have hcz20_3 : w19.cell? ⟨gb140, 3, none⟩ = some (.string a0_3) := (blk_cell BK140.out 3).trans rfl; have hfz20_0 := blk_frozen BK140.out 0; have hfz20_1 := blk_frozen BK140.out 1; have hfz20_2 := blk_frozen BK140.out 2; have hfz20_3 := blk_frozen BK140.out 3))
      go_ret
      exact ⟨by first | rfl | (simp [errW_none, errW_some] <;> rfl) | (simp [*, errW_none, errW_some] <;> rfl), by repeat (first | (with_reducible first | exact HB.out | apply below_alloc | apply pw_below_drewN | apply below_drew1 | refine below_set ?_ GE140.out) | exact HB.out)⟩
  · rw [if_neg c2] at H
    have c2b0 : decide (1 ≤ a0_0) = false := decide_eq_false c2
    clear c2
    obtain rfl := Option.some.inj H
    go_enter Tryd.func43, Tryd.ntmps43
    go_wp2_with (first | ((with_reducible refine gate_dst (N := 1) rfl ?_); (try (refine gate_guard (by rfl) ?_; dsimp only)); refine box_event ?hg (N := 1) ?hd (cs := #[.int .i64 a0_0, .int .i64 a0_1, .slice A0_2 l0_2.length c0_2, .string a0_3]) (t := 53) ?hr ?_; (case hd => rfl); (case hg => rfl); (case hr => first | (go_simp; done) | (go_simp; rfl)); intro gb140 hg w21 hbox hb; have n0_ := Aside0.mk (below_step (by repeat (first | (with_reducible first | exact HB.out | apply below_alloc | apply pw_below_drewN | apply below_drew1) | exact HB.out)) hb); have n1_ := Aside0.mk (hbox); have n2_ := Aside0.mk ((by rw [hg]; exact (below_size (by repeat (first | (with_reducible first | exact HB.out | apply below_alloc | apply pw_below_drewN | apply below_drew1) | exact HB.out))) : w.heap.size ≤ gb140)); have n3_ := Aside0.mk ((by rw [hg]; exact (below_size (by repeat (first | (with_reducible first | exact HB.out | apply below_alloc | apply pw_below_drewN | apply below_drew1) | exact HB.out))) : w.heap.size ≤ gb140)); clear HB; have HB := n0_; have BK140 := n1_; have GW140 := n2_; have GE140 := n3_; clear n0_ n1_ n2_ n3_; clear hb hbox hg; have hcz22_0 : w21.cell? ⟨gb140, 0, none⟩ = some (.int .i64 a0_0) := (blk_cell BK140.out 0).trans rfl; have hcz22_1 : w21.cell? ⟨gb140, 1, none⟩ = some (.int .i64 a0_1) := (blk_cell BK140.out 1).trans rfl; have hcz22_2 : w21.cell? ⟨gb140, 2, none⟩ = some (.slice A0_2 l0_2.length c0_2) := (blk_cell BK140.out 2).trans rfl; have hcz22_3 : w21.cell? ⟨gb140, 3, none⟩ = some (.string a0_3) := (blk_cell BK140.out 3).trans rfl; have hfz22_0 := blk_frozen BK140.out 0; have hfz22_1 := blk_frozen BK140.out 1; have hfz22_2 := blk_frozen BK140.out 2; have hfz22_3 := blk_frozen BK140.out 3))
    go_ret
    exact ⟨by first | rfl | (simp [errW_none, errW_some] <;> rfl) | (simp [*, errW_none, errW_some] <;> rfl), by repeat (first | (with_reducible first | exact HB.out | apply below_alloc | apply pw_below_drewN | apply below_drew1 | refine below_set ?_ GE140.out) | exact HB.out)⟩
end Go.Proofs.YtkbmmgpdnienfaaDoor.P
namespace Go.Proofs.YtkbmmgpdnienfaaDoor.P
open Go.RowKit Go.Proofs.YtkbmmgpdnienfaaDoorW.PrintWords Go.Proofs.YtkbmmgpdnienfaaDoorW.PrintLast Go.Proofs.YtkbmmgpdnienfaaDoorW.PrintMore
theorem wrap_id {x : Int} (h0 : -9223372036854775808 ≤ x) (h1 : x ≤ 9223372036854775807) : wrap64 x = x := by unfold wrap64; omega
def cmp3 (a b : Int) : Int := if a < b then -1 else if a > b then 1 else 0
theorem isNaN_is (a : Int) : cmp_isNaN_int.f a = some false := by simp [cmp_isNaN_int.f]
theorem compare_is (a b : Int) : cmp_Compare_int.f a b = some (cmp3 a b) := by
  simp only [cmp_Compare_int.f, isNaN_is, Option.bind_some, cmp3, Bool.false_eq_true, if_false]
  split
  · rfl
  · split <;> rfl
theorem or_is (k : Nat) (hk : 3 ≤ k) (x y : Int) : cmp_Or_int.f k [x, y] = some (if x = 0 then y else x) := by
  obtain ⟨k, rfl⟩ : ∃ m, k = m + 3 := ⟨k - 3, by omega⟩
  have w0 : wrap64 1 = 1 := wrap_id (by omega) (by omega)
  have w1 : wrap64 2 = 2 := wrap_id (by omega) (by omega)
  by_cases hx : x = 0
  · by_cases hy : y = 0
    · simp [cmp_Or_int.f, cmp_Or_int.l0, rd, hx, hy, w0, w1]
    · simp [cmp_Or_int.f, cmp_Or_int.l0, rd, hx, hy, w0]
  · simp [cmp_Or_int.f, cmp_Or_int.l0, rd, hx]
def beforeB (s t s' t' : Int) : Bool := decide (t < t') || (decide (t = t') && decide (s < s'))
theorem before_is (k : Nat) (hk : 3 ≤ k) (s t : Int) (l : List S88) (x : ByteArray) (s' t' : Int) (l' : List S88) (x' : ByteArray) : record_Before.f k s t l x s' t' l' x' = some (beforeB s t s' t') := by
  simp only [record_Before.f, record_order_compare.f, compare_is, Option.bind_some, or_is k hk]
  congr 1
  unfold beforeB
  by_cases h1 : t < t'
  · simp [cmp3, h1]
  · by_cases h2 : t > t'
    · have : ¬ t = t' := by omega
      simp [cmp3, h1, h2, this]
    · have h3 : t = t' := by omega
      subst h3
      by_cases h4 : s < s'
      · simp [cmp3, h4]
      · by_cases h5 : s > s'
        · simp [cmp3, h4, h5]
        · simp [cmp3, h4, h5]
def nameB (s : ByteArray) : Bool := nameTo s s.size && decide (1 ≤ s.size) && decide (s.size ≤ 64)
def valueB (s : ByteArray) : Bool := decide (1 ≤ s.size) && decide (s.size ≤ 128) && Lib.validD s.data.toList
theorem value_is (s : ByteArray) : label_Value.f s = some (valueB s) := by
  unfold label_Value.f valueB utf8_ValidString.f
  by_cases h1 : (s.size : Int) ≥ 1
  · rw [if_pos h1, decide_eq_true (show 1 ≤ s.size by omega)]
    by_cases h2 : (s.size : Int) ≤ 128
    · rw [if_pos h2, if_pos (by omega), decide_eq_true (show s.size ≤ 128 by omega)]
      simp
    · rw [if_neg h2, decide_eq_false (show ¬ s.size ≤ 128 by omega)]
      simp
  · rw [if_neg h1, decide_eq_false (show ¬ 1 ≤ s.size by omega)]
    simp
def labOK (l : List S88) (i : Nat) : Bool := nameB (rd_T88 l i).f0 && valueB (rd_T88 l i).f1 && (i == 0 || Op.bytesLess (rd_T88 l (i - 1 : Nat)).f0.toList (rd_T88 l i).f0.toList)
def labelsR (l : List S88) : Bool := ((List.range l.length).all (labOK l)) && decide (1 ≤ l.length) && decide (l.length ≤ 16)
theorem labels_from (l : List S88) (hl : l.length < 9223372036854775807) : ∀ (d i k : Nat), i + d = l.length → d < k → label_Right.l0 k l l (l.length : Int) i = some (((List.range' i d).all (labOK l)) && (decide (1 ≤ l.length) && decide (l.length ≤ 16))) := by
  intro d
  induction d with
  | zero =>
    intro i k hi hk
    obtain ⟨k, rfl⟩ : ∃ m, k = m + 1 := ⟨k - 1, by omega⟩
    simp only [label_Right.l0]
    rw [if_neg (by omega)]
    simp only [List.range'_zero, List.all_nil, Bool.true_and]
    by_cases h1 : (l.length : Int) ≥ 1
    · rw [if_pos h1, decide_eq_true (show 1 ≤ l.length by omega), Bool.true_and]
      congr 1
      rw [Bool.eq_iff_iff]; simp only [decide_eq_true_eq]; omega
    · rw [if_neg h1, decide_eq_false (show ¬ 1 ≤ l.length by omega)]; rfl
  | succ d ih =>
    intro i k hi hk
    obtain ⟨k, rfl⟩ : ∃ m, k = m + 1 := ⟨k - 1, by omega⟩
    have hn : label_Name.f (rd_T88 l i).f0 = some (nameB (rd_T88 l i).f0) := rfl
    have hw : wrap64 ((i : Int) + 1) = ((i + 1 : Nat) : Int) := by rw [wrap_id (by omega) (by omega)]; omega
    simp only [label_Right.l0]
    rw [if_pos (by omega), if_pos (by omega), if_pos (by omega), hn, Option.bind_some, value_is, Option.bind_some, hw, ih (i + 1) k (by omega) (by omega)]
    rw [List.range'_succ, List.all_cons]
    unfold labOK
    generalize List.all (List.range' (i + 1) d) _ = R
    cases hN : nameB (rd_T88 l i).f0 with
    | false => simp
    | true =>
      cases hV : valueB (rd_T88 l i).f1 with
      | false => simp
      | true =>
        by_cases h0 : i = 0
        · subst h0; simp
        · have hw2 : wrap64 ((i : Int) - 1) = ((i - 1 : Nat) : Int) := by rw [wrap_id (by omega) (by omega)]; omega
          have hb : (i == 0) = false := by simp [h0]
          rw [if_pos rfl, if_pos rfl, if_pos (by omega), hw2, if_pos (by omega), if_pos (by omega), hb]
          cases Op.bytesLess (rd_T88 l ((i - 1 : Nat) : Int)).f0.toList (rd_T88 l i).f0.toList <;> simp
theorem labels_is (l : List S88) (hl : l.length < 9223372036854775807) (k : Nat) (hk : l.length < k) : label_Right.f k l = some (labelsR l) := by
  unfold label_Right.f labelsR
  have := labels_from l hl l.length 0 k (by omega) hk
  rw [show ((0 : Nat) : Int) = 0 from rfl] at this
  rw [this, List.range_eq_range', Bool.and_assoc]
def rightE (s t : Int) (l : List S88) (x : ByteArray) : Bool := decide (1 ≤ s) && (decide (s < 1099511627776) && (decide (0 ≤ t) && (decide (t < 1099511627776) && (labelsR l && decide (x.size ≤ 1024)))))
theorem right_is (s t : Int) (l : List S88) (x : ByteArray) (hl : l.length < 9223372036854775807) (k : Nat) (hk : l.length < k) : record_Right.f k s t l x = some (rightE s t l x) := by
  unfold record_Right.f rightE
  rw [labels_is l hl k hk, Option.bind_some]
  by_cases h1 : 1 ≤ s
  · rw [if_pos h1, decide_eq_true h1, Bool.true_and]
    by_cases h2 : s < 1099511627776
    · rw [if_pos h2, decide_eq_true h2, Bool.true_and]
      by_cases h3 : 0 ≤ t
      · rw [if_pos h3, decide_eq_true h3, Bool.true_and]
        by_cases h4 : t < 1099511627776
        · rw [if_pos h4, decide_eq_true h4, Bool.true_and]
          cases labelsR l
          · simp
          · rw [if_pos rfl, Bool.true_and]
            congr 1
            rw [Bool.eq_iff_iff]; simp only [decide_eq_true_eq]; omega
        · rw [if_neg h4, decide_eq_false h4]; rfl
      · rw [if_neg h3, decide_eq_false h3]; rfl
    · rw [if_neg h2, decide_eq_false h2]; rfl
  · rw [if_neg h1, decide_eq_false h1]; rfl
end Go.Proofs.YtkbmmgpdnienfaaDoor.P
