/- Part 30 of the proof of chunkBack_card: its words, walks and plain laws, one text behind the other. -/
import Derived.Test.YtkbmmgpdnienfaaDoorK923
import Derived.Test.YtkbmmgpdnienfaaDoorK96
import Derived.Test.YtkbmmgpdnienfaaDoorK920
import Derived.Test.YtkbmmgpdnienfaaDoorK928
import Derived.Test.YtkbmmgpdnienfaaDoorK921
import Derived.Test.YtkbmmgpdnienfaaDoorK97
set_option linter.unusedVariables false
set_option linter.unusedSimpArgs false
namespace Go.Proofs.YtkbmmgpdnienfaaDoor.P
open Go.RowKit Go.Proofs.YtkbmmgpdnienfaaDoorW.PrintWords Go.Proofs.YtkbmmgpdnienfaaDoorW.PrintLast Go.Proofs.YtkbmmgpdnienfaaDoorW.PrintMore
attribute [local go_sem] Oper.semAt_some
def aloneOK (r : S48) : Bool := decide (1 ≤ r.f0) && (decide (r.f0 < 1099511627776) && (decide (0 ≤ r.f1) && (decide (r.f1 < 1099511627776) && decide (r.f2.size ≤ 1024))))
def row4OK (xs : List S48) (k : Nat) : Bool := (aloneOK (rd_T48 xs k) && !((seqs (xs.take k)).contains (rd_T48 xs k).f0)) && (k == 0 || !(beforeB (rd_T48 xs k).f0 (rd_T48 xs k).f1 (wasAt xs k).f0 (wasAt xs k).f1))
def rows4To (xs : List S48) (k : Nat) : Bool := (List.range k).all (row4OK xs)
def ref4R (lab : List S88) (xs : List S48) : Bool := (decide (1 ≤ xs.length) && (decide (xs.length ≤ 1000) && labelsR lab)) && rows4To xs xs.length
def ref4Fit (lab : List S88) (xs : List S75) : Prop := lab.length < 4398046511104 ∧ xs.length < 4398046511104 ∧ (∀ x ∈ lab, x.f0.size ≤ 140737488355328) ∧ ∀ r ∈ xs, W64 r.f0
instance (lab : List S88) (xs : List S75) : Decidable (ref4Fit lab xs) := inferInstanceAs (Decidable (_ ∧ _ ∧ _ ∧ _))
def icehouseref04_Right.f (l0_0 : List S88) (l0_1 : List S75) : Option Bool := if ref4Fit l0_0 l0_1 then some (ref4R l0_0 (l0_1.map own75)) else none
theorem rd75_get (xs : List S75) (i : Nat) (h : i < xs.length) : rd_T75 xs i = xs[i] := by
  show xs.getD ((i : Int).toNat) _ = _
  rw [Int.toNat_natCast, List.getD_eq_getElem?_getD, List.getElem?_eq_getElem h]; rfl
theorem rd75_own (xs : List S75) (i : Nat) (h : i < xs.length) : rd_T48 (xs.map own75) i = own75 (rd_T75 xs i) := by
  rw [rd48_get _ i (by rw [List.length_map]; exact h), rd75_get xs i h, List.getElem_map]
theorem rows4_succ (xs : List S48) (k : Nat) : rows4To xs (k + 1) = (rows4To xs k && row4OK xs k) := by simp [rows4To, List.range_succ]
theorem rows4_no {xs : List S48} {k : Nat} (hk : k < xs.length) (h : row4OK xs k = false) (lab : List S88) : ref4R lab xs = false := by
  have : rows4To xs xs.length = false := by
    unfold rows4To
    rw [List.all_eq_false]
    exact ⟨k, by simpa using hk, by simp [h]⟩
  simp [ref4R, this]
theorem right4_same (lab : List S88) (xs : List S48) : chunkR lab xs = ref4R lab xs := by
  by_cases hn : 1 ≤ xs.length
  · by_cases hl : labelsR lab = true
    · have hk : ∀ k, rowOK lab xs k = row4OK xs k := by
        intro k
        unfold rowOK row4OK rightE aloneOK
        rw [hl, Bool.true_and]
        generalize (seqs (xs.take k)).contains (rd_T48 xs k).f0 = M
        cases k with
        | zero =>
          have hw : wasAt xs 0 = z48 := rfl
          rw [hw]
          have hz0 : z48.f0 = 0 := rfl
          have hz1 : z48.f1 = 0 := rfl
          rw [hz0, hz1]
          generalize (rd_T48 xs (0 : Nat)).f0 = s
          generalize (rd_T48 xs (0 : Nat)).f1 = u
          by_cases h1 : 1 ≤ s
          · by_cases h2 : 0 ≤ u
            · have : beforeB s u 0 0 = false := by
                unfold beforeB
                rw [decide_eq_false (show ¬ u < 0 by omega), decide_eq_false (show ¬ s < 0 by omega), Bool.and_false]
                rfl
              rw [this]
              cases M <;> simp
            · rw [decide_eq_false h2]
              cases M <;> simp
          · rw [decide_eq_false h1]
            cases M <;> simp
        | succ k =>
          rw [show (k + 1 == 0) = false from rfl, Bool.false_or]
          generalize beforeB _ _ _ _ = B
          cases M <;> cases B <;> simp
      have hr : rowsTo lab xs xs.length = rows4To xs xs.length := by
        unfold rowsTo rows4To
        congr 1
        exact funext hk
      unfold chunkR ref4R
      rw [hr, hl, Bool.and_true, Bool.and_assoc, Bool.and_comm]
    · rw [Bool.not_eq_true] at hl
      have h0 : rowOK lab xs 0 = false := by
        unfold rowOK rightE
        rw [hl]
        simp
      rw [chunkR_no (k := 0) (by omega) h0]
      unfold ref4R
      rw [hl]
      simp
  · unfold chunkR ref4R
    rw [decide_eq_false hn]
    simp
def icehouseref04_Right.T10 : Bool × List (List Nat × List Nat) := (true, [([], []), ([0], [0]), ([1], [1]), ([2], [2]), ([3, 2], [2, 3]), ([2], [2]), ([5, 2], [2, 5]), ([2], [2]), ([7, 2], [2, 7]), ([6, 8, 2], [2, 6, 8]), ([9, 2], [2, 9]), ([10, 2], [2, 10]), ([4, 11, 2], [2, 4, 11]), ([12, 2, 2], [2, 12]), ([13], [13]), ([14, 13], [13, 14]), ([13], [13]), ([16, 13], [13, 16]), ([13], [13]), ([18, 13], [13, 18]), ([17, 19, 13], [13, 17, 19]), ([20, 13], [13, 20]), ([21, 13], [13, 21]), ([15, 22, 13], [13, 15, 22]), ([23, 13, 13], [13, 23]), ([24], [24]), ([25, 24], [24, 25]), ([24], [24]), ([27, 24], [24, 27]), ([24], [24]), ([29, 24], [24, 29]), ([28, 30, 24], [24, 28, 30]), ([31, 24], [24, 31]), ([32, 24], [24, 32]), ([26, 33, 24], [24, 26, 33]), ([24, 34, 13], [13, 24, 34]), ([13, 35, 2], [2, 13, 35]), ([2, 36], [2, 36])])
def icehouseref04_Right.B10 : List Nat := [0, 1, 3, 7, 15, 7, 39, 7, 135, 487, 999, 2023, 4095, 8191, 16383, 32767, 16383, 81919, 16383, 278527, 999423, 2047999, 4145151, 8388607, 16777215, 33554431, 67108863, 33554431, 167772159, 33554431, 570425343, 2046820351, 4194303999, 8489271295, 17179869183, 34359738367, 68719476735, 137438953471]
theorem icehouseref04_Right.tab10 : rtab .any (opsOf Tryd.f37 10) = icehouseref04_Right.T10 := by kernel_rfl
theorem icehouseref04_Right.bits10 : waitsOk icehouseref04_Right.T10.2 icehouseref04_Right.B10 = true := by kernel_rfl
set_option maxHeartbeats 4000000 in
set_option maxRecDepth 100000 in
theorem icehouseref04_Right.calls (A0_0 : Option Addr) (c0_0 : Nat) (l0_0 : List S88) (A0_1 : Option Addr) (c0_1 : Nat) (l0_1 : List S75) (r : Bool) (w : World) (hr0_0 : Kd.C k88 w A0_0 l0_0.length l0_0) (hc0_0 : l0_0.length ≤ c0_0) (hr0_1 : Kd.C k75 w A0_1 l0_1.length l0_1) (hc0_1 : l0_1.length ≤ c0_1) (h : icehouseref04_Right.f l0_0 l0_1 = some r) :
    Calls Tryd.prog 37 #[.agg #[.slice A0_0 l0_0.length c0_0, .slice A0_1 l0_1.length c0_1]] w fun e w' => e = .returned (.bool r) ∧ Below w.heap.size w w' := by
  have hfit : ref4Fit l0_0 l0_1 ∧ ref4R l0_0 (l0_1.map own75) = r := by
    unfold icehouseref04_Right.f at h
    by_cases hf : ref4Fit l0_0 l0_1
    · rw [if_pos hf] at h; exact ⟨hf, Option.some.inj h⟩
    · rw [if_neg hf] at h; cases h
  clear h
  have HF1 : Aside0 (l0_0.length < 4398046511104) := ⟨hfit.1.1⟩
  have HF2 : Aside0 (l0_1.length < 4398046511104) := ⟨hfit.1.2.1⟩
  have HF3 : Aside0 (∀ x ∈ l0_0, x.f0.size ≤ 140737488355328) := ⟨hfit.1.2.2.1⟩
  have HF4 : Aside0 (∀ r ∈ l0_1, W64 r.f0) := ⟨hfit.1.2.2.2⟩
  have HRES := Aside0.mk hfit.2
  have HR0 := Aside0.mk hr0_0
  have HR1 := Aside0.mk hr0_1
  have HC0 := Aside0.mk hc0_0
  have HC1 := Aside0.mk hc0_1
  clear hfit hr0_0 hc0_0 hr0_1 hc0_1
  have hu25 := Tryd.underlying25
  have hu75 := Tryd.underlying75
  have hmm := @run_makeMap Tryd.prog
  have HB := Aside0.mk (below_alloc (Below.refl w.heap.size w) (.cells #[.slice A0_0 l0_0.length c0_0, .slice A0_1 l0_1.length c0_1] 25))
  have HBX := Aside0.mk (heap_alloc_new w (.cells #[.slice A0_0 l0_0.length c0_0, .slice A0_1 l0_1.length c0_1] 25))
  by_cases q1 : (l0_1.length : Int) < 1
  · have hr : r = false := by
      rw [← HRES.out]; unfold ref4R
      rw [List.length_map, decide_eq_false (show ¬ 1 ≤ l0_1.length by omega)]; rfl
    subst hr
    have q1b : decide ((l0_1.length : Int) < 1) = true := decide_eq_true q1
    go_enter Tryd.func37, Tryd.ntmps37
    go_wp2
    go_ret
    exact ⟨rfl, HB.out⟩
  by_cases q2 : 1000 < (l0_1.length : Int)
  · have hr : r = false := by
      rw [← HRES.out]; unfold ref4R
      rw [List.length_map, decide_eq_false (show ¬ l0_1.length ≤ 1000 by omega), Bool.false_and, Bool.and_false]; rfl
    subst hr
    have q1b : decide ((l0_1.length : Int) < 1) = false := decide_eq_false q1
    have q2b : decide (1000 < (l0_1.length : Int)) = true := decide_eq_true q2
    go_enter Tryd.func37, Tryd.ntmps37
    go_wp2
    go_ret
    exact ⟨rfl, HB.out⟩
  have q1b : decide ((l0_1.length : Int) < 1) = false := decide_eq_false q1
  have q2b : decide (1000 < (l0_1.length : Int)) = false := decide_eq_false q2
  have HLEN : Aside0 (1 ≤ l0_1.length ∧ l0_1.length ≤ 1000) := ⟨by omega⟩
  clear q1 q2
  obtain ⟨lr, hlr⟩ : ∃ b, labelsR l0_0 = b := ⟨_, rfl⟩
  have hA : icehouseref02_Right.f (l0_0.length + 140737488355328 + 153) l0_0 = some lr := by
    rw [labels2_is l0_0 (by have := HF1.out; omega) 140737488355328 HF3.out (by omega) _ (by omega), hlr]
  have HA := Aside0.mk hA
  have HLR := Aside0.mk hlr
  clear hA hlr
  generalize l0_0.length + 140737488355328 + 153 = KK at HA
  cases lr with
  | false =>
    have hr : r = false := by
      rw [← HRES.out]; unfold ref4R
      rw [HLR.out, Bool.and_false, Bool.and_false]; rfl
    subst hr
    go_enter Tryd.func37, Tryd.ntmps37
    go_wp2_with (go_at_call 80; refine (icehouseref02_Right.calls KK A0_0 c0_0 l0_0 false _ (Kd.C_below HR0.out HB.out) HC0.out HA.out).mono ?_; rintro e w2 ⟨rfl, hb⟩; have n0_ := Aside0.mk (below_step HB.out hb); clear HB; have HB := n0_; clear n0_ hb)
    go_ret
    exact ⟨rfl, HB.out⟩
  | true =>
    go_enter Tryd.func37, Tryd.ntmps37
    go_wp2_with (go_at_call 80; refine (icehouseref02_Right.calls KK A0_0 c0_0 l0_0 true _ (Kd.C_below HR0.out HB.out) HC0.out HA.out).mono ?_; rintro e w2 ⟨rfl, hb⟩; have n0_ := Aside0.mk (below_step HB.out hb); have n1_ := Aside0.mk (blk_below HBX.out hb); clear HB HBX; have HB := n0_; have HBX := n1_; clear n0_ n1_ hb)
    go_loopg [4] l0_1.length (fun kq v4 w' => ∃ j : Nat, kq + j = l0_1.length ∧ v4 = .int .i64 (j : Int) ∧ Aside0 (w'.heap[w.heap.size]? = some (.cells #[.slice A0_0 l0_0.length c0_0, .slice A0_1 l0_1.length c0_1] 25 (0, 0))) ∧ Aside0 (IsSet w' w2.heap.size (seqs ((l0_1.map own75).take j))) ∧ Aside0 (rows4To (l0_1.map own75) j = true) ∧ Aside0 (Below w.heap.size w w'))
    case atStart =>
      refine ⟨0, rfl, rfl, ⟨?_⟩, ⟨?_⟩, ⟨rfl⟩, ⟨?_⟩⟩
      · exact blk_alloc HBX.out _
      · exact IsSet.made w2
      · exact below_alloc HB.out _
    case round =>
      have HGM : Aside0 (w.heap.size < w2.heap.size) := ⟨(Array.getElem?_eq_some_iff.1 HBX.out).1⟩
      clear HB HBX
      obtain ⟨j, hj, rfl, HBX, HSET, HOK, HB⟩ := hrel
      have hx1 : wr.cell? ⟨w.heap.size, 1, none⟩ = some (.slice A0_1 l0_1.length c0_1) := (blk_cell HBX.out 1).trans rfl
      by_cases hlt : j < l0_1.length
      · obtain ⟨k1, rfl⟩ : ∃ k1, gk = k1 + 1 := ⟨gk - 1, by omega⟩
        have hq : (j : Int) < (l0_1.length : Int) := by omega
        have hp : (0 : Int) ≤ (j : Int) := by omega
        have hw1 : wrap64 ((j : Int) + 1) = ((j + 1 : Nat) : Int) := by have := HF2.out; unfold wrap64; omega
        obtain ⟨ad, e', b0, b1, b2⟩ := at_T75 (Kd.C_below HR1.out HB.out) j (by omega) (by omega)
        subst e'
        simp only [Int.toNat_natCast] at b0 b1 b2
        have HXW : Aside0 (W64 (rd_T75 l0_1 j).f0) := ⟨HF4.out _ (by rw [rd75_get _ _ hlt]; exact List.getElem_mem hlt)⟩
        have HROW : Aside0 (rd_T48 (l0_1.map own75) j = ⟨(rd_T75 l0_1 j).f0, (rd_T75 l0_1 j).f1, (rd_T75 l0_1 j).f2⟩) := ⟨rd75_own l0_1 j hlt⟩
        obtain ⟨rw, hrw⟩ : ∃ x, rd_T75 l0_1 j = x := ⟨_, rfl⟩
        rw [hrw] at b0 b1 b2 HXW HROW
        have HRW := Aside0.mk hrw
        clear hrw
        have HB1 : Aside0 (Below w.heap.size w (wr.alloc (.cells #[.int .i64 rw.f0, .int .i64 rw.f1, .string rw.f2] 75))) := ⟨below_alloc HB.out _⟩
        have HBX1 : Aside0 ((wr.alloc (.cells #[.int .i64 rw.f0, .int .i64 rw.f1, .string rw.f2] 75)).heap[w.heap.size]? = _) := ⟨blk_alloc HBX.out _⟩
        have HG5 := Aside0.mk (heap_alloc_new wr (.cells #[.int .i64 rw.f0, .int .i64 rw.f1, .string rw.f2] 75))
        have HS1 : Aside0 (IsSet (wr.alloc (.cells #[.int .i64 rw.f0, .int .i64 rw.f1, .string rw.f2] 75)) w2.heap.size (seqs ((l0_1.map own75).take j))) := ⟨HSET.out.grown (World.grownBy_alloc _ _ none) (by simp)⟩
        obtain ⟨met, hmet⟩ : ∃ b, (seqs ((l0_1.map own75).take j)).contains rw.f0 = b := ⟨_, rfl⟩
        have hlk := HS1.out.lookup rw.f0 HXW.out
        rw [hmet] at hlk
        have HMET := Aside0.mk hmet
        clear hmet
        have HALL : Aside0 (∀ b1 b2 b3 b4 b5, decide (1 ≤ rw.f0) = b1 → decide (rw.f0 < 1099511627776) = b2 → decide (0 ≤ rw.f1) = b3 → decide (rw.f1 < 1099511627776) = b4 → decide (rw.f2.size ≤ 1024) = b5 → row4OK (l0_1.map own75) j = (((b1 && (b2 && (b3 && (b4 && b5)))) && !met) && (j == 0 || !(beforeB rw.f0 rw.f1 (wasAt (l0_1.map own75) j).f0 (wasAt (l0_1.map own75) j).f1)))) :=
          ⟨fun b1 b2 b3 b4 b5 e1 e2 e3 e4 e5 => by unfold row4OK aloneOK; rw [HROW.out]; show (((_ && (_ && (_ && (_ && _)))) && !((seqs ((l0_1.map own75).take j)).contains rw.f0)) && _) = _; rw [e1, e2, e3, e4, e5, HMET.out]⟩
        have hno : Aside0 (row4OK (l0_1.map own75) j = false → r = false) := ⟨fun h => by rw [← HRES.out]; exact rows4_no (by rw [List.length_map]; exact hlt) h _⟩
        by_cases g1 : 1 ≤ rw.f0
        case neg =>
          obtain rfl := hno.out (by rw [HALL.out _ _ _ _ _ (decide_eq_false g1) rfl rfl rfl rfl]; simp)
          have f1 : decide (rw.f0 < 1) = true := decide_eq_true (by omega)
          clear g1
          go_wp2
          go_ret
          exact ⟨rfl, HB1.out⟩
        by_cases g2 : rw.f0 < 1099511627776
        case neg =>
          obtain rfl := hno.out (by rw [HALL.out _ _ _ _ _ (decide_eq_true g1) (decide_eq_false g2) rfl rfl rfl]; simp)
          have f1 : decide (rw.f0 < 1) = false := decide_eq_false (by omega)
          have f2 : decide (1099511627776 ≤ rw.f0) = true := decide_eq_true (by omega)
          clear g1 g2
          go_wp2
          go_ret
          exact ⟨rfl, HB1.out⟩
        by_cases g3 : 0 ≤ rw.f1
        case neg =>
          obtain rfl := hno.out (by rw [HALL.out _ _ _ _ _ (decide_eq_true g1) (decide_eq_true g2) (decide_eq_false g3) rfl rfl]; simp)
          have f1 : decide (rw.f0 < 1) = false := decide_eq_false (by omega)
          have f2 : decide (1099511627776 ≤ rw.f0) = false := decide_eq_false (by omega)
          have f3 : decide (rw.f1 < 0) = true := decide_eq_true (by omega)
          clear g1 g2 g3
          go_wp2
          go_ret
          exact ⟨rfl, HB1.out⟩
        by_cases g4 : rw.f1 < 1099511627776
        case neg =>
          obtain rfl := hno.out (by rw [HALL.out _ _ _ _ _ (decide_eq_true g1) (decide_eq_true g2) (decide_eq_true g3) (decide_eq_false g4) rfl]; simp)
          have f1 : decide (rw.f0 < 1) = false := decide_eq_false (by omega)
          have f2 : decide (1099511627776 ≤ rw.f0) = false := decide_eq_false (by omega)
          have f3 : decide (rw.f1 < 0) = false := decide_eq_false (by omega)
          have f4 : decide (1099511627776 ≤ rw.f1) = true := decide_eq_true (by omega)
          clear g1 g2 g3 g4
          go_wp2
          go_ret
          exact ⟨rfl, HB1.out⟩
        by_cases g5 : rw.f2.size ≤ 1024
        case neg =>
          obtain rfl := hno.out (by rw [HALL.out _ _ _ _ _ (decide_eq_true g1) (decide_eq_true g2) (decide_eq_true g3) (decide_eq_true g4) (decide_eq_false g5)]; simp)
          have f1 : decide (rw.f0 < 1) = false := decide_eq_false (by omega)
          have f2 : decide (1099511627776 ≤ rw.f0) = false := decide_eq_false (by omega)
          have f3 : decide (rw.f1 < 0) = false := decide_eq_false (by omega)
          have f4 : decide (1099511627776 ≤ rw.f1) = false := decide_eq_false (by omega)
          have f5 : decide (1024 < (rw.f2.size : Int)) = true := decide_eq_true (by omega)
          clear g1 g2 g3 g4 g5
          go_wp2
          go_ret
          exact ⟨rfl, HB1.out⟩
        have f1 : decide (rw.f0 < 1) = false := decide_eq_false (by omega)
        have f2 : decide (1099511627776 ≤ rw.f0) = false := decide_eq_false (by omega)
        have f3 : decide (rw.f1 < 0) = false := decide_eq_false (by omega)
        have f4 : decide (1099511627776 ≤ rw.f1) = false := decide_eq_false (by omega)
        have f5 : decide (1024 < (rw.f2.size : Int)) = false := decide_eq_false (by omega)
        have HA5 : Aside0 (row4OK (l0_1.map own75) j = (!met && (j == 0 || !(beforeB rw.f0 rw.f1 (wasAt (l0_1.map own75) j).f0 (wasAt (l0_1.map own75) j).f1)))) := ⟨by rw [HALL.out _ _ _ _ _ (decide_eq_true g1) (decide_eq_true g2) (decide_eq_true g3) (decide_eq_true g4) (decide_eq_true g5)]; simp⟩
        clear g1 g2 g3 g4 g5 HALL
        cases met with
        | true =>
          obtain rfl := hno.out (by rw [HA5.out]; rfl)
          go_wp2
          go_ret
          exact ⟨rfl, HB1.out⟩
        | false =>
          go_wp2
          by_cases hj0 : j = 0
          · have HOKJ : Aside0 (row4OK (l0_1.map own75) j = true) := ⟨by rw [HA5.out, hj0]; rfl⟩
            have hpos : decide (0 < (j : Int)) = false := decide_eq_false (by omega)
            have hposN : decide (0 < j) = false := decide_eq_false (by omega)
            clear hj0
            refine start_ (n := 38) (S := fun _ => True) (ds := []) #[false, false, false, false, false, false, false, false, false, false, false, false, false, false, false, false, false, false, false, false, false, false, false, false, false, false, false, false, false, false, false, false, false, false, false, false, false, false] (by kernel_rfl) rfl rfl trivial (fun hHeld => ?_); refine with_tabW icehouseref04_Right.tab10 icehouseref04_Right.bits10 (fun HT_ HW_ => ?_)
            have n0_ := Aside0.mk (below_drew1 HB1.out)
            have n1_ := Aside0.mk (blk_drew HG5.out)
            have n2_ : Aside0 (IsSet (wr.alloc (.cells #[.int .i64 rw.f0, .int .i64 rw.f1, .string rw.f2] 75)).drew w2.heap.size (seqs ((l0_1.map own75).take j))) := ⟨HS1.out.same rfl⟩
            have n3_ := Aside0.mk (blk_drew HBX1.out)
            clear HB1 HG5 HS1 HBX1 hlk
            generalize (wr.alloc (.cells #[.int .i64 rw.f0, .int .i64 rw.f1, .string rw.f2] 75)).drew = w7 at n0_ n1_ n2_ n3_ hHeld ⊢
            have HB7 := n0_
            have HG7 := n1_
            have HS7 := n2_
            have HBX7 := n3_
            clear n0_ n1_ n2_ n3_
            refine pu_ 0 (some 65) (bs 38 1) ?_
            refine pu_ 1 (some 66) (bs 38 3) ?_
            refine pu_ 2 (some 67) (bs 38 7) ?_
            refine sk_ 3 (some 68) (bs 38 15) ?_
            refine sk_ 4 (some 69) (bs 38 31) ?_
            refine sk_ 5 (some 70) (bs 38 63) ?_
            refine sk_ 6 (some 71) (bs 38 127) ?_
            refine sk_ 7 (some 72) (bs 38 255) ?_
            refine sk_ 8 (some 73) (bs 38 511) ?_
            refine sk_ 9 (some 74) (bs 38 1023) ?_
            refine sk_ 10 (some 75) (bs 38 2047) ?_
            refine sk_ 11 (some 76) (bs 38 4095) ?_
            refine sk_ 12 (some 77) (bs 38 8191) ?_
            refine sk_ 13 (some 78) (bs 38 16383) ?_
            refine sk_ 14 (some 79) (bs 38 32767) ?_
            refine sk_ 15 (some 80) (bs 38 65535) ?_
            refine sk_ 16 (some 81) (bs 38 131071) ?_
            refine sk_ 17 (some 82) (bs 38 262143) ?_
            refine sk_ 18 (some 83) (bs 38 524287) ?_
            refine sk_ 19 (some 84) (bs 38 1048575) ?_
            refine sk_ 20 (some 85) (bs 38 2097151) ?_
            refine sk_ 21 (some 86) (bs 38 4194303) ?_
            refine sk_ 22 (some 87) (bs 38 8388607) ?_
            refine sk_ 23 (some 88) (bs 38 16777215) ?_
            refine sk_ 24 (some 89) (bs 38 33554431) ?_
            refine sk_ 25 (some 90) (bs 38 67108863) ?_
            refine sk_ 26 (some 91) (bs 38 134217727) ?_
            refine sk_ 27 (some 92) (bs 38 268435455) ?_
            refine sk_ 28 (some 93) (bs 38 536870911) ?_
            refine sk_ 29 (some 94) (bs 38 1073741823) ?_
            refine sk_ 30 (some 95) (bs 38 2147483647) ?_
            refine sk_ 31 (some 96) (bs 38 4294967295) ?_
            refine sk_ 32 (some 97) (bs 38 8589934591) ?_
            refine sk_ 33 (some 98) (bs 38 17179869183) ?_
            refine sk_ 34 (some 99) (bs 38 34359738367) ?_
            refine sk_ 35 (some 100) (bs 38 68719476735) ?_
            refine sk_ 36 (some 101) (bs 38 137438953471) ?_
            refine pu_ 37 (some 102) (bs 38 274877906943) ?_
            refine done_ (done_of HT_.out (by kernel_rfl)) ?_
            clear hHeld hpos hposN
            have hg50 : w7.cell? ⟨wr.heap.size, 0, none⟩ = some (.int .i64 rw.f0) := (blk_cell HG7.out 0).trans rfl
            obtain ⟨w8, hup, hset, hg8⟩ := HS7.out.update rw.f0 HXW.out (by unfold seqs; rw [List.length_map, List.length_take]; have := HLEN.out.2; omega)
            have HS8 := Aside0.mk hset
            have HG8 := Aside0.mk hg8
            clear hset hg8
            go_wp2
            go_roundg k1
            case measure => omega
            case rel =>
              refine ⟨j + 1, by omega, by first | rfl | (simp [*]; done), ⟨?_⟩, ⟨?_⟩, ⟨?_⟩, ⟨?_⟩⟩
              · exact blk_grown HBX7.out HG8.out (by simp only [ne_eq, Option.some.injEq]; have := HGM.out; omega)
              · rw [take_snoc48 _ _ (by rw [List.length_map]; exact hlt), HROW.out]; exact HS8.out
              · rw [rows4_succ, HOK.out, HOKJ.out]; rfl
              · exact HB7.out.grown HG8.out HB7.out.size (fun r e => by cases e; have := HGM.out; omega)
          · obtain ⟨pj, hpj⟩ : ∃ m, j = m + 1 := ⟨j - 1, by omega⟩
            have hpl : pj < l0_1.length := by omega
            obtain ⟨ad2, e2, p0, p1, p2⟩ := at_T75 (Kd.C_below HR1.out HB1.out) pj (by omega) (by omega)
            cases e2
            simp only [Int.toNat_natCast] at p0 p1
            have HPV : Aside0 (wasAt (l0_1.map own75) j = ⟨(rd_T75 l0_1 pj).f0, (rd_T75 l0_1 pj).f1, (rd_T75 l0_1 pj).f2⟩) := ⟨by rw [hpj]; exact rd75_own l0_1 pj hpl⟩
            obtain ⟨pv, hpv⟩ : ∃ x, rd_T75 l0_1 pj = x := ⟨_, rfl⟩
            rw [hpv] at p0 p1 HPV
            clear hpv p2
            have hjz : (j == 0) = false := by simp [hj0]
            have HA6 : Aside0 (row4OK (l0_1.map own75) j = !(beforeB rw.f0 rw.f1 pv.f0 pv.f1)) := ⟨by rw [HA5.out, HPV.out, hjz]; rfl⟩
            have hpos : decide (0 < (j : Int)) = true := decide_eq_true (by omega)
            have hposN : decide (0 < j) = true := decide_eq_true (by omega)
            have hsub : wrap64 ((j : Int) - 1) = (pj : Int) := by have := HF2.out; unfold wrap64; omega
            have hl1 := eq_true (show (pj : Int) < (l0_1.length : Int) by omega)
            have hl2 := eq_true (show (0 : Int) ≤ (pj : Int) by omega)
            have hl3 := eq_true hpl
            clear hj0 hjz hpl HPV HA5
            have HPJ := Aside0.mk hpj
            clear hpj
            refine start_ (n := 38) (S := fun w' => w'.cell? ⟨w.heap.size, 1, none⟩ = some (.slice (some ad) l0_1.length c0_1) ∧ w'.cell? ⟨wr.heap.size, 0, none⟩ = some (.int .i64 rw.f0) ∧ w'.cell? ⟨wr.heap.size, 1, none⟩ = some (.int .i64 rw.f1) ∧ w'.cell? (ad.add (pj * 3)) = some (.int .i64 pv.f0) ∧ w'.cell? ⟨(ad.add (pj * 3)).block, (ad.add (pj * 3)).off + 1, none⟩ = some (.int .i64 pv.f1)) (ds := []) #[false, false, false, false, false, false, false, false, false, false, false, false, false, false, false, false, false, false, false, false, false, false, false, false, false, false, false, false, false, false, false, false, false, false, false, false, false, false] (by kernel_rfl) rfl rfl ⟨(blk_cell (blk_drew HBX1.out) 1).trans rfl, (blk_cell (blk_drew HG5.out) 0).trans rfl, (blk_cell (blk_drew HG5.out) 1).trans rfl, p0, p1⟩ (fun hHeld => ?_); refine with_tabW icehouseref04_Right.tab10 icehouseref04_Right.bits10 (fun HT_ HW_ => ?_)
            clear p0 p1
            have n0_ := Aside0.mk (below_drew1 HB1.out)
            have n1_ := Aside0.mk (blk_drew HG5.out)
            have n2_ : Aside0 (IsSet (wr.alloc (.cells #[.int .i64 rw.f0, .int .i64 rw.f1, .string rw.f2] 75)).drew w2.heap.size (seqs ((l0_1.map own75).take j))) := ⟨HS1.out.same rfl⟩
            have n3_ := Aside0.mk (blk_drew HBX1.out)
            clear HB1 HG5 HS1 HBX1 hlk
            generalize (wr.alloc (.cells #[.int .i64 rw.f0, .int .i64 rw.f1, .string rw.f2] 75)).drew = w7 at n0_ n1_ n2_ n3_ hHeld ⊢
            have HB7 := n0_
            have HG7 := n1_
            have HS7 := n2_
            have HBX7 := n3_
            clear n0_ n1_ n2_ n3_
            by_cases t1 : rw.f1 < pv.f1
            · have t1b : decide (rw.f1 < pv.f1) = true := decide_eq_true t1
              have HOKJ : Aside0 (row4OK (l0_1.map own75) j = false) := ⟨by rw [HA6.out, beforeB, t1b]; rfl⟩
              clear t1
              refine pu_ 0 (some 65) (bs 38 1) ?_
              refine pu_ 1 (some 66) (bs 38 3) ?_
              refine pu_ 2 (some 67) (bs 38 7) ?_
              refine pu_ 3 (some 68) (bs 38 15) ?_
              refine tk_ 4 (some 69) (bs 38 31) ?_
              refine pu_ 5 (some 70) (bs 38 63) ?_
              refine tk_ 6 (some 71) (bs 38 127) ?_
              refine pu_ 7 (some 72) (bs 38 255) ?_
              refine pu_ 8 (some 73) (bs 38 511) ?_
              refine pu_ 9 (some 74) (bs 38 1023) ?_
              refine pu_ 10 (some 75) (bs 38 2047) ?_
              refine tk_ 11 (some 76) (bs 38 4095) ?_
              refine pu_ 12 (some 77) (bs 38 8191) ?_
              refine pu_ 13 (some 78) (bs 38 16383) ?_
              refine sk_ 14 (some 79) (bs 38 32767) ?_
              refine sk_ 15 (some 80) (bs 38 65535) ?_
              refine sk_ 16 (some 81) (bs 38 131071) ?_
              refine sk_ 17 (some 82) (bs 38 262143) ?_
              refine sk_ 18 (some 83) (bs 38 524287) ?_
              refine sk_ 19 (some 84) (bs 38 1048575) ?_
              refine sk_ 20 (some 85) (bs 38 2097151) ?_
              refine sk_ 21 (some 86) (bs 38 4194303) ?_
              refine sk_ 22 (some 87) (bs 38 8388607) ?_
              refine sk_ 23 (some 88) (bs 38 16777215) ?_
              refine sk_ 24 (some 89) (bs 38 33554431) ?_
              refine sk_ 25 (some 90) (bs 38 67108863) ?_
              refine sk_ 26 (some 91) (bs 38 134217727) ?_
              refine sk_ 27 (some 92) (bs 38 268435455) ?_
              refine sk_ 28 (some 93) (bs 38 536870911) ?_
              refine sk_ 29 (some 94) (bs 38 1073741823) ?_
              refine sk_ 30 (some 95) (bs 38 2147483647) ?_
              refine sk_ 31 (some 96) (bs 38 4294967295) ?_
              refine sk_ 32 (some 97) (bs 38 8589934591) ?_
              refine sk_ 33 (some 98) (bs 38 17179869183) ?_
              refine sk_ 34 (some 99) (bs 38 34359738367) ?_
              refine sk_ 35 (some 100) (bs 38 68719476735) ?_
              refine pu_ 36 (some 101) (bs 38 137438953471) ?_
              refine pu_ 37 (some 102) (bs 38 274877906943) ?_
              refine done_ (done_of HT_.out (by kernel_rfl)) ?_
              clear hHeld
              obtain rfl := hno.out HOKJ.out
              go_wp2
              go_ret
              exact ⟨rfl, HB7.out⟩
            · have t1b : decide (rw.f1 < pv.f1) = false := decide_eq_false t1
              clear t1
              by_cases t2 : rw.f1 = pv.f1
              · have t2b : decide (rw.f1 = pv.f1) = true := decide_eq_true t2
                have t2c : (rw.f1 == pv.f1) = true := beq_iff_eq.mpr t2
                by_cases t3 : rw.f0 < pv.f0
                · have t3b : decide (rw.f0 < pv.f0) = true := decide_eq_true t3
                  have HOKJ : Aside0 (row4OK (l0_1.map own75) j = false) := ⟨by rw [HA6.out, beforeB, t1b, t2b, t3b]; rfl⟩
                  clear t2 t3
                  refine pu_ 0 (some 65) (bs 38 1) ?_
                  refine pu_ 1 (some 66) (bs 38 3) ?_
                  refine pu_ 2 (some 67) (bs 38 7) ?_
                  refine pu_ 3 (some 68) (bs 38 15) ?_
                  refine tk_ 4 (some 69) (bs 38 31) ?_
                  refine pu_ 5 (some 70) (bs 38 63) ?_
                  refine tk_ 6 (some 71) (bs 38 127) ?_
                  refine pu_ 7 (some 72) (bs 38 255) ?_
                  refine pu_ 8 (some 73) (bs 38 511) ?_
                  refine pu_ 9 (some 74) (bs 38 1023) ?_
                  refine pu_ 10 (some 75) (bs 38 2047) ?_
                  refine tk_ 11 (some 76) (bs 38 4095) ?_
                  refine pu_ 12 (some 77) (bs 38 8191) ?_
                  refine pu_ 13 (some 78) (bs 38 16383) ?_
                  refine pu_ 14 (some 79) (bs 38 32767) ?_
                  refine tk_ 15 (some 80) (bs 38 65535) ?_
                  refine pu_ 16 (some 81) (bs 38 131071) ?_
                  refine tk_ 17 (some 82) (bs 38 262143) ?_
                  refine pu_ 18 (some 83) (bs 38 524287) ?_
                  refine pu_ 19 (some 84) (bs 38 1048575) ?_
                  refine pu_ 20 (some 85) (bs 38 2097151) ?_
                  refine pu_ 21 (some 86) (bs 38 4194303) ?_
                  refine tk_ 22 (some 87) (bs 38 8388607) ?_
                  refine pu_ 23 (some 88) (bs 38 16777215) ?_
                  refine pu_ 24 (some 89) (bs 38 33554431) ?_
                  refine pu_ 25 (some 90) (bs 38 67108863) ?_
                  refine tk_ 26 (some 91) (bs 38 134217727) ?_
                  refine pu_ 27 (some 92) (bs 38 268435455) ?_
                  refine tk_ 28 (some 93) (bs 38 536870911) ?_
                  refine pu_ 29 (some 94) (bs 38 1073741823) ?_
                  refine pu_ 30 (some 95) (bs 38 2147483647) ?_
                  refine pu_ 31 (some 96) (bs 38 4294967295) ?_
                  refine pu_ 32 (some 97) (bs 38 8589934591) ?_
                  refine tk_ 33 (some 98) (bs 38 17179869183) ?_
                  refine pu_ 34 (some 99) (bs 38 34359738367) ?_
                  refine pu_ 35 (some 100) (bs 38 68719476735) ?_
                  refine pu_ 36 (some 101) (bs 38 137438953471) ?_
                  refine pu_ 37 (some 102) (bs 38 274877906943) ?_
                  refine done_ (done_of HT_.out (by kernel_rfl)) ?_
                  clear hHeld
                  obtain rfl := hno.out HOKJ.out
                  go_wp2
                  go_ret
                  exact ⟨rfl, HB7.out⟩
                · have t3b : decide (rw.f0 < pv.f0) = false := decide_eq_false t3
                  have HOKJ : Aside0 (row4OK (l0_1.map own75) j = true) := ⟨by rw [HA6.out, beforeB, t1b, t2b, t3b]; rfl⟩
                  clear t2 t3
                  refine pu_ 0 (some 65) (bs 38 1) ?_
                  refine pu_ 1 (some 66) (bs 38 3) ?_
                  refine pu_ 2 (some 67) (bs 38 7) ?_
                  refine pu_ 3 (some 68) (bs 38 15) ?_
                  refine tk_ 4 (some 69) (bs 38 31) ?_
                  refine pu_ 5 (some 70) (bs 38 63) ?_
                  refine tk_ 6 (some 71) (bs 38 127) ?_
                  refine pu_ 7 (some 72) (bs 38 255) ?_
                  refine pu_ 8 (some 73) (bs 38 511) ?_
                  refine pu_ 9 (some 74) (bs 38 1023) ?_
                  refine pu_ 10 (some 75) (bs 38 2047) ?_
                  refine tk_ 11 (some 76) (bs 38 4095) ?_
                  refine pu_ 12 (some 77) (bs 38 8191) ?_
                  refine pu_ 13 (some 78) (bs 38 16383) ?_
                  refine pu_ 14 (some 79) (bs 38 32767) ?_
                  refine tk_ 15 (some 80) (bs 38 65535) ?_
                  refine pu_ 16 (some 81) (bs 38 131071) ?_
                  refine tk_ 17 (some 82) (bs 38 262143) ?_
                  refine pu_ 18 (some 83) (bs 38 524287) ?_
                  refine pu_ 19 (some 84) (bs 38 1048575) ?_
                  refine pu_ 20 (some 85) (bs 38 2097151) ?_
                  refine pu_ 21 (some 86) (bs 38 4194303) ?_
                  refine tk_ 22 (some 87) (bs 38 8388607) ?_
                  refine pu_ 23 (some 88) (bs 38 16777215) ?_
                  refine pu_ 24 (some 89) (bs 38 33554431) ?_
                  refine pu_ 25 (some 90) (bs 38 67108863) ?_
                  refine tk_ 26 (some 91) (bs 38 134217727) ?_
                  refine pu_ 27 (some 92) (bs 38 268435455) ?_
                  refine tk_ 28 (some 93) (bs 38 536870911) ?_
                  refine pu_ 29 (some 94) (bs 38 1073741823) ?_
                  refine pu_ 30 (some 95) (bs 38 2147483647) ?_
                  refine pu_ 31 (some 96) (bs 38 4294967295) ?_
                  refine pu_ 32 (some 97) (bs 38 8589934591) ?_
                  refine tk_ 33 (some 98) (bs 38 17179869183) ?_
                  refine pu_ 34 (some 99) (bs 38 34359738367) ?_
                  refine pu_ 35 (some 100) (bs 38 68719476735) ?_
                  refine pu_ 36 (some 101) (bs 38 137438953471) ?_
                  refine pu_ 37 (some 102) (bs 38 274877906943) ?_
                  refine done_ (done_of HT_.out (by kernel_rfl)) ?_
                  clear hHeld t1b t2b t2c t3b hl1 hl2 hl3 hsub hpos hposN
                  have hg50 : w7.cell? ⟨wr.heap.size, 0, none⟩ = some (.int .i64 rw.f0) := (blk_cell HG7.out 0).trans rfl
                  obtain ⟨w8, hup, hset, hg8⟩ := HS7.out.update rw.f0 HXW.out (by unfold seqs; rw [List.length_map, List.length_take]; have := HLEN.out.2; omega)
                  have HS8 := Aside0.mk hset
                  have HG8 := Aside0.mk hg8
                  clear hset hg8
                  go_wp2
                  go_roundg k1
                  case measure => omega
                  case rel =>
                    refine ⟨j + 1, by omega, by first | rfl | (simp [*]; done), ⟨?_⟩, ⟨?_⟩, ⟨?_⟩, ⟨?_⟩⟩
                    · exact blk_grown HBX7.out HG8.out (by simp only [ne_eq, Option.some.injEq]; have := HGM.out; omega)
                    · rw [take_snoc48 _ _ (by rw [List.length_map]; exact hlt), HROW.out]; exact HS8.out
                    · rw [rows4_succ, HOK.out, HOKJ.out]; rfl
                    · exact HB7.out.grown HG8.out HB7.out.size (fun r e => by cases e; have := HGM.out; omega)
              · have t2b : decide (rw.f1 = pv.f1) = false := decide_eq_false t2
                have t2c : (rw.f1 == pv.f1) = false := by simp [t2]
                have HOKJ : Aside0 (row4OK (l0_1.map own75) j = true) := ⟨by rw [HA6.out, beforeB, t1b, t2b]; rfl⟩
                clear t2
                refine pu_ 0 (some 65) (bs 38 1) ?_
                refine pu_ 1 (some 66) (bs 38 3) ?_
                refine pu_ 2 (some 67) (bs 38 7) ?_
                refine pu_ 3 (some 68) (bs 38 15) ?_
                refine tk_ 4 (some 69) (bs 38 31) ?_
                refine pu_ 5 (some 70) (bs 38 63) ?_
                refine tk_ 6 (some 71) (bs 38 127) ?_
                refine pu_ 7 (some 72) (bs 38 255) ?_
                refine pu_ 8 (some 73) (bs 38 511) ?_
                refine pu_ 9 (some 74) (bs 38 1023) ?_
                refine pu_ 10 (some 75) (bs 38 2047) ?_
                refine tk_ 11 (some 76) (bs 38 4095) ?_
                refine pu_ 12 (some 77) (bs 38 8191) ?_
                refine pu_ 13 (some 78) (bs 38 16383) ?_
                refine pu_ 14 (some 79) (bs 38 32767) ?_
                refine tk_ 15 (some 80) (bs 38 65535) ?_
                refine pu_ 16 (some 81) (bs 38 131071) ?_
                refine tk_ 17 (some 82) (bs 38 262143) ?_
                refine pu_ 18 (some 83) (bs 38 524287) ?_
                refine pu_ 19 (some 84) (bs 38 1048575) ?_
                refine pu_ 20 (some 85) (bs 38 2097151) ?_
                refine pu_ 21 (some 86) (bs 38 4194303) ?_
                refine tk_ 22 (some 87) (bs 38 8388607) ?_
                refine pu_ 23 (some 88) (bs 38 16777215) ?_
                refine pu_ 24 (some 89) (bs 38 33554431) ?_
                refine sk_ 25 (some 90) (bs 38 67108863) ?_
                refine sk_ 26 (some 91) (bs 38 134217727) ?_
                refine sk_ 27 (some 92) (bs 38 268435455) ?_
                refine sk_ 28 (some 93) (bs 38 536870911) ?_
                refine sk_ 29 (some 94) (bs 38 1073741823) ?_
                refine sk_ 30 (some 95) (bs 38 2147483647) ?_
                refine sk_ 31 (some 96) (bs 38 4294967295) ?_
                refine sk_ 32 (some 97) (bs 38 8589934591) ?_
                refine sk_ 33 (some 98) (bs 38 17179869183) ?_
                refine sk_ 34 (some 99) (bs 38 34359738367) ?_
                refine pu_ 35 (some 100) (bs 38 68719476735) ?_
                refine pu_ 36 (some 101) (bs 38 137438953471) ?_
                refine pu_ 37 (some 102) (bs 38 274877906943) ?_
                refine done_ (done_of HT_.out (by kernel_rfl)) ?_
                clear hHeld t1b t2b t2c hl1 hl2 hl3 hsub hpos hposN
                have hg50 : w7.cell? ⟨wr.heap.size, 0, none⟩ = some (.int .i64 rw.f0) := (blk_cell HG7.out 0).trans rfl
                obtain ⟨w8, hup, hset, hg8⟩ := HS7.out.update rw.f0 HXW.out (by unfold seqs; rw [List.length_map, List.length_take]; have := HLEN.out.2; omega)
                have HS8 := Aside0.mk hset
                have HG8 := Aside0.mk hg8
                clear hset hg8
                go_wp2
                go_roundg k1
                case measure => omega
                case rel =>
                  refine ⟨j + 1, by omega, by first | rfl | (simp [*]; done), ⟨?_⟩, ⟨?_⟩, ⟨?_⟩, ⟨?_⟩⟩
                  · exact blk_grown HBX7.out HG8.out (by simp only [ne_eq, Option.some.injEq]; have := HGM.out; omega)
                  · rw [take_snoc48 _ _ (by rw [List.length_map]; exact hlt), HROW.out]; exact HS8.out
                  · rw [rows4_succ, HOK.out, HOKJ.out]; rfl
                  · exact HB7.out.grown HG8.out HB7.out.size (fun r e => by cases e; have := HGM.out; omega)
      · have hej : j = l0_1.length := by omega
        have hq : ¬ (j : Int) < (l0_1.length : Int) := by omega
        have hr : r = true := by
          have h1 := HOK.out
          have h2 := HLR.out
          have h3 := HLEN.out
          rw [hej] at h1
          rw [← HRES.out]; unfold ref4R
          rw [List.length_map, h1, h2, decide_eq_true h3.1, decide_eq_true h3.2]; rfl
        subst hr
        clear hej
        go_wp2
        go_ret
        exact ⟨rfl, HB.out⟩
end Go.Proofs.YtkbmmgpdnienfaaDoor.P
namespace Go.Proofs.YtkbmmgpdnienfaaDoor.P
open Go.RowKit Go.Proofs.YtkbmmgpdnienfaaDoorW.PrintWords Go.Proofs.YtkbmmgpdnienfaaDoorW.PrintLast Go.Proofs.YtkbmmgpdnienfaaDoorW.PrintMore
attribute [local go_sem] max2_int min2_int max_two min_two max_three min_three max_four min_four   -- for this text's walks alone
def icehouseref04_Bounds.l0 : Nat → Int → Int → Int → List (S88) → List (S75) → Option (Int × Int × Int × Int)
  | 0, _, _, _, _, _ => none
  | k + 1, x6, x7, x8, x159000, x159001 => if x8 < (x159001.length : Int) then (if 0 ≤ x8 then (icehouseref04_Bounds.l0 k (mn x6 ((rd_T75 x159001 x8).f0)) (mx x7 ((rd_T75 x159001 x8).f0)) (wrap64 (x8 + 1)) x159000 x159001) else (none)) else (if 0 < (x159001.length : Int) then (if 0 ≤ (wrap64 ((x159001.length : Int) - 1)) then (if (wrap64 ((x159001.length : Int) - 1)) < (x159001.length : Int) then (some ((rd_T75 x159001 0).f1, (rd_T75 x159001 (wrap64 ((x159001.length : Int) - 1))).f1, x6, x7)) else (none)) else (none)) else (none))
def icehouseref04_Bounds.f (k : Nat) (l0_0 : List (S88)) (l0_1 : List (S75)) : Option (Int × Int × Int × Int) := (icehouseref04_Right.f l0_0 l0_1).bind fun t159 => (if t159 = true then (if 0 < (l0_1.length : Int) then (icehouseref04_Bounds.l0 k ((rd_T75 l0_1 0).f0) ((rd_T75 l0_1 0).f0) 0 l0_0 l0_1) else (none)) else (some (0, 0, 0, 0)))
end Go.Proofs.YtkbmmgpdnienfaaDoor.P
namespace Go.Proofs.YtkbmmgpdnienfaaDoor.P
open Go.RowKit Go.Proofs.YtkbmmgpdnienfaaDoorW.PrintWords Go.Proofs.YtkbmmgpdnienfaaDoorW.PrintLast Go.Proofs.YtkbmmgpdnienfaaDoorW.PrintMore
attribute [local go_sem] max2_int min2_int max_two min_two max_three min_three max_four min_four   -- for this text's walks alone
def icehouseref04_Between.l0 : Nat → Int → Int → List (S53) → Int → List (S88) → List (S75) → Option ((List (S53)))
  | 0, _, _, _, _, _, _ => none
  | k + 1, x1, x2, x7, x8, x198000, x198001 => if x8 < (x198001.length : Int) then (if 0 ≤ x8 then (if ((rd_T75 x198001 x8).f1) ≥ x1 then (if ((rd_T75 x198001 x8).f1) < x2 then ((icehouseref04_Entry.f x198000 ((rd_T75 x198001 x8).f0) ((rd_T75 x198001 x8).f1) ((rd_T75 x198001 x8).f2)).bind fun bt202 => (if x7.length < 2513169434916 then (icehouseref04_Between.l0 k x1 x2 (x7 ++ [(⟨bt202.1, bt202.2.1, bt202.2.2.1, bt202.2.2.2⟩ : S53)]) (wrap64 (x8 + 1)) x198000 x198001) else (none))) else (icehouseref04_Between.l0 k x1 x2 x7 (wrap64 (x8 + 1)) x198000 x198001)) else (icehouseref04_Between.l0 k x1 x2 x7 (wrap64 (x8 + 1)) x198000 x198001)) else (none)) else (some x7)
def icehouseref04_Between.f (k : Nat) (l0_0 : List (S88)) (l0_1 : List (S75)) (a1 : Int) (a2 : Int) : Option ((List (S53))) := (icehouseref04_Right.f l0_0 l0_1).bind fun t198 => (if t198 = true then (icehouseref04_Between.l0 k a1 a2 ([] : List (S53)) 0 l0_0 l0_1) else (some ([] : List (S53))))
def icehouseref04_Between.T8 : Bool × List (List Nat × List Nat) := (true, [([], []), ([], []), ([1], [1]), ([], []), ([3], [3]), ([], []), ([4, 5], [4, 5]), ([6], [6]), ([2, 7], [2, 7]), ([8], [8]), ([0, 9, 8], [0, 9]), ([10, 10, 0, 1, 2, 3, 4, 5, 6, 7, 8, 9, 10], [0, 10])])
def icehouseref04_Between.B8 : List Nat := [0, 0, 2, 0, 8, 0, 56, 120, 254, 510, 1023, 2047]
end Go.Proofs.YtkbmmgpdnienfaaDoor.P
namespace Go.Proofs.YtkbmmgpdnienfaaDoor.P
open Go.RowKit Go.Proofs.YtkbmmgpdnienfaaDoorW.PrintWords Go.Proofs.YtkbmmgpdnienfaaDoorW.PrintLast Go.Proofs.YtkbmmgpdnienfaaDoorW.PrintMore
theorem own75_f0 (xs : List S75) (i : Nat) (h : i < xs.length) : (rd_T75 xs i).f0 = (rd_T48 (xs.map own75) i).f0 := by rw [rd75_own xs i h]; rfl
theorem own75_f1 (xs : List S75) (i : Nat) (h : i < xs.length) : (rd_T75 xs i).f1 = (rd_T48 (xs.map own75) i).f1 := by rw [rd75_own xs i h]; rfl
theorem own75_f2 (xs : List S75) (i : Nat) (h : i < xs.length) : (rd_T75 xs i).f2 = (rd_T48 (xs.map own75) i).f2 := by rw [rd75_own xs i h]; rfl
def leastTo (xs : List S48) : Nat → Int
  | 0 => (rd_T48 xs 0).f0
  | i + 1 => mn (leastTo xs i) (rd_T48 xs i).f0
def mostTo (xs : List S48) : Nat → Int
  | 0 => (rd_T48 xs 0).f0
  | i + 1 => mx (mostTo xs i) (rd_T48 xs i).f0
theorem bounds4_from (lab : List S88) (xs : List S75) (hx : xs.length < 4398046511104) (h1 : 1 ≤ xs.length) : ∀ d i k, i + d = xs.length → d < k →
    icehouseref04_Bounds.l0 k (leastTo (xs.map own75) i) (mostTo (xs.map own75) i) i lab xs = some ((rd_T48 (xs.map own75) 0).f1, (rd_T48 (xs.map own75) ((xs.length - 1 : Nat) : Int)).f1, leastTo (xs.map own75) xs.length, mostTo (xs.map own75) xs.length) := by
  intro d
  induction d with
  | zero =>
    intro i k hi hk
    obtain ⟨k, rfl⟩ : ∃ m, k = m + 1 := ⟨k - 1, by omega⟩
    have hw : wrap64 ((xs.length : Int) - 1) = ((xs.length - 1 : Nat) : Int) := by unfold wrap64; omega
    have e0 := own75_f1 xs 0 (by omega)
    rw [show ((0 : Nat) : Int) = 0 from rfl] at e0
    simp only [icehouseref04_Bounds.l0]
    rw [if_neg (by omega), if_pos (by omega), hw, if_pos (by omega), if_pos (by omega), e0, own75_f1 xs _ (by omega), show i = xs.length by omega]
  | succ d ih =>
    intro i k hi hk
    obtain ⟨k, rfl⟩ : ∃ m, k = m + 1 := ⟨k - 1, by omega⟩
    simp only [icehouseref04_Bounds.l0]
    rw [if_pos (by omega), if_pos (by omega), w1 (by omega), own75_f0 xs i (by omega)]
    exact ih (i + 1) k (by omega) (by omega)
def boundsR (lab : List S88) (xs : List S48) : Int × Int × Int × Int := if chunkR lab xs = true then ((rd_T48 xs 0).f1, (rd_T48 xs ((xs.length - 1 : Nat) : Int)).f1, (bestTo (fun x => decide (x < 0)) xs (xs.length - 1)).f0, (bestTo (fun x => decide (0 < x)) xs (xs.length - 1)).f0) else (0, 0, 0, 0)
theorem rightD_is {lab : List S88} {xs : List S75} (hf : ref4Fit lab xs) : icehouseref04_Right.f lab xs = some (chunkR lab (xs.map own75)) := by
  unfold icehouseref04_Right.f
  rw [if_pos hf, right4_same]
theorem same4_from (la lb : List S88) (xs : List S75) (hx : xs.length < 4398046511104) : ∀ d i k, i + d = xs.length → d < k → icehouselaw04_Same.l0 k i la (xs.map own75) lb xs = some true := by
  intro d
  have hml : (xs.map own75).length = xs.length := List.length_map _
  induction d with
  | zero =>
    intro i k hi hk
    obtain ⟨k, rfl⟩ : ∃ m, k = m + 1 := ⟨k - 1, by omega⟩
    rw [icehouselaw04_Same.l0, if_neg (by omega)]
  | succ d ih =>
    intro i k hi hk
    obtain ⟨k, rfl⟩ : ∃ m, k = m + 1 := ⟨k - 1, by omega⟩
    rw [icehouselaw04_Same.l0, if_pos (by omega), if_pos (by omega), if_pos (by omega), if_pos (own75_f0 xs i (by omega)).symm, if_pos (own75_f1 xs i (by omega)).symm, if_pos (by rw [own75_f2 xs i (by omega)]), w1 (by omega), ih (i + 1) k (by omega) (by omega)]
theorem same4_is (lab : List S88) (xs : List S75) (h0 : lab.length < 4398046511104) (h1 : xs.length < 4398046511104) (k : Nat) (hk : lab.length + xs.length + 2 < k) : icehouselaw04_Same.f k lab (xs.map own75) lab xs = some true := by
  obtain ⟨k, rfl⟩ : ∃ m, k = m + 1 := ⟨k - 1, by omega⟩
  unfold icehouselaw04_Same.f
  rw [same2_refl lab (by omega) _ (by omega), Option.bind_some, if_pos rfl, icehouselaw04_Same.j0, List.length_map]
  have : ((xs.length : Int) != (xs.length : Int)) = false := by simp
  rw [this, if_neg (by decide)]
  exact same4_from lab lab xs h1 xs.length 0 k (by omega) (by omega)
end Go.Proofs.YtkbmmgpdnienfaaDoor.P
