/- Part 32 of the proof of chunkBack_card: its words, walks and plain laws, one text behind the other. -/
import Derived.Test.YtkbmmgpdnienfaaDoorK929
import Derived.Test.YtkbmmgpdnienfaaDoorK930
import Derived.Test.YtkbmmgpdnienfaaDoorK97
import Derived.Test.YtkbmmgpdnienfaaDoorK931
import Derived.Test.YtkbmmgpdnienfaaDoorK96
import Derived.Test.YtkbmmgpdnienfaaDoorK928
set_option linter.unusedVariables false
set_option linter.unusedSimpArgs false
namespace Go.Proofs.YtkbmmgpdnienfaaDoor.P
open Go.RowKit Go.Proofs.YtkbmmgpdnienfaaDoorW.PrintWords Go.Proofs.YtkbmmgpdnienfaaDoorW.PrintLast Go.Proofs.YtkbmmgpdnienfaaDoorW.PrintMore
attribute [local go_sem] Oper.semAt_some
theorem cutB {n c : Nat} (h : n ≤ 10000000) (h1 : 1 ≤ n) (hc : n ≤ c) : 0 ≤ wrap64 ((n : Int) - 1) ∧ wrap64 ((n : Int) - 1) ≤ (c : Int) := by
  rw [wrap_in (by omega) (by omega)]
  omega
theorem dropLast_C {W : World} {A : Option Addr} {l : List Int} (h : Kd.C (Kd.int .u8) W A l.length l) : Kd.C (Kd.int .u8) W A l.dropLast.length l.dropLast := by
  rw [List.dropLast_eq_take]
  exact Kd.C_take h (by omega)
set_option maxHeartbeats 8000000 in
set_option maxRecDepth 100000 in
theorem back_no (A0 : Option Addr) (c0 : Nat) (l0 : List S88) (A1 : Option Addr) (c1 : Nat) (l1 : List S75) (w : World) (hr0 : Kd.C k88 w A0 l0.length l0) (hc0 : l0.length ≤ c0) (hr1 : Kd.C k75 w A1 l1.length l1) (hc1 : l1.length ≤ c1) (hG : Laid w) (hf : ref4Fit l0 l1) (hch : chunkR l0 (l1.map own75) = false) :
    Calls Tryd.prog 9 #[.agg #[.slice A0 l0.length c0, .slice A1 l1.length c1]] w fun e w' => e = .returned (.bool true) ∧ Below w.heap.size w w' := by
  have HR0 := Aside0.mk hr0
  have HR1 := Aside0.mk hr1
  have HC0 := Aside0.mk hc0
  have HC1 := Aside0.mk hc1
  have HGL := Aside0.mk hG
  have hff : chunkFit l0 (l1.map own75) := fit75 hf.1 hf.2.1 hf.2.2.2
  obtain ⟨K, hK⟩ : ∃ K, K = l0.length + l1.length + 3002 := ⟨_, rfl⟩
  have F1 : Aside0 (icehouselaw04_Own.f K l0 l1 = some (l0, l1.map own75)) := ⟨own4_is l0 l1 hf.1 hf.2.1 K (by omega)⟩
  have F2 := Aside0.mk (put_is hff)
  have F3 := Aside0.mk (rightD_is hf)
  have F7 : Aside0 (icehouselaw04_Same.f K l0 (l1.map own75) l0 l1 = some true) := ⟨same4_is l0 l1 hf.1 hf.2.1 K (by omega)⟩
  obtain ⟨xs, hxs⟩ : ∃ x, x = l1.map own75 := ⟨_, rfl⟩
  rw [← hxs] at F1 F2 F3 F7 hch
  clear hxs
  rw [hch] at F2 F3
  rw [if_neg (by decide)] at F2
  clear hK hr0 hc0 hr1 hc1 hG hf hff hch
  have hu25 := Tryd.underlying25
  have hu28 := Tryd.underlying28
  have HB := Aside0.mk (below_alloc (Below.refl w.heap.size w) (.cells #[.slice A0 l0.length c0, .slice A1 l1.length c1] 25))
  have HBX := Aside0.mk (heap_alloc_new w (.cells #[.slice A0 l0.length c0, .slice A1 l1.length c1] 25))
  have M1 : Aside0 True := ⟨trivial⟩
  have M2 : Aside0 True := ⟨trivial⟩
  have M3 : Aside0 True := ⟨trivial⟩
  have M4 : Aside0 True := ⟨trivial⟩
  go_enter Tryd.func9, Tryd.ntmps9
  go_wp2_with (first
    | ((with_reducible refine gate_callee (f := 12) rfl ?_); refine goesL_ (some 11) rfl rfl Tryd.func12 (by kernel_rfl) rfl #[.agg #[.slice A0 l0.length c0, .slice A1 l1.length c1]] rfl (by (try simp only [List.map_toArray, List.map_cons, List.map_nil]); first | done | rfl) ?_; refine (icehouselaw04_Own.calls K A0 c0 l0 A1 c1 l1 l0 xs _ (Kd.C_below HR0.out HB.out) HC0.out (Kd.C_below HR1.out HB.out) HC1.out F1.out).mono ?_; rintro e w5 ⟨va, vb, rfl, hol, hor, hb⟩; refine ⟨_, rfl, ?_⟩; obtain ⟨Al, cl, rfl⟩ := Kd.R_slice hol; obtain ⟨Ar, cr, rfl⟩ := Kd.R_slice hor; have HI := Aside0.mk (lawinv_start (below_step HB.out hb) (blk_below HBX.out hb) (Kd.R_lower hol HB.out.size) (Kd.R_lower hor HB.out.size)); clear HB HBX hol hor hb; have y7a : (w5.alloc (.cells #[.slice Al l0.length cl, .slice Ar xs.length cr] 28)).cell? ⟨w5.heap.size, 0, none⟩ = some (.slice Al l0.length cl) := (blk_cell HI.out.b7 0).trans rfl; have y7b : (w5.alloc (.cells #[.slice Al l0.length cl, .slice Ar xs.length cr] 28)).cell? ⟨w5.heap.size, 1, none⟩ = some (.slice Ar xs.length cr) := (blk_cell HI.out.b7 1).trans rfl)
    | ((with_reducible refine gate_callee (f := 32) rfl ?_); refine goesL_ (some 14) rfl rfl Tryd.func32 (by kernel_rfl) rfl #[.agg #[.slice Al l0.length cl, .slice Ar xs.length cr]] rfl (by (try simp only [List.map_toArray, List.map_cons, List.map_nil]); first | done | rfl) ?_; refine (chunk_Put.calls Al cl l0 Ar cr xs [] 1 _ (Kd.R_reads' HI.out.lab).2.2 (Kd.R_reads' HI.out.lab).2.1 (Kd.R_reads' HI.out.rows).2.2 (Kd.R_reads' HI.out.rows).2.1 (laid_below HGL.out HI.out.below) F2.out).mono ?_; rintro e w7 ⟨v7, rfl, ho, hb⟩; refine ⟨_, rfl, ?_⟩; obtain ⟨A7, c7, rfl⟩ := Kd.R_slice ho; have HO := Aside0.mk ho; have n0_ := Aside0.mk (HI.out.step hb HI.out.lt); clear HI; have HI := n0_; clear n0_; clear hb ho y7a y7b; have y7a : w7.cell? ⟨w5.heap.size, 0, none⟩ = some (.slice Al l0.length cl) := (blk_cell HI.out.b7 0).trans rfl; have y7b : w7.cell? ⟨w5.heap.size, 1, none⟩ = some (.slice Ar xs.length cr) := (blk_cell HI.out.b7 1).trans rfl; have y3a : w7.cell? ⟨w.heap.size, 0, none⟩ = some (.slice A0 l0.length c0) := (blk_cell HI.out.b3 0).trans rfl; have y3b : w7.cell? ⟨w.heap.size, 1, none⟩ = some (.slice A1 l1.length c1) := (blk_cell HI.out.b3 1).trans rfl)
    | (go_at_call 38; refine (icehouselaw04_num.calls 1 1 _ rfl).mono ?_; rintro e w8 ⟨rfl, hb⟩; replace hb := hb.below; have n1_ := Aside0.mk (Kd.R_below HO.out hb); have n0_ := Aside0.mk (HI.out.step hb HI.out.lt); clear HI; have HI := n0_; clear n0_; clear HO; have HO := n1_; clear n1_ hb y7a y7b y3a y3b; have y7a : w8.cell? ⟨w5.heap.size, 0, none⟩ = some (.slice Al l0.length cl) := (blk_cell HI.out.b7 0).trans rfl; have y7b : w8.cell? ⟨w5.heap.size, 1, none⟩ = some (.slice Ar xs.length cr) := (blk_cell HI.out.b7 1).trans rfl; have y3a : w8.cell? ⟨w.heap.size, 0, none⟩ = some (.slice A0 l0.length c0) := (blk_cell HI.out.b3 0).trans rfl; have y3b : w8.cell? ⟨w.heap.size, 1, none⟩ = some (.slice A1 l1.length c1) := (blk_cell HI.out.b3 1).trans rfl)
    | (go_at_call 37; refine (icehouseref04_Right.calls A0 c0 l0 A1 c1 l1 false _ (Kd.C_below HR0.out HI.out.below) HC0.out (Kd.C_below HR1.out HI.out.below) HC1.out F3.out).mono ?_; rintro e w9 ⟨rfl, hb⟩; have n0_ := Aside0.mk (HI.out.step hb HI.out.lt); clear HI; have HI := n0_; clear n0_; clear hb y7a y7b y3a y3b; have y7a : w9.cell? ⟨w5.heap.size, 0, none⟩ = some (.slice Al l0.length cl) := (blk_cell HI.out.b7 0).trans rfl; have y7b : w9.cell? ⟨w5.heap.size, 1, none⟩ = some (.slice Ar xs.length cr) := (blk_cell HI.out.b7 1).trans rfl; have y3a : w9.cell? ⟨w.heap.size, 0, none⟩ = some (.slice A0 l0.length c0) := (blk_cell HI.out.b3 0).trans rfl; have y3b : w9.cell? ⟨w.heap.size, 1, none⟩ = some (.slice A1 l1.length c1) := (blk_cell HI.out.b3 1).trans rfl)
    | (go_at_call 20; refine (icehouselaw04_knows.calls true _ (laid_below HGL.out HI.out.below) knows_is).mono ?_; rintro e w10 ⟨rfl, hb⟩; have n0_ := Aside0.mk (HI.out.step hb HI.out.lt); clear HI; have HI := n0_; clear n0_; clear hb)
    | fail)
  go_ret
  exact ⟨rfl, HI.out.below⟩
set_option maxHeartbeats 8000000 in
set_option maxRecDepth 100000 in
theorem back_yes (A0 : Option Addr) (c0 : Nat) (l0 : List S88) (A1 : Option Addr) (c1 : Nat) (l1 : List S75) (w : World) (hr0 : Kd.C k88 w A0 l0.length l0) (hc0 : l0.length ≤ c0) (hr1 : Kd.C k75 w A1 l1.length l1) (hc1 : l1.length ≤ c1) (hG : Laid w) (hf : ref4Fit l0 l1) (hch : chunkR l0 (l1.map own75) = true) :
    Calls Tryd.prog 9 #[.agg #[.slice A0 l0.length c0, .slice A1 l1.length c1]] w fun e w' => e = .returned (.bool true) ∧ Below w.heap.size w w' := by
  have HR0 := Aside0.mk hr0
  have HR1 := Aside0.mk hr1
  have HC0 := Aside0.mk hc0
  have HC1 := Aside0.mk hc1
  have HGL := Aside0.mk hG
  have hff : chunkFit l0 (l1.map own75) := fit75 hf.1 hf.2.1 hf.2.2.2
  obtain ⟨K, hK⟩ : ∃ K, K = l0.length + l1.length + 3002 := ⟨_, rfl⟩
  have F1 : Aside0 (icehouselaw04_Own.f K l0 l1 = some (l0, l1.map own75)) := ⟨own4_is l0 l1 hf.1 hf.2.1 K (by omega)⟩
  have F2 := Aside0.mk (put_is hff)
  have F3 := Aside0.mk (rightD_is hf)
  have F7 : Aside0 (icehouselaw04_Same.f K l0 (l1.map own75) l0 l1 = some true) := ⟨same4_is l0 l1 hf.1 hf.2.1 K (by omega)⟩
  obtain ⟨xs, hxs⟩ : ∃ x, x = l1.map own75 := ⟨_, rfl⟩
  rw [← hxs] at F1 F2 F3 F7 hch
  clear hxs
  rw [hch] at F2 F3
  rw [if_pos rfl] at F2
  have hE := chunkE_ok hch
  have h9 := get_back hch
  have h10 := get_cut hch
  obtain ⟨E, hEE⟩ : ∃ E, E = chunkE l0 xs := ⟨_, rfl⟩
  rw [← hEE] at F2 hE h9 h10
  have F4 : Aside0 (bytesOK E ∧ E.length ≤ 10000000 ∧ 1 ≤ E.length) := ⟨hE.1, hE.2.1, by have := List.length_pos_iff.2 hE.2.2; omega⟩
  have F5 := Aside0.mk h9
  have F6 := Aside0.mk h10
  have F8 : Aside0 ((wrap64 ((E.length : Int) - 1)).toNat = E.dropLast.length) := ⟨by
    have := F4.out.2
    rw [wrap_in (by omega) (by omega), List.length_dropLast]
    omega⟩
  have F9 : Aside0 (E.dropLast.length ≤ E.length ∧ bytesOK E.dropLast ∧ E.dropLast.length ≤ 140737488351232) := ⟨by
    have := F4.out.2
    rw [List.length_dropLast]
    exact ⟨by omega, fun x hx => F4.out.1 x (List.dropLast_subset _ hx), by omega⟩⟩
  clear hE h9 h10 hEE
  clear hK hr0 hc0 hr1 hc1 hG hf hff hch
  have hu25 := Tryd.underlying25
  have hu28 := Tryd.underlying28
  have HB := Aside0.mk (below_alloc (Below.refl w.heap.size w) (.cells #[.slice A0 l0.length c0, .slice A1 l1.length c1] 25))
  have HBX := Aside0.mk (heap_alloc_new w (.cells #[.slice A0 l0.length c0, .slice A1 l1.length c1] 25))
  have M1 : Aside0 True := ⟨trivial⟩
  have M2 : Aside0 True := ⟨trivial⟩
  have M3 : Aside0 True := ⟨trivial⟩
  have M4 : Aside0 True := ⟨trivial⟩
  go_enter Tryd.func9, Tryd.ntmps9
  have hne : ¬ (E.length : Int) = 0 := by have := F4.out.2.2; omega
  go_wp2_with (first
    | ((with_reducible refine gate_callee (f := 12) rfl ?_); refine goesL_ (some 11) rfl rfl Tryd.func12 (by kernel_rfl) rfl #[.agg #[.slice A0 l0.length c0, .slice A1 l1.length c1]] rfl (by (try simp only [List.map_toArray, List.map_cons, List.map_nil]); first | done | rfl) ?_; refine (icehouselaw04_Own.calls K A0 c0 l0 A1 c1 l1 l0 xs _ (Kd.C_below HR0.out HB.out) HC0.out (Kd.C_below HR1.out HB.out) HC1.out F1.out).mono ?_; rintro e w5 ⟨va, vb, rfl, hol, hor, hb⟩; refine ⟨_, rfl, ?_⟩; obtain ⟨Al, cl, rfl⟩ := Kd.R_slice hol; obtain ⟨Ar, cr, rfl⟩ := Kd.R_slice hor; have HI := Aside0.mk (lawinv_start (below_step HB.out hb) (blk_below HBX.out hb) (Kd.R_lower hol HB.out.size) (Kd.R_lower hor HB.out.size)); clear HB HBX hol hor hb; have y7a : (w5.alloc (.cells #[.slice Al l0.length cl, .slice Ar xs.length cr] 28)).cell? ⟨w5.heap.size, 0, none⟩ = some (.slice Al l0.length cl) := (blk_cell HI.out.b7 0).trans rfl; have y7b : (w5.alloc (.cells #[.slice Al l0.length cl, .slice Ar xs.length cr] 28)).cell? ⟨w5.heap.size, 1, none⟩ = some (.slice Ar xs.length cr) := (blk_cell HI.out.b7 1).trans rfl)
    | ((with_reducible refine gate_callee (f := 32) rfl ?_); refine goesL_ (some 14) rfl rfl Tryd.func32 (by kernel_rfl) rfl #[.agg #[.slice Al l0.length cl, .slice Ar xs.length cr]] rfl (by (try simp only [List.map_toArray, List.map_cons, List.map_nil]); first | done | rfl) ?_; refine (chunk_Put.calls Al cl l0 Ar cr xs E 0 _ (Kd.R_reads' HI.out.lab).2.2 (Kd.R_reads' HI.out.lab).2.1 (Kd.R_reads' HI.out.rows).2.2 (Kd.R_reads' HI.out.rows).2.1 (laid_below HGL.out HI.out.below) F2.out).mono ?_; rintro e w7 ⟨v7, rfl, ho, hb⟩; refine ⟨_, rfl, ?_⟩; obtain ⟨A7, c7, rfl⟩ := Kd.R_slice ho; have HO := Aside0.mk ho; have n0_ := Aside0.mk (HI.out.step hb HI.out.lt); clear HI; have HI := n0_; clear n0_; clear hb ho y7a y7b; have y7a : w7.cell? ⟨w5.heap.size, 0, none⟩ = some (.slice Al l0.length cl) := (blk_cell HI.out.b7 0).trans rfl; have y7b : w7.cell? ⟨w5.heap.size, 1, none⟩ = some (.slice Ar xs.length cr) := (blk_cell HI.out.b7 1).trans rfl; have y3a : w7.cell? ⟨w.heap.size, 0, none⟩ = some (.slice A0 l0.length c0) := (blk_cell HI.out.b3 0).trans rfl; have y3b : w7.cell? ⟨w.heap.size, 1, none⟩ = some (.slice A1 l1.length c1) := (blk_cell HI.out.b3 1).trans rfl)
    | (have _u := M1.out; go_at_call 38; refine (icehouselaw04_num.calls 0 0 _ rfl).mono ?_; rintro e w8 ⟨rfl, hb⟩; replace hb := hb.below; have n1_ := Aside0.mk (Kd.R_below HO.out hb); have n0_ := Aside0.mk (HI.out.step hb HI.out.lt); clear HI; have HI := n0_; clear n0_; clear HO; have HO := n1_; clear n1_ hb y7a y7b y3a y3b; have y7a : w8.cell? ⟨w5.heap.size, 0, none⟩ = some (.slice Al l0.length cl) := (blk_cell HI.out.b7 0).trans rfl; have y7b : w8.cell? ⟨w5.heap.size, 1, none⟩ = some (.slice Ar xs.length cr) := (blk_cell HI.out.b7 1).trans rfl; have y3a : w8.cell? ⟨w.heap.size, 0, none⟩ = some (.slice A0 l0.length c0) := (blk_cell HI.out.b3 0).trans rfl; have y3b : w8.cell? ⟨w.heap.size, 1, none⟩ = some (.slice A1 l1.length c1) := (blk_cell HI.out.b3 1).trans rfl; clear M1 _u)
    | (have _u := M2.out; go_at_call 34; have hlen : E.length ≤ 140737488351232 := (by have := F4.out.2.1; omega); refine (chunk_Get.calls A7 c7 E _ (Kd.R_reads' HO.out).2.2 (Kd.R_reads' HO.out).2.1 F4.out.1 hlen (laid_below HGL.out HI.out.below)).mono ?_; rw [F5.out]; rintro e w9 ⟨v0, v1, rfl, ho0, ho1, hb⟩; obtain ⟨Ag, cg, rfl⟩ := Kd.R_slice ho0; obtain ⟨Ah, ch, rfl⟩ := Kd.R_slice ho1; have HO0 := Aside0.mk ho0; have HO1 := Aside0.mk ho1; have n1_ := Aside0.mk (Kd.R_below HO.out hb); have n0_ := Aside0.mk (HI.out.step hb HI.out.lt); clear HI; have HI := n0_; clear n0_; clear HO; have HO := n1_; clear n1_ hb ho0 ho1 hlen y7a y7b y3a y3b M2 _u; have hw0 : 0 ≤ wrap64 ((E.length : Int) - 1) ∧ wrap64 ((E.length : Int) - 1) ≤ (c7 : Int) := cutB F4.out.2.1 F4.out.2.2 (Kd.R_reads' HO.out).2.1)
    | (have _u := M3.out; go_at_call 34; clear hw0; rw [F8.out]; have hal := below_alloc (Below.refl w9.heap.size w9) (.cells #[.slice Ag l0.length cg, .slice Ah xs.length ch] 28); have HB6 := Aside0.mk (heap_alloc_new w9 (.cells #[.slice Ag l0.length cg, .slice Ah xs.length ch] 28)); have n0_ := Aside0.mk (HI.out.step hal HI.out.lt); have n1_ := Aside0.mk (Kd.R_below HO.out hal); have n2_ := Aside0.mk (Kd.R_below HO0.out hal); have n3_ := Aside0.mk (Kd.R_below HO1.out hal); clear HI HO HO0 HO1 hal; have HI := n0_; have HO := n1_; have HO0 := n2_; have HO1 := n3_; clear n0_ n1_ n2_ n3_; refine (chunk_Get.calls A7 c7 E.dropLast _ (dropLast_C (Kd.R_reads' HO.out).2.2) (Nat.le_trans F9.out.1 (Kd.R_reads' HO.out).2.1) F9.out.2.1 F9.out.2.2 (laid_below HGL.out HI.out.below)).mono ?_; rw [F6.out]; rintro e w11 ⟨v2, v3, rfl, ho0, ho1, hb⟩; obtain ⟨Ai, ci, rfl⟩ := Kd.R_slice ho0; obtain ⟨Aj, cj, rfl⟩ := Kd.R_slice ho1; have n0_ := Aside0.mk (HI.out.step hb HI.out.lt); have n2_ := Aside0.mk (Kd.R_below HO0.out hb); have n3_ := Aside0.mk (Kd.R_below HO1.out hb); have n4_ := Aside0.mk (blk_below HB6.out hb); clear HI HO0 HO1 HB6; have HI := n0_; have HO0 := n2_; have HO1 := n3_; have HB6 := n4_; clear n0_ n2_ n3_ n4_; clear HO hb ho0 ho1 M3 _u)
    | (have _u := M4.out; go_at_call 38; have hal := below_alloc (Below.refl w11.heap.size w11) (.cells #[.slice Ai ([] : List S88).length ci, .slice Aj ([] : List S48).length cj] 28); have n0_ := Aside0.mk (HI.out.step hal HI.out.lt); have n2_ := Aside0.mk (Kd.R_below HO0.out hal); have n3_ := Aside0.mk (Kd.R_below HO1.out hal); have n4_ := Aside0.mk (blk_below HB6.out hal); clear HI HO0 HO1 HB6; have HI := n0_; have HO0 := n2_; have HO1 := n3_; have HB6 := n4_; clear n0_ n2_ n3_ n4_; clear hal; refine (icehouselaw04_num.calls 0 0 _ rfl).mono ?_; rintro e w12 ⟨rfl, hb⟩; replace hb := hb.below; have n0_ := Aside0.mk (HI.out.step hb HI.out.lt); have n2_ := Aside0.mk (Kd.R_below HO0.out hb); have n3_ := Aside0.mk (Kd.R_below HO1.out hb); have n4_ := Aside0.mk (blk_below HB6.out hb); clear HI HO0 HO1 HB6; have HI := n0_; have HO0 := n2_; have HO1 := n3_; have HB6 := n4_; clear n0_ n2_ n3_ n4_; clear hb M4 _u; have y7a : w12.cell? ⟨w5.heap.size, 0, none⟩ = some (.slice Al l0.length cl) := (blk_cell HI.out.b7 0).trans rfl; have y7b : w12.cell? ⟨w5.heap.size, 1, none⟩ = some (.slice Ar xs.length cr) := (blk_cell HI.out.b7 1).trans rfl; have y3a : w12.cell? ⟨w.heap.size, 0, none⟩ = some (.slice A0 l0.length c0) := (blk_cell HI.out.b3 0).trans rfl; have y3b : w12.cell? ⟨w.heap.size, 1, none⟩ = some (.slice A1 l1.length c1) := (blk_cell HI.out.b3 1).trans rfl; have y6a : w12.cell? ⟨w9.heap.size, 0, none⟩ = some (.slice Ag l0.length cg) := (blk_cell HB6.out 0).trans rfl; have y6b : w12.cell? ⟨w9.heap.size, 1, none⟩ = some (.slice Ah xs.length ch) := (blk_cell HB6.out 1).trans rfl)
    | (go_at_call 19; refine (icehouselaw04_Same.calls K Ag cg l0 Ah ch xs A0 c0 l0 A1 c1 l1 true _ (Kd.R_reads' HO0.out).2.2 (Kd.R_reads' HO0.out).2.1 (Kd.R_reads' HO1.out).2.2 (Kd.R_reads' HO1.out).2.1 (Kd.C_below HR0.out HI.out.below) HC0.out (Kd.C_below HR1.out HI.out.below) HC1.out F7.out).mono ?_; rintro e w13 ⟨rfl, hb⟩; have n0_ := Aside0.mk (HI.out.step hb HI.out.lt); clear HI; have HI := n0_; clear n0_; clear hb y7a y7b y3a y3b y6a y6b)
    | (go_at_call 38; refine (icehouselaw04_num.calls 21 21 _ rfl).mono ?_; rintro e w14 ⟨rfl, hb⟩; replace hb := hb.below; have n0_ := Aside0.mk (HI.out.step hb HI.out.lt); clear HI; have HI := n0_; clear n0_; clear hb)
    | (go_at_call 20; refine (icehouselaw04_knows.calls true _ (laid_below HGL.out HI.out.below) knows_is).mono ?_; rintro e w15 ⟨rfl, hb⟩; have n0_ := Aside0.mk (HI.out.step hb HI.out.lt); clear HI; have HI := n0_; clear n0_; clear hb)
    | fail)
  go_ret
  exact ⟨rfl, HI.out.below⟩
theorem back_calls (A0 : Option Addr) (c0 : Nat) (l0 : List S88) (A1 : Option Addr) (c1 : Nat) (l1 : List S75) (w : World) (hr0 : Kd.C k88 w A0 l0.length l0) (hc0 : l0.length ≤ c0) (hr1 : Kd.C k75 w A1 l1.length l1) (hc1 : l1.length ≤ c1) (hG : Laid w) (hf : ref4Fit l0 l1) :
    Calls Tryd.prog 9 #[.agg #[.slice A0 l0.length c0, .slice A1 l1.length c1]] w fun e w' => e = .returned (.bool true) ∧ Below w.heap.size w w' := by
  by_cases h : chunkR l0 (l1.map own75) = true
  · exact back_yes A0 c0 l0 A1 c1 l1 w hr0 hc0 hr1 hc1 hG hf h
  · exact back_no A0 c0 l0 A1 c1 l1 w hr0 hc0 hr1 hc1 hG hf (Bool.not_eq_true _ ▸ h)
end Go.Proofs.YtkbmmgpdnienfaaDoor.P
