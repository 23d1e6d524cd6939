/- Part 31 of the proof of chunkBack_card: its words, walks and plain laws, one text behind the other. -/
import Derived.Test.YtkbmmgpdnienfaaDoorK922
import Derived.Test.YtkbmmgpdnienfaaDoorK96
import Derived.Test.YtkbmmgpdnienfaaDoorK919
import Derived.Test.YtkbmmgpdnienfaaDoorK928
import Derived.Test.YtkbmmgpdnienfaaDoorK924
set_option linter.unusedVariables false
set_option linter.unusedSimpArgs false
namespace Go.Proofs.YtkbmmgpdnienfaaDoor.P
open Go.RowKit Go.Proofs.YtkbmmgpdnienfaaDoorW.PrintWords Go.Proofs.YtkbmmgpdnienfaaDoorW.PrintLast Go.Proofs.YtkbmmgpdnienfaaDoorW.PrintMore
attribute [local go_sem] Oper.semAt_some min_two min2_int
theorem conv_C (W : World) (s : ByteArray) (hs : s.size ≤ 9223372036854775807) : Kd.C (Kd.int .u8) (Lib.bytesWorld W 5 s) (some ⟨W.heap.size, 0, none⟩) (bytesOf s).length (bytesOf s) := by
  have h := bytes_reads W 5 s hs
  rw [← bytesOf_length] at h
  exact Kd.C_of_reads (d := (0 : Int)) h
theorem conv_step (W : World) (s : ByteArray) : Below W.heap.size W (Lib.bytesWorld W 5 s) := bytes_below (Below.refl _ _) (Nat.le_refl _) 5 s
structure G0 (w : World) (g g5 : Nat) (vL vR : Value) (l : List Int) (e : Int) (W : World) : Prop where
  b2 : W.heap[w.heap.size]? = some (.cells #[.slice none 0 0, .slice none 0 0] 28 (0, 0))
  dec : Dec W (w.heap.size + 1) g l e
  b5 : W.heap[g5]? = some (.cells #[vL, vR] 28 (0, 0))
  lt : g < g5
  below : Below w.heap.size w W
theorem Dec.lo_le {W : World} {lo g : Nat} {l : List Int} {e : Int} (h : Dec W lo g l e) : lo ≤ g := by obtain ⟨_, _, _, h, _⟩ := h; exact h
theorem G0.go {w : World} {g g5 : Nat} {vL vR : Value} {l l2 : List Int} {e e2 : Int} {W W1 : World} (h : G0 w g g5 vL vR l e W) (hd : Dec W1 (w.heap.size + 1) g l2 e2) (hk : Kp1 g W W1) : G0 w g g5 vL vR l2 e2 W1 :=
  ⟨hk.at_ (by have := h.dec.lo_le; show w.heap.size ≠ g; omega) h.b2, hd, hk.at_ (by have := h.lt; show g5 ≠ g; omega) h.b5, h.lt, KpW.below h.below h.below.size hk (fun i hi => by have := h.dec.lo_le; have : i = g := hi; omega)⟩
theorem G0.step {w : World} {g g5 : Nat} {vL vR : Value} {l : List Int} {e : Int} {W W1 : World} (h : G0 w g g5 vL vR l e W) (hb : Below W.heap.size W W1) : G0 w g g5 vL vR l e W1 :=
  ⟨blk_below h.b2 hb, h.dec.below hb h.dec.lt, blk_below h.b5 hb, h.lt, below_step h.below hb⟩
theorem G0.grown {w : World} {g g5 b : Nat} {vL vR vL2 vR2 : Value} {l : List Int} {e : Int} {W W1 : World} (h : G0 w g g5 vL vR l e W) (hg : W.grownBy W1 (some b)) (hb : g < b) (h5 : W1.heap[g5]? = some (.cells #[vL2, vR2] 28 (0, 0))) : G0 w g g5 vL2 vR2 l e W1 :=
  ⟨blk_grown h.b2 hg (by have := h.dec.lo_le; simp only [ne_eq, Option.some.injEq]; omega), h.dec.step (fun i h1 h2 h3 => hg.block i h1 (by simp only [ne_eq, Option.some.injEq]; omega)), h5, h.lt, h.below.grown hg h.below.size (fun r e => by cases e; have := h.dec.lo_le; omega)⟩
structure GL (w : World) (g g5 g7 : Nat) (vL : Value) (labs : List S88) (rows : List S48) (was : S48) (l : List Int) (e : Int) (W : World) : Prop where
  base : ∃ vR, G0 w g g5 vL vR l e W ∧ Kd.R k48 48 W w.heap.size (fun k => g7 < k) vR rows
  b7 : W.heap[g7]? = some (.cells (rowC was) 48 (0, 0))
  lt7 : g5 < g7
  lab : Kd.R k88 88 W w.heap.size (fun k => g5 < k ∧ k < g7) vL labs
theorem GL.go {w : World} {g g5 g7 : Nat} {vL : Value} {labs : List S88} {rows : List S48} {was : S48} {l l2 : List Int} {e e2 : Int} {W W1 : World} (h : GL w g g5 g7 vL labs rows was l e W) (hd : Dec W1 (w.heap.size + 1) g l2 e2) (hk : Kp1 g W W1) : GL w g g5 g7 vL labs rows was l2 e2 W1 := by
  obtain ⟨vR, h0, hR⟩ := h.base
  have h1 := h0.lt
  have h2 := h.lt7
  exact ⟨⟨vR, h0.go hd hk, Kd.R_step hR (fun k hk1 hk2 => hk.block k hk2 (by show k ≠ g; omega))⟩, hk.at_ (by show g7 ≠ g; omega) h.b7, h.lt7, Kd.R_step h.lab (fun k hk1 hk2 => hk.block k hk2 (by show k ≠ g; omega))⟩
theorem GL.dec {w : World} {g g5 g7 : Nat} {vL : Value} {labs : List S88} {rows : List S48} {was : S48} {l : List Int} {e : Int} {W : World} (h : GL w g g5 g7 vL labs rows was l e W) : Dec W (w.heap.size + 1) g l e := by obtain ⟨_, h0, _⟩ := h.base; exact h0.dec
theorem GL.drew {w : World} {g g5 g7 : Nat} {vL : Value} {labs : List S88} {rows : List S48} {was : S48} {l : List Int} {e : Int} {W : World} (h : GL w g g5 g7 vL labs rows was l e W) : GL w g g5 g7 vL labs rows was l e W.drew :=
  h.go (h.dec.below (below_drew1 (Below.refl _ _)) h.dec.lt) (KpW.of_below (below_drew1 (Below.refl _ _)))
theorem GL.set {w : World} {g g5 g7 j : Nat} {vL u : Value} {labs : List S88} {rows : List S48} {was was2 : S48} {l : List Int} {e : Int} {W : World} (h : GL w g g5 g7 vL labs rows was l e W) (hj : (rowC was).setIfInBounds j u = rowC was2) : GL w g g5 g7 vL labs rows was2 l e (W.setCell ⟨g7, j, none⟩ u) := by
  obtain ⟨vR, h0, hR⟩ := h.base
  have h1 := h0.lt
  have h2 := h.lt7
  exact ⟨⟨vR, h0.grown (grown_set W g7 j u) (by omega) ((Below.heap_setCell W ⟨g7, j, none⟩ _ _ (by show g5 ≠ g7; omega)).trans h0.b5), Kd.R_far (p := ⟨g7, j, none⟩) hR (fun k hk => by show k ≠ g7; omega) u⟩, blk_put h.b7 j u hj, h.lt7, Kd.R_far (p := ⟨g7, j, none⟩) h.lab (fun k hk => by show k ≠ g7; omega) u⟩
theorem GL.app {w : World} {g g5 g7 : Nat} {vL vR v2 : Value} {labs : List S88} {rows rows2 : List S48} {was : S48} {l : List Int} {e : Int} {W W1 : World} (h : GL w g g5 g7 vL labs rows was l e W) (h0 : G0 w g g5 vL vR l e W) (hR : Kd.R k48 48 W w.heap.size (fun k => g7 < k) vR rows)
    (ho : Kd.R k48 48 W1 w.heap.size (fun k => g7 < k) v2 rows2) (hg : W.grownBy W1 vR.ownBlock) : GL w g g5 g7 vL labs rows2 was l e (W1.setCell ⟨g5, 1, none⟩ v2) := by
  have h1 := h0.lt
  have h2 := h.lt7
  have hlo := h0.dec.lo_le
  have ne : ∀ k, k ≤ g7 → some k ≠ vR.ownBlock := fun k hk e => by have := hR.1 k e.symm; omega
  have k2 : G0 w g g5 vL v2 l e (W1.setCell ⟨g5, 1, none⟩ v2) := by
    have hb5 := blk_put (blk_grown h0.b5 hg (ne _ (by omega))) 1 v2 rfl
    refine ⟨(Below.heap_setCell W1 ⟨g5, 1, none⟩ _ _ (by show w.heap.size ≠ g5; omega)).trans (blk_grown h0.b2 hg (ne _ (by omega))), h0.dec.step (fun i i1 i2 i3 => (Below.heap_setCell W1 ⟨g5, 1, none⟩ _ _ (by show i ≠ g5; omega)).trans (hg.block i i1 (ne _ (by omega)))), hb5, h1, ?_⟩
    exact (h0.below.grown hg h0.below.size (fun r e => by have := hR.1 r e; omega)).grown (grown_set W1 g5 1 v2) (Nat.le_trans h0.below.size hg.size) (fun r e => by cases e; omega)
  exact ⟨⟨v2, k2, Kd.R_far (p := ⟨g5, 1, none⟩) ho (fun k hk => by show k ≠ g5; omega) v2⟩, (Below.heap_setCell W1 ⟨g5, 1, none⟩ _ _ (by show g7 ≠ g5; omega)).trans (blk_grown h.b7 hg (ne _ (Nat.le_refl _))), h2,
    Kd.R_far (p := ⟨g5, 1, none⟩) (Kd.R_grown h.lab hg (fun k hk => ne _ (by omega))) (fun k hk => by show k ≠ g5; omega) v2⟩
def chunk_Get.T11 : Bool × List (List Nat × List Nat) := (true, [([], []), ([0], [0]), ([], []), ([2], [2]), ([1, 3], [1, 3]), ([0, 1, 2, 3, 4], []), ([5, 4, 3, 0, 1, 2, 3, 4], [4, 5])])
def chunk_Get.B11 : List Nat := [0, 1, 0, 4, 15, 31, 63]
theorem chunk_Get.tab11 : rtab .any (opsOf Tryd.f34 11) = chunk_Get.T11 := by kernel_rfl
theorem chunk_Get.bits11 : waitsOk chunk_Get.T11.2 chunk_Get.B11 = true := by kernel_rfl
def chunk_Get.T14 : Bool × List (List Nat × List Nat) := (true, [([], []), ([0], [0]), ([], []), ([2], [2]), ([1, 3], [1, 3]), ([0, 1, 2, 3, 4], []), ([5, 4, 3, 0, 1, 2, 3, 4], [4, 5])])
def chunk_Get.B14 : List Nat := [0, 1, 0, 4, 15, 31, 63]
theorem chunk_Get.tab14 : rtab .any (opsOf Tryd.f34 14) = chunk_Get.T14 := by kernel_rfl
theorem chunk_Get.bits14 : waitsOk chunk_Get.T14.2 chunk_Get.B14 = true := by kernel_rfl
set_option maxHeartbeats 8000000 in
set_option maxRecDepth 100000 in
theorem chunk_Get.calls (A0 : Option Addr) (c0 : Nat) (l0 : List Int) (w : World) (hr : Kd.C (Kd.int .u8) w A0 l0.length l0) (hc : l0.length ≤ c0) (hok : bytesOK l0) (hn : l0.length ≤ 140737488351232) (hG : Laid w) :
    Calls Tryd.prog 34 #[.slice A0 l0.length c0] w fun en w' => ∃ v0 v1, en = .returned (.tuple #[.agg #[v0, v1], .int .i64 (getS l0).2.2]) ∧ Kd.R k88 88 w' w.heap.size (fun _ => True) v0 (getS l0).1 ∧ Kd.R k48 48 w' w.heap.size (fun _ => True) v1 (getS l0).2.1 ∧ Below w.heap.size w w' := by
  obtain ⟨⟨rl, rr, re⟩, hres⟩ : ∃ r, getS l0 = r := ⟨_, rfl⟩
  rw [hres]
  have HRES := Aside0.mk hres
  clear hres
  have HCL : Aside0 (slices_Clone_byte_byte.f l0 = some l0) := ⟨by unfold slices_Clone_byte_byte.f; rw [if_pos (by omega)]⟩
  have HR := Aside0.mk hr
  have HC := Aside0.mk hc
  have HOK := Aside0.mk hok
  have HN := Aside0.mk hn
  have HGL := Aside0.mk hG
  obtain ⟨⟨s1, lt, et⟩, h1⟩ : ∃ r, getT l0 = r := ⟨_, rfl⟩
  have h1ok := textS_ok hok 0
  rw [show textS l0 0 = (s1, lt, et) from h1] at h1ok
  have H1ok := Aside0.mk h1ok
  have HS1 : Aside0 (s1.size ≤ 65536) := ⟨by have := textS_size l0 0; rw [show textS l0 0 = (s1, lt, et) from h1] at this; exact this⟩
  have HT1 : Aside0 (textS l0 0 = (s1, lt, et)) := ⟨h1⟩
  obtain ⟨⟨n, ln, en0⟩, h2⟩ : ∃ r, getN l0 = r := ⟨_, rfl⟩
  have h2' : numS lt et = (n, ln, en0) := by have : getN l0 = numS lt et := by unfold getN; rw [h1]
                                             rw [← this]; exact h2
  have h2ok := numS_ok h1ok.1 et
  rw [h2'] at h2ok
  have h2in := numS_in h1ok.1 et
  rw [h2'] at h2in
  have H2ok := Aside0.mk h2ok
  have HN0 : Aside0 (0 ≤ n) := ⟨h2in.1⟩
  have HT2 := Aside0.mk h2'
  obtain ⟨⟨labs, le⟩, h3⟩ : ∃ r, readS (bytesOf s1) = r := ⟨_, rfl⟩
  have HT3 := Aside0.mk h3
  have HGT : Aside0 (getL l0 = labs ∧ getT l0 = (s1, lt, et) ∧ getN l0 = (n, ln, en0)) := ⟨⟨by unfold getL; rw [h1, h3], h1, h2⟩⟩
  have HLL : Aside0 (labs.length ≤ 17) := ⟨by have := readS_len (bytesOf s1); rw [h3] at this; exact this⟩
  have kb := fun W => print_bytes (P := Tryd.prog) 9 56 5 Tryd.underlying9 Tryd.underlying56 Tryd.underlying5 s1 W
  obtain ⟨bl, hbl⟩ : ∃ b, bytesOf s1 = b := ⟨_, rfl⟩
  rw [show s1.size = bl.length from by rw [← hbl, bytesOf_length]] at kb
  have HBL := Aside0.mk hbl
  have HBK : Aside0 (bytesOK bl) := ⟨hbl ▸ bytesOf_ok s1⟩
  rw [hbl] at HT3
  have hu28 := Tryd.underlying28
  have hu48 := Tryd.underlying48
  have HB := Aside0.mk (below_alloc (Below.refl w.heap.size w) (.cells #[.slice none 0 0, .slice none 0 0] 28))
  have HB2 := Aside0.mk (heap_alloc_new w (.cells #[.slice none 0 0, .slice none 0 0] 28))
  clear hr hc hok hn hG h1 h1ok h2 h2' h2ok h2in h3 hbl
  go_enter Tryd.func34, Tryd.ntmps34
  go_wp2_with (first
    | (go_at_call 67; refine (new_calls A0 c0 l0 _ (Kd.C_below HR.out HB.out) HC.out HCL.out).mono ?_; rintro en w1 ⟨g, rfl, hd, hb⟩; have n0_ := Aside0.mk (below_step HB.out hb); have n1_ := Aside0.mk (blk_below HB2.out hb); have HD := Aside0.mk hd; clear HB HB2 hd hb; have HB := n0_; have HB2 := n1_; clear n0_ n1_)
    | (go_at_call 69; have HI : Aside0 (G0 w g w1.heap.size (.slice none 0 0) (.slice none 0 0) l0 0 (w1.alloc (.cells #[.slice none 0 0, .slice none 0 0] 28))) := ⟨⟨blk_alloc HB2.out _, (show Dec w1 (w.heap.size + 1) g l0 0 from (World.size_alloc w _) ▸ HD.out).below (below_alloc (Below.refl _ _) _) HD.out.lt, heap_alloc_new _ _, HD.out.lt, below_alloc HB.out _⟩⟩; clear HB HB2 HD; refine (textS_calls (w.heap.size + 1) g l0 0 _ HI.out.dec HOK.out (by have := HN.out; omega)).mono ?_; rw [HT1.out]; rintro en w3 ⟨rfl, hd, hk⟩; have n0_ := Aside0.mk (HI.out.go hd hk); clear HI hd hk; have HI := n0_; clear n0_; generalize w1.heap.size = g5 at HI ⊢)
    | (go_at_call 68; have hcc := conv_C w3 s1 (Nat.le_trans HS1.out (by omega)); rw [HBL.out] at hcc; have n0_ := Aside0.mk (HI.out.step (conv_step w3 s1)); clear HI; have HI := n0_; clear n0_; refine (read_calls _ _ bl _ hcc (grownCap_ge _ _ _ _) HBK.out (by have := HS1.out; have := HBL.out; rw [← this, bytesOf_length]; omega) (laid_below HGL.out HI.out.below)).mono ?_; rw [HT3.out]; rintro en w5 ⟨v5, rfl, ho, hb⟩; obtain ⟨A5, c5, rfl⟩ := Kd.R_slice ho; have HG5 := Aside0.mk (Array.getElem?_eq_some_iff.1 HI.out.b5).1; have HLB := Aside0.mk (Kd.R_lower (Kd.R_mono (ok' := fun k => g5 < k ∧ k < w5.heap.size) (Kd.R_bound ho) (fun k hk => ⟨by have := HG5.out; omega, hk.2.2.1⟩)) HI.out.below.size); have n0_ := Aside0.mk (HI.out.step hb); clear HI hb ho hcc HG5; have HI := n0_; clear n0_; have y50 : w5.cell? ⟨g5, 0, none⟩ = some (.slice none 0 0) := (blk_cell HI.out.b5 0).trans rfl; have z50 := blk_frozen HI.out.b5 0)
    | (go_at_call 70; have n0_ : Aside0 (G0 w g g5 (.slice A5 labs.length c5) (.slice none 0 0) lt et (w5.setCell ⟨g5, 0, none⟩ (.slice A5 labs.length c5))) := ⟨HI.out.grown (grown_set w5 g5 0 _) HI.out.lt (blk_put HI.out.b5 0 (.slice A5 labs.length c5) rfl)⟩; have n1_ := Aside0.mk (Kd.R_far (p := ⟨g5, 0, none⟩) HLB.out (fun k hk => Nat.ne_of_gt hk.1) (.slice A5 labs.length c5)); clear HI HLB y50 z50; have HI := n0_; have HLB := n1_; clear n0_ n1_; refine (numS_calls (w.heap.size + 1) g lt et _ HI.out.dec H1ok.out.1 (by have := H1ok.out.2; have := HN.out; omega)).mono ?_; rw [HT2.out]; rintro en w6 ⟨rfl, hd, hk⟩; have n0_ := Aside0.mk (HI.out.go hd hk); have n1_ := Aside0.mk (Kd.R_step HLB.out (fun k h1 h2 => hk.block k h2 (by have := HI.out.lt; show k ≠ g; omega))); clear HI HLB hd hk; have HI := n0_; have HLB := n1_; clear n0_ n1_; have y20 : w6.cell? ⟨w.heap.size, 0, none⟩ = some (.slice none 0 0) := (blk_cell HI.out.b2 0).trans rfl; have y21 : w6.cell? ⟨w.heap.size, 1, none⟩ = some (.slice none 0 0) := (blk_cell HI.out.b2 1).trans rfl; have z20 := blk_frozen HI.out.b2 0; have z21 := blk_frozen HI.out.b2 1)
    | fail)
  · rename_i hbig
    have hres := HRES.out
    unfold getS at hres
    rw [HGT.out.2.2, if_pos hbig] at hres
    simp only [Prod.mk.injEq] at hres
    obtain ⟨rfl, rfl, rfl⟩ := hres
    have hblk := blk_put (blk_put HI.out.b2 0 (.slice none 0 0) rfl) 1 (.slice none 0 0) rfl
    have hb2 := (HI.out.below.grown (grown_set w6 w.heap.size 0 (.slice none 0 0)) HI.out.below.size (fun r e => by cases e; exact Nat.le_refl _)).grown (grown_set _ w.heap.size 1 (.slice none 0 0)) (Nat.le_trans HI.out.below.size (grown_set w6 w.heap.size 0 (.slice none 0 0)).size) (fun r e => by cases e; exact Nat.le_refl _)
    have HB9 := Aside0.mk hb2
    clear hb2 y20 y21 z20 z21 kb
    generalize (w6.setCell ⟨w.heap.size, 0, none⟩ (.slice none 0 0)).setCell ⟨w.heap.size, 1, none⟩ (.slice none 0 0) = w9 at hblk HB9 ⊢
    have x0 : w9.cell? ⟨w.heap.size, 0, none⟩ = some (.slice none 0 0) := (blk_cell hblk 0).trans rfl
    have x1 : w9.cell? ⟨w.heap.size, 1, none⟩ = some (.slice none 0 0) := (blk_cell hblk 1).trans rfl
    clear hblk
    refine bodyPost_ret (v := .tuple #[.agg #[.slice none 0 0, .slice none 0 0], .int .i64 21]) (by simp [results, Tryd.results34, go_sem, x0, x1]) rfl ?_
    exact ⟨_, _, rfl, Kd.R_nil _ _ _ _ _, Kd.R_nil _ _ _ _ _, HB9.out⟩
  · have hn1000 : n ≤ 1000 := by omega
    obtain ⟨N, rfl⟩ : ∃ N : Nat, n = (N : Int) := ⟨n.toNat, by have := HN0.out; omega⟩
    have HN1000 : Aside0 (N ≤ 1000) := ⟨by omega⟩
    have HL0 : Aside0 (GL w g g5 w6.heap.size (.slice A5 labs.length c5) labs [] z48 ln en0 (w6.alloc (.cells (rowC z48) 48))) :=
      ⟨⟨_, HI.out.step (below_alloc (Below.refl _ _) _), Kd.R_nil _ _ _ _ _⟩, heap_alloc_new _ _, (Array.getElem?_eq_some_iff.1 HI.out.b5).1, Kd.R_alloc (Kd.R_mono (Kd.R_bound HLB.out) (fun k hk => ⟨hk.1.1, hk.2.2.1⟩)) _⟩
    clear hn1000 y20 y21 z20 z21 kb
    generalize w6.heap.size = g7 at HL0 ⊢
    clear HI HLB
    go_loopg [8, 25] N (fun kq v8 v25 w' => ∃ i : Nat, kq + i = N ∧ v25 = .int .i64 i ∧ Aside0 (GL w g g5 g7 (.slice A5 labs.length c5) labs (rowsS ln en0 i).rows (rowsS ln en0 i).was (rowsS ln en0 i).l (rowsS ln en0 i).e w'))
    case atStart => exact ⟨0, rfl, rfl, HL0⟩
    case round =>
      clear HL0
      obtain ⟨i, hi, rfl, HI⟩ := hrel
      have HIN : Aside0 (i ≤ N) := ⟨by omega⟩
      have HSL := Aside0.mk (rowsS_len ln en0 i)
      have HSO := Aside0.mk (rowsS_ok H2ok.out.1 en0 i)
      have HST := Aside0.mk (@rowsS_stop ln en0 (i + 1))
      have HSN : Aside0 (rowsS ln en0 (i + 1) = nextR i (rowsS ln en0 i)) := ⟨rfl⟩
      have HSE : Aside0 (i = N → getR l0 = rowsS ln en0 i) := ⟨fun h => by unfold getR; rw [HGT.out.2.2, h]; rfl⟩
      generalize hss : rowsS ln en0 i = s at HI HSL HSO HSN HSE
      have HSS := Aside0.mk hss
      clear hss
      by_cases hlt : i < N
      · obtain ⟨k1, rfl⟩ : ∃ k1, gk = k1 + 1 := ⟨gk - 1, by omega⟩
        have hq : (i : Int) < (N : Int) := by omega
        have HLT := Aside0.mk hlt
        have HOKS := Aside0.mk (nextR_ok (i := i) HSO.out.1)
        have HLN : Aside0 (s.l.length ≤ 140737488351232) := ⟨by have := HSO.out.2; have := H2ok.out.2; have := H1ok.out.2; have := HN.out; omega⟩
        clear hlt
        obtain ⟨rows, was, l, e⟩ := s
        dsimp only at HI HSL HSO HLN
        obtain ⟨⟨tm, lT, eT⟩, hT⟩ : ∃ r, rowT ⟨rows, was, l, e⟩ = r := ⟨_, rfl⟩
        obtain ⟨⟨sq, lQ, eQ⟩, hQ⟩ : ∃ r, rowQ ⟨rows, was, l, e⟩ = r := ⟨_, rfl⟩
        obtain ⟨⟨tx, lX, eX⟩, hX⟩ : ∃ r, rowX ⟨rows, was, l, e⟩ = r := ⟨_, rfl⟩
        have HRN : Aside0 (nextR i ⟨rows, was, l, e⟩ = ⟨rows ++ [⟨if i = 0 then sq else wrap64 (was.f0 + unzig sq), wrap64 (was.f1 + tm), tx⟩], ⟨if i = 0 then sq else wrap64 (was.f0 + unzig sq), wrap64 (was.f1 + tm), tx⟩, lX, eX⟩) := ⟨by simp only [nextR, rowN, hT, hQ, hX]⟩
        have HT : Aside0 (numS l e = (tm, lT, eT)) := ⟨hT⟩
        have HQ : Aside0 (numS lT eT = (sq, lQ, eQ)) := ⟨by have := hQ; unfold rowQ at this; rw [hT] at this; exact this⟩
        have HX : Aside0 (textS lQ eQ = (tx, lX, eX)) := ⟨by have := hX; unfold rowX at this; rw [hQ] at this; exact this⟩
        rw [hT, hQ] at HOKS
        clear hT hQ hX
        dsimp only at HOKS
        go_wp2_with fail
        refine start_ (n := 7) (S := fun w' => w'.cell? ⟨g7, 1, none⟩ = some (.int .i64 was.f1)) (ds := [6]) #[false, false, false, false, false, false, false] (by kernel_rfl) rfl rfl ((blk_cell HI.out.drew.b7 1).trans rfl) (fun hHeld => ?_); refine with_tabW chunk_Get.tab11 chunk_Get.bits11 (fun HT_ HW_ => ?_)
        have n0_ := Aside0.mk HI.out.drew
        clear HI
        have HI := n0_
        clear n0_
        generalize wr.drew = wd at HI hHeld ⊢
        refine pu_ 0 (some 28) (bs 7 1) ?_
        refine tk_ 1 (some 29) (bs 7 3) ?_
        refine pu_ 2 (some 30) (bs 7 7) ?_
        refine one_ (i := 3) (N := (some 31)) (bs 7 15) rfl rfl (one_of HT_.out (by kernel_rfl)) (by decide) (fun K hK => ?_)
        refine goes_ Tryd.func70 (by kernel_rfl) rfl #[.pointer (some ⟨g, 0, none⟩)] (by rfl) rfl rfl (by (try simp only [List.map_toArray, List.map_cons, List.map_nil]); first | done | rfl | (simp only [List.length_drop, List.length_take]; rfl)) ?_
        refine (numS_calls (w.heap.size + 1) g l e _ HI.out.dec HSO.out.1 (by have := HLN.out; omega)).mono ?_
        rw [HT.out]
        rintro en w11 ⟨rfl, hd, hk⟩
        refine ⟨_, rfl, ?_⟩
        have n0_ := Aside0.mk (HI.out.go hd hk)
        clear HI hd hk
        have HI := n0_
        clear n0_
        refine hK.out _ _ ((blk_cell HI.out.b7 1).trans rfl) (fun hHeld => ?_)
        clear hK K
        refine pt_ ?_
        refine pu_ 4 (some 32) (bs 7 31) ?_
        refine pu_ 5 (some 33) (bs 7 63) ?_
        refine last_ (i := 6) (N := none) (bs 7 127) rfl rfl (one_of HT_.out (by kernel_rfl)) (by decide) (fun K hK => ?_)
        have y71 : w11.cell? ⟨g7, 1, none⟩ = some (.int .i64 was.f1) := (blk_cell HI.out.b7 1).trans rfl
        have z71 := blk_frozen HI.out.b7 1
        refine skip_ (w1 := ?_) (by rfl) rfl ?_ ?_
        rotate_left
        · go_simp
          rfl
        refine hK.out _ _ ?_
        clear hK K
        refine done_ (done_of HT_.out (by kernel_rfl)) ?_
        have n0_ := Aside0.mk (HI.out.set (j := 1) (u := .int .i64 (wrap64 (was.f1 + tm))) (was2 := ⟨was.f0, wrap64 (was.f1 + tm), was.f2⟩) rfl)
        clear HI y71 z71
        have HI := n0_
        clear n0_
        generalize w11.setCell ⟨g7, 1, none⟩ (.int .i64 (wrap64 (was.f1 + tm))) = w12 at HI ⊢
        generalize htmv : wrap64 (was.f1 + tm) = tv at HI HRN ⊢
        clear htmv
        -- the row's number, by either road
        have HNX : Aside0 (∃ sv, sv = (if i = 0 then sq else wrap64 (was.f0 + unzig sq))) := ⟨⟨_, rfl⟩⟩
        obtain ⟨sv, hsv⟩ := HNX.out
        rw [← hsv] at HRN
        have HSV := Aside0.mk hsv
        clear hsv HNX
        by_cases hi0 : i = 0
        case' pos =>
          have HSQ : Aside0 (sv = sq) := ⟨by rw [HSV.out, if_pos hi0]⟩
          have hb0 : decide ((i : Int) = 0) = true := decide_eq_true (by omega)
          have hb1 : ((i : Int) == 0) = true := by simpa using hi0
          clear hi0
          have y70 : w12.cell? ⟨g7, 0, none⟩ = some (.int .i64 was.f0) := (blk_cell HI.out.b7 0).trans rfl
          go_wp2_with (go_at_call 70; refine (numS_calls (w.heap.size + 1) g lT eT _ HI.out.dec HOKS.out.1 (by have := HOKS.out.2.2.2.1; have := HLN.out; omega)).mono ?_; rw [HQ.out]; rintro en w13 ⟨rfl, hd, hk⟩; have n0_ := Aside0.mk (HI.out.go hd hk); clear HI hd hk y70; have HI := n0_; clear n0_; have y70 : w13.cell? ⟨g7, 0, none⟩ = some (.int .i64 was.f0) := (blk_cell HI.out.b7 0).trans rfl; have z70 := blk_frozen HI.out.b7 0)
          have hsq := HSQ.out
          subst hsq
          have n0_ := Aside0.mk (HI.out.set (j := 0) (u := .int .i64 sv) (was2 := ⟨sv, tv, was.f2⟩) rfl)
          clear HI y70 z70 hb0 hb1
          have HI := n0_
          clear n0_
          generalize w13.setCell ⟨g7, 0, none⟩ (.int .i64 sv) = wq at HI ⊢
        case' neg =>
          have HSQ : Aside0 (sv = wrap64 (was.f0 + unzig sq)) := ⟨by rw [HSV.out, if_neg hi0]⟩
          have hb0 : decide ((i : Int) = 0) = false := decide_eq_false (by omega)
          have hb1 : ((i : Int) == 0) = false := by simpa using hi0
          clear hi0
          go_wp2_with fail
          refine start_ (n := 7) (S := fun w' => w'.cell? ⟨g7, 0, none⟩ = some (.int .i64 was.f0)) (ds := [6]) #[false, false, false, false, false, false, false] (by kernel_rfl) rfl rfl ((blk_cell HI.out.drew.b7 0).trans rfl) (fun hHeld => ?_); refine with_tabW chunk_Get.tab14 chunk_Get.bits14 (fun HT_ HW_ => ?_)
          have n0_ := Aside0.mk HI.out.drew
          clear HI hb0 hb1
          have HI := n0_
          clear n0_
          generalize w12.drew = wd2 at HI hHeld ⊢
          refine pu_ 0 (some 39) (bs 7 1) ?_
          refine tk_ 1 (some 40) (bs 7 3) ?_
          refine pu_ 2 (some 41) (bs 7 7) ?_
          refine one_ (i := 3) (N := (some 42)) (bs 7 15) rfl rfl (one_of HT_.out (by kernel_rfl)) (by decide) (fun K hK => ?_)
          refine goes_ Tryd.func71 (by kernel_rfl) rfl #[.pointer (some ⟨g, 0, none⟩)] (by rfl) rfl rfl (by (try simp only [List.map_toArray, List.map_cons, List.map_nil]); first | done | rfl | (simp only [List.length_drop, List.length_take]; rfl)) ?_
          refine (signed_calls (w.heap.size + 1) g lT eT sq lQ eQ _ HI.out.dec (by rw [numD_is HOKS.out.1 (by have := HOKS.out.2.2.2.1; have := HLN.out; omega), HQ.out])).mono ?_
          rintro en w13 ⟨rfl, hd, hk⟩
          refine ⟨_, rfl, ?_⟩
          have n0_ := Aside0.mk (HI.out.go hd hk)
          clear HI hd hk
          have HI := n0_
          clear n0_
          refine hK.out _ _ ((blk_cell HI.out.b7 0).trans rfl) (fun hHeld => ?_)
          clear hK K
          refine pt_ ?_
          refine pu_ 4 (some 43) (bs 7 31) ?_
          refine pu_ 5 (some 44) (bs 7 63) ?_
          refine last_ (i := 6) (N := none) (bs 7 127) rfl rfl (one_of HT_.out (by kernel_rfl)) (by decide) (fun K hK => ?_)
          have y70 : w13.cell? ⟨g7, 0, none⟩ = some (.int .i64 was.f0) := (blk_cell HI.out.b7 0).trans rfl
          have z70 := blk_frozen HI.out.b7 0
          refine skip_ (w1 := ?_) (by rfl) rfl ?_ ?_
          rotate_left
          · go_simp
            rfl
          refine hK.out _ _ ?_
          clear hK K
          refine done_ (done_of HT_.out (by kernel_rfl)) ?_
          rw [← HSQ.out]
          have n0_ := Aside0.mk (HI.out.set (j := 0) (u := .int .i64 sv) (was2 := ⟨sv, tv, was.f2⟩) rfl)
          clear HI y70 z70
          have HI := n0_
          clear n0_
          generalize w13.setCell ⟨g7, 0, none⟩ (.int .i64 sv) = wq at HI ⊢
          go_wp2_with fail
        all_goals
          refine (textS_calls (w.heap.size + 1) g lQ eQ _ HI.out.dec HOKS.out.2.1 (by have := HOKS.out.2.2.2.2.1; have := HLN.out; omega)).mono ?_
          rw [HX.out]
          rintro en w15 ⟨rfl, hd, hk⟩
          have n0_ := Aside0.mk (HI.out.go hd hk)
          clear HI hd hk
          have HI := n0_
          clear n0_
          have y72 : w15.cell? ⟨g7, 2, none⟩ = some (.string was.f2) := (blk_cell HI.out.b7 2).trans rfl
          have z72 := blk_frozen HI.out.b7 2
          by_cases heX : eX = 0
          case' pos =>
            subst heX
            go_wp2_with (first
              | (go_at_call 72; have n0_ := Aside0.mk (HI.out.set (j := 2) (u := .string tx) (was2 := ⟨sv, tv, tx⟩) rfl); clear HI y72 z72; have HI := n0_; clear n0_; generalize w15.setCell ⟨g7, 2, none⟩ (.string tx) = w16 at HI ⊢; obtain ⟨vR, h0, hR⟩ := HI.out.base; obtain ⟨A8, c8, rfl⟩ := Kd.R_slice hR; have H0 := Aside0.mk h0; have HRR := Aside0.mk hR; clear h0 hR; have y51 : w16.cell? ⟨g5, 1, none⟩ = some (.slice A8 rows.length c8) := (blk_cell H0.out.b5 1).trans rfl; have x0 : w16.cell? ⟨g7, 0, none⟩ = some (.int .i64 sv) := (blk_cell HI.out.b7 0).trans rfl; have x1 : w16.cell? ⟨g7, 1, none⟩ = some (.int .i64 tv) := (blk_cell HI.out.b7 1).trans rfl; have x2 : w16.cell? ⟨g7, 2, none⟩ = some (.string tx) := (blk_cell HI.out.b7 2).trans rfl; refine (err_calls (w.heap.size + 1) g lX 0 _ HI.out.dec).mono ?_; rintro en w' ⟨rfl, rfl⟩)
              | ((with_reducible refine gate_builtin (b := .append) (xs := #[.tmp 52, .tmp 54]) rfl ?_); at_builtin; refine Kd.R_append k48 (w0 := w16) w.heap.size rfl (.tmp 52) (.tmp 54) 26 48 (.agg #[(.int .i64 0), (.int .i64 0), (.string ⟨#[]⟩)]) 32 rfl Tryd.underlying26 info48 rfl (by decide) (by omega) (.slice A8 rows.length c8) rows (⟨sv, tv, tx⟩ : S48) [.int .i64 sv, .int .i64 tv, .string tx] (fun k => g7 < k) (fun _ => False) rfl rfl (k48_mkM _ _ _ _) (fun _ h => h.elim) ?aF ?aO ?aB ?aS ?aL ?_; (case aF => exact fun k hk => Nat.lt_of_lt_of_le (Array.getElem?_eq_some_iff.1 HI.out.b7).1 hk); (case aO => exact HRR.out); (case aB => exact Below.refl _ _); (case aS => exact H0.out.below.size); (case aL => have := HSL.out; have := HIN.out; have := HN1000.out; omega); intro v17 w17 ho hb hg hat; obtain ⟨A17, c17, rfl⟩ := Kd.R_slice ho; have n0_ := Aside0.mk (HI.out.app H0.out HRR.out ho hg); have hb5 := blk_grown H0.out.b5 hg (fun e => by have := HRR.out.1 _ e.symm; have := HI.out.lt7; omega); have y51 : w17.cell? ⟨g5, 1, none⟩ = some (.slice A8 rows.length c8) := (blk_cell hb5 1).trans rfl; have z51 := blk_frozen hb5 1; clear HI ho hb hg hat hb5 H0 HRR; have HI := n0_; clear n0_)
              | fail)
            go_roundg k1
            case measure => omega
            case rel =>
              have h2 := HI.out
              simp only [List.length_append, List.length_cons, List.length_nil, Nat.zero_add] at h2
              exact ⟨i + 1, by omega, rfl, by rw [HSN.out, HRN.out]; exact ⟨h2⟩⟩
          case' neg =>
            have hres := HRES.out
            unfold getS at hres
            have hst := HST.out (by rw [HSN.out, HRN.out]; exact heX) (N - (i + 1))
            rw [HSN.out, HRN.out, show i + 1 + (N - (i + 1)) = N from by have := HLT.out; omega] at hst
            have hgr : getR l0 = rowsS ln en0 N := by unfold getR; rw [HGT.out.2.2]; rfl
            rw [HGT.out.2.2, if_neg (by have := HN1000.out; dsimp only; omega), hgr, hst.1, hst.2, if_pos (.inl (by show doneR lX eX ≠ 0; unfold doneR; rw [if_pos heX]; exact heX))] at hres
            simp only [Prod.mk.injEq] at hres
            obtain ⟨rfl, rfl, rfl⟩ := hres
            have HDD : Aside0 (doneR lX eX = eX) := ⟨by unfold doneR; rw [if_pos heX]⟩
            clear hst hgr
            go_wp2_with (first
              | (go_at_call 72; have n0_ := Aside0.mk (HI.out.set (j := 2) (u := .string tx) (was2 := ⟨sv, tv, tx⟩) rfl); clear HI y72 z72; have HI := n0_; clear n0_; generalize w15.setCell ⟨g7, 2, none⟩ (.string tx) = w16 at HI ⊢; obtain ⟨vR, h0, hR⟩ := HI.out.base; have HB2 := Aside0.mk h0.b2; have HBL9 := Aside0.mk h0.below; have y20 : w16.cell? ⟨w.heap.size, 0, none⟩ = some (.slice none 0 0) := (blk_cell HB2.out 0).trans rfl; have y21 : w16.cell? ⟨w.heap.size, 1, none⟩ = some (.slice none 0 0) := (blk_cell HB2.out 1).trans rfl; have z20 := blk_frozen HB2.out 0; have z21 := blk_frozen HB2.out 1; clear h0 hR; refine (err_calls (w.heap.size + 1) g lX eX _ HI.out.dec).mono ?_; rintro en w' ⟨rfl, rfl⟩)
              | (go_at_call 73; refine (done_calls (w.heap.size + 1) g lX eX _ HI.out.dec).mono ?_; rw [HDD.out]; rintro en w' ⟨rfl, rfl⟩)
              | fail)
            have hblk := blk_put (blk_put HB2.out 0 (.slice none 0 0) rfl) 1 (.slice none 0 0) rfl
            have HB9 := Aside0.mk ((HBL9.out.grown (grown_set w16 w.heap.size 0 (.slice none 0 0)) HBL9.out.size (fun r e => by cases e; exact Nat.le_refl _)).grown (grown_set _ w.heap.size 1 (.slice none 0 0)) (Nat.le_trans HBL9.out.size (grown_set w16 w.heap.size 0 (.slice none 0 0)).size) (fun r e => by cases e; exact Nat.le_refl _))
            clear y20 y21 z20 z21
            generalize (w16.setCell ⟨w.heap.size, 0, none⟩ (.slice none 0 0)).setCell ⟨w.heap.size, 1, none⟩ (.slice none 0 0) = w29 at hblk HB9 ⊢
            have x20 : w29.cell? ⟨w.heap.size, 0, none⟩ = some (.slice none 0 0) := (blk_cell hblk 0).trans rfl
            have x21 : w29.cell? ⟨w.heap.size, 1, none⟩ = some (.slice none 0 0) := (blk_cell hblk 1).trans rfl
            clear hblk
            refine bodyPost_ret (v := .tuple #[.agg #[.slice none 0 0, .slice none 0 0], .int .i64 21]) (by simp [results, Tryd.results34, go_sem, x20, x21]) rfl ?_
            exact ⟨_, _, rfl, Kd.R_nil _ _ _ _ _, Kd.R_nil _ _ _ _ _, HB9.out⟩
      · have hiN : i = N := by omega
        have hge : ¬ (i : Int) < (N : Int) := by omega
        have hres := HRES.out
        unfold getS at hres
        rw [HGT.out.2.2, if_neg (by have := HN1000.out; dsimp only; omega), HGT.out.1, HSE.out hiN] at hres
        have hs64 : ∀ r ∈ s.rows, W64 r.f0 := by rw [← HSS.out]; exact rowsS_64 H2ok.out.1 en0 i
        have hsl : s.rows.length ≤ 1000 := by have := HSL.out; have := HN1000.out; omega
        have hfit : chunkFit labs s.rows := ⟨by have := HLL.out; omega, by omega, hs64⟩
        have HRT := Aside0.mk (right4_is hfit)
        clear HSN HST HSE HSS hs64 hfit hsl
        obtain ⟨rows, was, l, e⟩ := s
        dsimp only at HI HSL HSO HRT hres
        obtain ⟨vR, h0, hR⟩ := HI.out.base; have HB2 := Aside0.mk h0.b2; have HBL9 := Aside0.mk h0.below; have y20 : wr.cell? ⟨w.heap.size, 0, none⟩ = some (.slice none 0 0) := (blk_cell HB2.out 0).trans rfl; have y21 : wr.cell? ⟨w.heap.size, 1, none⟩ = some (.slice none 0 0) := (blk_cell HB2.out 1).trans rfl; have z20 := blk_frozen HB2.out 0; have z21 := blk_frozen HB2.out 1
        have HH0 := Aside0.mk h0
        obtain ⟨A8, c8, rfl⟩ := Kd.R_slice hR
        have HRR := Aside0.mk hR
        clear h0 hR
        have y50 : wr.cell? ⟨g5, 0, none⟩ = some (.slice A5 labs.length c5) := (blk_cell HH0.out.b5 0).trans rfl
        have y51 : wr.cell? ⟨g5, 1, none⟩ = some (.slice A8 rows.length c8) := (blk_cell HH0.out.b5 1).trans rfl
        by_cases hd : doneR l e = 0
        · have HDD := Aside0.mk hd
          cases hch : chunkR labs rows with
          | false =>
            rw [hch] at HRT
            rw [if_pos (.inr hch)] at hres
            simp only [Prod.mk.injEq] at hres
            obtain ⟨rfl, rfl, rfl⟩ := hres
            clear hd hch hge
            have hge : ¬ (i : Int) < (N : Int) := by omega
            go_wp2_with (first
              | (go_at_call 73; refine (done_calls (w.heap.size + 1) g l e _ HI.out.dec).mono ?_; rw [HDD.out]; rintro en w' ⟨rfl, rfl⟩)
              | (go_at_call 36; refine (chunk_Right.calls A5 c5 labs A8 c8 rows false _ (Kd.R_reads' HI.out.lab).2.2 (Kd.R_reads' HI.out.lab).2.1 (Kd.R_reads' HRR.out).2.2 (Kd.R_reads' HRR.out).2.1 (laid_below HGL.out HBL9.out) HRT.out).mono ?_; rintro en w21 ⟨rfl, hb⟩; have n0_ := Aside0.mk (blk_below HB2.out hb); have n1_ := Aside0.mk (below_step HBL9.out hb); clear HB2 HBL9 hb y20 y21 z20 z21; have HB2 := n0_; have HBL9 := n1_; clear n0_ n1_; have y20 : w21.cell? ⟨w.heap.size, 0, none⟩ = some (.slice none 0 0) := (blk_cell HB2.out 0).trans rfl; have y21 : w21.cell? ⟨w.heap.size, 1, none⟩ = some (.slice none 0 0) := (blk_cell HB2.out 1).trans rfl; have z20 := blk_frozen HB2.out 0; have z21 := blk_frozen HB2.out 1)
              | fail)
            have hblk := blk_put (blk_put HB2.out 0 (.slice none 0 0) rfl) 1 (.slice none 0 0) rfl
            have HB9 := Aside0.mk ((HBL9.out.grown (grown_set w21 w.heap.size 0 (.slice none 0 0)) HBL9.out.size (fun r e => by cases e; exact Nat.le_refl _)).grown (grown_set _ w.heap.size 1 (.slice none 0 0)) (Nat.le_trans HBL9.out.size (grown_set w21 w.heap.size 0 (.slice none 0 0)).size) (fun r e => by cases e; exact Nat.le_refl _))
            clear y20 y21 z20 z21
            generalize (w21.setCell ⟨w.heap.size, 0, none⟩ (.slice none 0 0)).setCell ⟨w.heap.size, 1, none⟩ (.slice none 0 0) = w29 at hblk HB9 ⊢
            have x20 : w29.cell? ⟨w.heap.size, 0, none⟩ = some (.slice none 0 0) := (blk_cell hblk 0).trans rfl
            have x21 : w29.cell? ⟨w.heap.size, 1, none⟩ = some (.slice none 0 0) := (blk_cell hblk 1).trans rfl
            clear hblk
            refine bodyPost_ret (v := .tuple #[.agg #[.slice none 0 0, .slice none 0 0], .int .i64 21]) (by simp [results, Tryd.results34, go_sem, x20, x21]) rfl ?_
            exact ⟨_, _, rfl, Kd.R_nil _ _ _ _ _, Kd.R_nil _ _ _ _ _, HB9.out⟩
          | true =>
            rw [hch] at HRT
            rw [if_neg (by rw [hd, hch]; simp)] at hres
            simp only [Prod.mk.injEq] at hres
            obtain ⟨rfl, rfl, rfl⟩ := hres
            clear hd hch
            go_wp2_with (first
              | (go_at_call 73; refine (done_calls (w.heap.size + 1) g l e _ HI.out.dec).mono ?_; rw [HDD.out]; rintro en w' ⟨rfl, rfl⟩)
              | (go_at_call 36; refine (chunk_Right.calls A5 c5 labs A8 c8 rows true _ (Kd.R_reads' HI.out.lab).2.2 (Kd.R_reads' HI.out.lab).2.1 (Kd.R_reads' HRR.out).2.2 (Kd.R_reads' HRR.out).2.1 (laid_below HGL.out HBL9.out) HRT.out).mono ?_; rintro en w21 ⟨rfl, hb⟩; have n0_ := Aside0.mk (HH0.out.step hb); have n1_ := Aside0.mk (Kd.R_below HI.out.lab hb); have n2_ := Aside0.mk (Kd.R_below HRR.out hb); have HLT7 := Aside0.mk HI.out.lt7; clear HB2 HBL9 hb y20 y21 z20 z21 y50 y51 HH0 HI HRR; have HH0 := n0_; have HLB := n1_; have HRR := n2_; clear n0_ n1_ n2_; have HB2 := Aside0.mk HH0.out.b2; have HBL9 := Aside0.mk HH0.out.below; have y20 : w21.cell? ⟨w.heap.size, 0, none⟩ = some (.slice none 0 0) := (blk_cell HB2.out 0).trans rfl; have y21 : w21.cell? ⟨w.heap.size, 1, none⟩ = some (.slice none 0 0) := (blk_cell HB2.out 1).trans rfl; have z20 := blk_frozen HB2.out 0; have z21 := blk_frozen HB2.out 1; have y50 : w21.cell? ⟨g5, 0, none⟩ = some (.slice A5 labs.length c5) := (blk_cell HH0.out.b5 0).trans rfl; have y51 : w21.cell? ⟨g5, 1, none⟩ = some (.slice A8 rows.length c8) := (blk_cell HH0.out.b5 1).trans rfl)
              | fail)
            have hblk := blk_put (blk_put HB2.out 0 (.slice A5 labs.length c5) rfl) 1 (.slice A8 rows.length c8) rfl
            have HB9 := Aside0.mk ((HBL9.out.grown (grown_set w21 w.heap.size 0 (.slice A5 labs.length c5)) HBL9.out.size (fun r e => by cases e; exact Nat.le_refl _)).grown (grown_set _ w.heap.size 1 (.slice A8 rows.length c8)) (Nat.le_trans HBL9.out.size (grown_set w21 w.heap.size 0 (.slice A5 labs.length c5)).size) (fun r e => by cases e; exact Nat.le_refl _))
            have hlo := HH0.out.dec.lo_le
            have hlt := HH0.out.lt
            have hlt7 := HLT7.out
            have HLB9 := Aside0.mk (Kd.R_far (p := ⟨w.heap.size, 1, none⟩) (Kd.R_far (p := ⟨w.heap.size, 0, none⟩) HLB.out (fun k hk => by show k ≠ w.heap.size; omega) (.slice A5 labs.length c5)) (fun k hk => by show k ≠ w.heap.size; omega) (.slice A8 rows.length c8))
            have HRR9 := Aside0.mk (Kd.R_far (p := ⟨w.heap.size, 1, none⟩) (Kd.R_far (p := ⟨w.heap.size, 0, none⟩) HRR.out (fun k hk => by show k ≠ w.heap.size; omega) (.slice A5 labs.length c5)) (fun k hk => by show k ≠ w.heap.size; omega) (.slice A8 rows.length c8))
            clear y20 y21 z20 z21 y50 y51 hlo hlt hlt7
            generalize (w21.setCell ⟨w.heap.size, 0, none⟩ (.slice A5 labs.length c5)).setCell ⟨w.heap.size, 1, none⟩ (.slice A8 rows.length c8) = w29 at hblk HB9 HLB9 HRR9 ⊢
            have x20 : w29.cell? ⟨w.heap.size, 0, none⟩ = some (.slice A5 labs.length c5) := (blk_cell hblk 0).trans rfl
            have x21 : w29.cell? ⟨w.heap.size, 1, none⟩ = some (.slice A8 rows.length c8) := (blk_cell hblk 1).trans rfl
            clear hblk
            refine bodyPost_ret (v := .tuple #[.agg #[.slice A5 labs.length c5, .slice A8 rows.length c8], .int .i64 0]) (by simp [results, Tryd.results34, go_sem, x20, x21]) rfl ?_
            exact ⟨_, _, rfl, Kd.R_mono HLB9.out (fun _ _ => trivial), Kd.R_mono HRR9.out (fun _ _ => trivial), HB9.out⟩
        · rw [if_pos (.inl hd)] at hres
          simp only [Prod.mk.injEq] at hres
          obtain ⟨rfl, rfl, rfl⟩ := hres
          generalize hdd : doneR l e = dd at hd
          have HDD := Aside0.mk hdd
          clear hdd
          go_wp2_with (first
            | (go_at_call 73; refine (done_calls (w.heap.size + 1) g l e _ HI.out.dec).mono ?_; rw [HDD.out]; rintro en w' ⟨rfl, rfl⟩)
            | fail)
          have hblk := blk_put (blk_put HB2.out 0 (.slice none 0 0) rfl) 1 (.slice none 0 0) rfl
          have HB9 := Aside0.mk ((HBL9.out.grown (grown_set wr w.heap.size 0 (.slice none 0 0)) HBL9.out.size (fun r e => by cases e; exact Nat.le_refl _)).grown (grown_set _ w.heap.size 1 (.slice none 0 0)) (Nat.le_trans HBL9.out.size (grown_set wr w.heap.size 0 (.slice none 0 0)).size) (fun r e => by cases e; exact Nat.le_refl _))
          clear y20 y21 z20 z21
          generalize (wr.setCell ⟨w.heap.size, 0, none⟩ (.slice none 0 0)).setCell ⟨w.heap.size, 1, none⟩ (.slice none 0 0) = w29 at hblk HB9 ⊢
          have x20 : w29.cell? ⟨w.heap.size, 0, none⟩ = some (.slice none 0 0) := (blk_cell hblk 0).trans rfl
          have x21 : w29.cell? ⟨w.heap.size, 1, none⟩ = some (.slice none 0 0) := (blk_cell hblk 1).trans rfl
          clear hblk
          refine bodyPost_ret (v := .tuple #[.agg #[.slice none 0 0, .slice none 0 0], .int .i64 21]) (by simp [results, Tryd.results34, go_sem, x20, x21]) rfl ?_
          exact ⟨_, _, rfl, Kd.R_nil _ _ _ _ _, Kd.R_nil _ _ _ _ _, HB9.out⟩
end Go.Proofs.YtkbmmgpdnienfaaDoor.P
