/- Part 21 of the proof of chunkBack_card: its words, walks and plain laws, one text behind the other. -/
import Derived.Outline
import Derived.Test.YtkbmmgpdnienfaaDoorK912
import Derived.Test.YtkbmmgpdnienfaaDoorK96
import Derived.Test.YtkbmmgpdnienfaaDoorK920
import Derived.Test.YtkbmmgpdnienfaaDoorK918
import Derived.Test.YtkbmmgpdnienfaaDoorK911
set_option linter.unusedVariables false
set_option linter.unusedSimpArgs false
namespace Go.Proofs.YtkbmmgpdnienfaaDoor.P
open Go.RowKit Go.Proofs.YtkbmmgpdnienfaaDoorW.PrintWords Go.Proofs.YtkbmmgpdnienfaaDoorW.PrintLast Go.Proofs.YtkbmmgpdnienfaaDoorW.PrintMore
attribute [local go_sem] Oper.semAt_some
instance (x : Int) : Decidable (W64 x) := inferInstanceAs (Decidable (_ ∧ _))
theorem entry_is {l : List S88} (h : l.length < 4398046511104) (a b : Int) (c : ByteArray) : chunk_Row_entry.f a b c l = some (a, b, l, c) := by simp only [chunk_Row_entry.f, api_Label_52.f, if_pos h, Option.bind_some]
def seqs (xs : List S48) : List Int := xs.map (·.f0)
def rowOK (lab : List S88) (xs : List S48) (k : Nat) : Bool :=
  !((seqs (xs.take k)).contains (rd_T48 xs k).f0) && (rightE (rd_T48 xs k).f0 (rd_T48 xs k).f1 lab (rd_T48 xs k).f2 && !(beforeB (rd_T48 xs k).f0 (rd_T48 xs k).f1 (wasAt xs k).f0 (wasAt xs k).f1))
def rowsTo (lab : List S88) (xs : List S48) (k : Nat) : Bool := (List.range k).all (rowOK lab xs)
def chunkR (lab : List S88) (xs : List S48) : Bool := rowsTo lab xs xs.length && decide (1 ≤ xs.length) && decide (xs.length ≤ 1000)
def chunkFit (lab : List S88) (xs : List S48) : Prop := lab.length < 4398046511104 ∧ xs.length < 4398046511104 ∧ ∀ r ∈ xs, W64 r.f0
instance (lab : List S88) (xs : List S48) : Decidable (chunkFit lab xs) := inferInstanceAs (Decidable (_ ∧ _ ∧ _))
def chunk_Right.f (l0_0 : List S88) (l0_1 : List S48) : Option Bool := if chunkFit l0_0 l0_1 then some (chunkR l0_0 l0_1) else none
structure RInv (w : World) (A0 A1 : Option Addr) (c0 c1 : Nat) (lab : List S88) (xs : List S48) (k : Nat) (W : World) : Prop where
  b0 : W.heap[w.heap.size]? = some (.cells #[.slice A0 lab.length c0, .slice A1 xs.length c1] 28 (0, 0))
  b1 : W.heap[w.heap.size + 1]? = some (.cells #[.bool false] 4 (0, 0))
  set : IsSet W (w.heap.size + 1 + 1) (seqs (xs.take k))
  b3 : W.heap[w.heap.size + 1 + 1 + 1]? = some (.cells #[.map (some (w.heap.size + 1 + 1))] 78 (0, 0))
  ok : rowsTo lab xs k = true
  below : Below w.heap.size w W
structure RStop (w : World) (lab : List S88) (xs : List S48) (W : World) : Prop where
  b1 : W.heap[w.heap.size + 1]? = some (.cells #[.bool false] 4 (0, 0))
  no : chunkR lab xs = false
  below : Below w.heap.size w W
theorem RInv.grown {w : World} {A0 A1 : Option Addr} {c0 c1 : Nat} {lab : List S88} {xs : List S48} {k : Nat} {W W1 : World} {row : Option Nat} (h : RInv w A0 A1 c0 c1 lab xs k W) (hg : W.grownBy W1 row) (hr : ∀ r, row = some r → w.heap.size + 1 + 1 + 1 + 1 ≤ r) : RInv w A0 A1 c0 c1 lab xs k W1 := by
  have ne : ∀ i, i < w.heap.size + 1 + 1 + 1 + 1 → some i ≠ row := fun i hi e => by have := hr i e.symm; omega
  exact ⟨blk_grown h.b0 hg (ne _ (by omega)), blk_grown h.b1 hg (ne _ (by omega)), h.set.grown hg (ne _ (by omega)), blk_grown h.b3 hg (ne _ (by omega)), h.ok, h.below.grown hg h.below.size (fun r e => by have := hr r e; omega)⟩
theorem RStop.grown {w : World} {lab : List S88} {xs : List S48} {W W1 : World} {row : Option Nat} (h : RStop w lab xs W) (hg : W.grownBy W1 row) (hr : ∀ r, row = some r → w.heap.size + 1 + 1 + 1 + 1 ≤ r) : RStop w lab xs W1 :=
  ⟨blk_grown h.b1 hg (fun e => by have := hr _ e.symm; omega), h.no, h.below.grown hg h.below.size (fun r e => by have := hr r e; omega)⟩
def chunk_Right.T5 : Bool × List (List Nat × List Nat) := (true, [([], []), ([], []), ([1], [1]), ([0, 2], [0, 2]), ([3], [3]), ([4], [4]), ([4], [4]), ([6, 4], [4, 6]), ([5, 7, 4, 4], [4, 5, 7]), ([8, 8, 4], [4, 8]), ([9, 4], [4, 9]), ([4, 10], [4, 10]), ([11, 9], [11]), ([12], [12]), ([13, 12, 12], [12, 13]), ([12], [12]), ([15, 14, 12], [12, 15]), ([14, 16, 16, 12], [12, 14, 16]), ([12, 17], [12, 17])])
def chunk_Right.B5 : List Nat := [0, 0, 2, 7, 15, 31, 31, 95, 255, 511, 1023, 2047, 4095, 8191, 16383, 8191, 65535, 131071, 262143]
theorem chunk_Right.tab5 : rtab .any (opsOf Tryd.f36 5) = chunk_Right.T5 := by kernel_rfl
theorem chunk_Right.bits5 : waitsOk chunk_Right.T5.2 chunk_Right.B5 = true := by kernel_rfl
def RS (b g : Nat) (A0 : Option Addr) (c0 : Nat) (lab : List S88) (xs : List S48) (k : Nat) (met : Bool) (w' : World) : Prop :=
  w'.cell? ⟨b, 0, none⟩ = some (.slice A0 lab.length c0) ∧ w'.cell? ⟨b + 1 + 1 + 1, 0, none⟩ = some (.map (some (b + 1 + 1))) ∧
  (Instr.lookup 78 (.map (some (b + 1 + 1))) (.int .i64 (rd_T48 xs k).f0) false).run Tryd.prog w' = .ok (.bool met) w' ∧
  w'.cell? ⟨g, 0, none⟩ = some (.int .i64 (wasAt xs k).f0) ∧ w'.cell? ⟨g, 1, none⟩ = some (.int .i64 (wasAt xs k).f1) ∧ w'.cell? ⟨g, 2, none⟩ = some (.string (wasAt xs k).f2) ∧
  w'.cell? ⟨g + 1, 0, none⟩ = some (.int .i64 (rd_T48 xs k).f0) ∧ w'.cell? ⟨g + 1, 1, none⟩ = some (.int .i64 (rd_T48 xs k).f1) ∧ w'.cell? ⟨g + 1, 2, none⟩ = some (.string (rd_T48 xs k).f2)
structure RIn (w : World) (g : Nat) (A0 A1 : Option Addr) (c0 c1 : Nat) (lab : List S88) (xs : List S48) (k : Nat) (W : World) : Prop where
  inv : RInv w A0 A1 c0 c1 lab xs k W
  was : W.heap[g]? = some (.cells (rowC (wasAt xs k)) 48 (0, 0))
  row : W.heap[g + 1]? = some (.cells (rowC (rd_T48 xs k)) 48 (0, 0))
theorem RIn.rs {w : World} {g : Nat} {A0 A1 : Option Addr} {c0 c1 : Nat} {lab : List S88} {xs : List S48} {k : Nat} {W : World} (h : RIn w g A0 A1 c0 c1 lab xs k W) {met : Bool} (hx : W64 (rd_T48 xs k).f0) (hm : (seqs (xs.take k)).contains (rd_T48 xs k).f0 = met) : RS w.heap.size g A0 c0 lab xs k met W :=
  ⟨(blk_cell h.inv.b0 0).trans rfl, (blk_cell h.inv.b3 0).trans rfl, by rw [← hm]; exact h.inv.set.lookup _ hx, (blk_cell h.was 0).trans rfl, (blk_cell h.was 1).trans rfl, (blk_cell h.was 2).trans rfl, (blk_cell h.row 0).trans rfl, (blk_cell h.row 1).trans rfl, (blk_cell h.row 2).trans rfl⟩
theorem rd_mem48 (xs : List S48) (k : Nat) (h : k < xs.length) : rd_T48 xs k ∈ xs := by
  show xs.getD ((k : Int).toNat) _ ∈ xs
  rw [Int.toNat_natCast, List.getD_eq_getElem?_getD, List.getElem?_eq_getElem h]
  exact List.getElem_mem h
theorem take_snoc48 (xs : List S48) (k : Nat) (h : k < xs.length) : seqs (xs.take (k + 1)) = seqs (xs.take k) ++ [(rd_T48 xs k).f0] := by
  have e : rd_T48 xs k = xs[k] := by
    show xs.getD ((k : Int).toNat) _ = _
    rw [Int.toNat_natCast, List.getD_eq_getElem?_getD, List.getElem?_eq_getElem h]; rfl
  rw [e, List.take_succ_eq_append_getElem h, seqs, List.map_append]; rfl
theorem rowsTo_succ (lab : List S88) (xs : List S48) (k : Nat) : rowsTo lab xs (k + 1) = (rowsTo lab xs k && rowOK lab xs k) := by simp [rowsTo, List.range_succ]
theorem chunkR_no {lab : List S88} {xs : List S48} {k : Nat} (hk : k < xs.length) (h : rowOK lab xs k = false) : chunkR lab xs = false := by
  have : rowsTo lab xs xs.length = false := by
    unfold rowsTo
    rw [List.all_eq_false]
    exact ⟨k, by simpa using hk, by simp [h]⟩
  simp [chunkR, this]
theorem RInv.grown0 {w : World} {A0 A1 : Option Addr} {c0 c1 : Nat} {lab : List S88} {xs : List S48} {k : Nat} {W W1 : World} (h : RInv w A0 A1 c0 c1 lab xs k W) (hb : Below W.heap.size W W1) : RInv w A0 A1 c0 c1 lab xs k W1 :=
  h.grown (row := none) ⟨hb.os, hb.tape, hb.output, hb.size, fun i hi _ => hb.block i hi⟩ (by simp)
theorem RIn.below {w : World} {g : Nat} {A0 A1 : Option Addr} {c0 c1 : Nat} {lab : List S88} {xs : List S48} {k : Nat} {W W1 : World} (h : RIn w g A0 A1 c0 c1 lab xs k W) (hb : Below W.heap.size W W1) : RIn w g A0 A1 c0 c1 lab xs k W1 :=
  ⟨h.inv.grown0 hb, blk_below h.was hb, blk_below h.row hb⟩
theorem RIn.grown {w : World} {g : Nat} {A0 A1 : Option Addr} {c0 c1 : Nat} {lab : List S88} {xs : List S48} {k : Nat} {W W1 : World} {row : Option Nat} (h : RIn w g A0 A1 c0 c1 lab xs k W) (hg : W.grownBy W1 row) (hr : ∀ r, row = some r → w.heap.size + 1 + 1 + 1 + 1 ≤ r ∧ r < g) : RIn w g A0 A1 c0 c1 lab xs k W1 :=
  ⟨h.inv.grown hg (fun r e => (hr r e).1), blk_grown h.was hg (fun e => by have := hr _ e.symm; omega), blk_grown h.row hg (fun e => by have := hr _ e.symm; omega)⟩
set_option maxHeartbeats 4000000 in
set_option maxRecDepth 100000 in
theorem chunk_Right.calls (A0_0 : Option Addr) (c0_0 : Nat) (l0_0 : List S88) (A0_1 : Option Addr) (c0_1 : Nat) (l0_1 : List S48) (r : Bool) (w : World) (hr0_0 : Kd.C k88 w A0_0 l0_0.length l0_0) (hc0_0 : l0_0.length ≤ c0_0) (hr0_1 : Kd.C k48 w A0_1 l0_1.length l0_1) (hc0_1 : l0_1.length ≤ c0_1) (hG : Laid w) (h : chunk_Right.f l0_0 l0_1 = some r) :
    Calls Tryd.prog 36 #[.agg #[.slice A0_0 l0_0.length c0_0, .slice A0_1 l0_1.length c0_1]] w fun e w' => e = .returned (.bool r) ∧ Below w.heap.size w w' := by
  have hfit : chunkFit l0_0 l0_1 ∧ chunkR l0_0 l0_1 = r := by
    unfold chunk_Right.f at h
    by_cases hf : chunkFit l0_0 l0_1
    · rw [if_pos hf] at h; exact ⟨hf, Option.some.inj h⟩
    · rw [if_neg hf] at h; cases h
  clear h
  have HFIT := Aside0.mk hfit.1
  have HL0 : Aside0 (l0_0.length < 4398046511104) := ⟨hfit.1.1⟩
  have HL1 : Aside0 (l0_1.length < 4398046511104) := ⟨hfit.1.2.1⟩
  have HRES := Aside0.mk hfit.2
  have HR0 := Aside0.mk hr0_0
  have HR1 := Aside0.mk hr0_1
  have HC0 := Aside0.mk hc0_0
  have HC1 := Aside0.mk hc0_1
  have HGL := Aside0.mk hG
  clear hfit hr0_0 hc0_0 hr0_1 hc0_1 hG
  have hmm := @run_makeMap Tryd.prog
  refine (callsIn_wide (n := 3)).1 ?_
  refine callsIn_of_wp_marks Tryd.func36 rfl trivial ?_ rfl
  simp only [Tryd.ntmps36, List.size_toArray, List.length_cons, List.length_nil, Nat.reduceAdd, Nat.reduceSub, Array.replicate_succ, Array.replicate_zero, List.push_toArray, List.append_toArray, List.nil_append, List.cons_append]
  gi_wp2_with (refine ⟨trivial, ?_⟩; gi_at_call 63; refine (callsIn_wide.2 (pairs_calls _ _ _ _)).mono ?_; rintro e w' ⟨rfl, rfl⟩)
  obtain ⟨W0, hW0⟩ : ∃ W0 : World, W0 = (((((w.alloc (Obj.cells #[Value.slice A0_0 l0_0.length c0_0, Value.slice A0_1 l0_1.length c0_1] 28)).alloc (Obj.cells #[Value.bool false] 4)).alloc (Obj.map #[] 0)).alloc (Obj.cells #[Value.map (some (w.heap.size + 1 + 1))] 78)).alloc (Obj.cells #[Value.slice A0_1 l0_1.length c0_1] 26)) := ⟨_, rfl⟩
  rw [← hW0]
  have hs0 : W0.heap.size = w.heap.size + 1 + 1 + 1 + 1 + 1 := by rw [hW0]; simp
  have hI0 : RInv w A0_0 A0_1 c0_0 c0_1 l0_0 l0_1 0 W0 := by
    rw [hW0]
    refine ⟨?_, ?_, ?_, ?_, rfl, ?_⟩
    · exact blk_alloc (blk_alloc (blk_alloc (blk_alloc (heap_alloc_new w _) _) _) _) _
    · exact blk_alloc (blk_alloc (blk_alloc (by simpa using heap_alloc_new (w.alloc _) _) _) _) _
    · exact ((by simpa using IsSet.made ((w.alloc _).alloc _) : IsSet _ (w.heap.size + 1 + 1) []).grown (World.grownBy_alloc _ _ none) (by simp)).grown (World.grownBy_alloc _ _ none) (by simp)
    · exact blk_alloc (by simpa using heap_alloc_new (((w.alloc _).alloc _).alloc _) _) _
    · exact below_alloc (below_alloc (below_alloc (below_alloc (below_alloc (Below.refl _ _) _) _) _) _) _
  have hB4 : W0.cell? ⟨w.heap.size + 1 + 1 + 1 + 1, 0, none⟩ = some (Value.slice A0_1 l0_1.length c0_1) := by
    rw [hW0]
    exact (blk_cell (cs := #[Value.slice A0_1 l0_1.length c0_1]) (t := 26) (by simpa using heap_alloc_new ((((w.alloc _).alloc _).alloc _).alloc _) _) 0).trans rfl
  clear hW0
  refine range_own (d := 1) (gf := 91) (lb := #[.pointer (some ⟨w.heap.size + 1 + 1 + 1 + 1, 0, none⟩)]) rfl (enters_of Tryd.func91 (by kernel_rfl) rfl) (N := l0_1.length) (encs := fun k => #[rowV (wasAt l0_1 k), rowV (rd_T48 l0_1 k)])
    (S := fun i => i = w.heap.size + 1 ∨ i = w.heap.size + 1 + 1) (fun i hi => by omega) ?hit (fun _ => rfl) (fun k W => RInv w A0_0 A0_1 c0_0 c0_1 l0_0 l0_1 k W) (fun W => RStop w l0_0 l0_1 W)
    (fun k A B row h hg hr => h.grown hg (fun r e => by have := hr r e; omega)) (fun A B row h hg hr => h.grown hg (fun r e => by have := hr r e; omega)) hI0 ?round ?done ?stop
  case hit =>
    intro W hsz hb
    refine pairs_iter l0_1 A0_1 c0_1 (w.heap.size + 1 + 1 + 1 + 1) _ W ((hb.cell (p := ⟨_, 0, none⟩) (by show w.heap.size + 1 + 1 + 1 + 1 < W0.heap.size; omega)).trans hB4) (Kd.C_max HR1.out) (fun i hi => by omega) (fun W' hk => ?_)
    exact Kd.C_below HR1.out ((hI0.below.trans (hb.mono (by omega))).trans (⟨hk.os, hk.tape, hk.output, hk.size, fun i hi => hk.block i (by omega) (by omega)⟩))
  case round =>
    intro k W hk hI hgt
    rw [hs0] at hgt
    dsimp only [rowV]
    have HI := Aside0.mk hI
    clear hI
    gi_wp2
    refine ⟨KpW.of_below (below_alloc (below_alloc (Below.refl _ _) _) _), fun W2 hg2 => ?_⟩
    have hI2 : RIn w W.heap.size A0_0 A0_1 c0_0 c0_1 l0_0 l0_1 k W2 := by
      refine RIn.grown (row := some (W0.heap.size + 1)) ⟨?_, ?_, ?_⟩ hg2 (fun r e => by cases e; omega)
      · exact HI.out.grown0 (below_alloc (below_alloc (Below.refl _ _) _) _)
      · exact blk_alloc (heap_alloc_new W _) _
      · simpa [rowC] using heap_alloc_new (W.alloc _) _
    have hkp0 : KpW (fun i => i = w.heap.size + 1 ∨ i = w.heap.size + 1 + 1) W2 W2 := KpW.refl _ _
    clear hg2
    have hx : W64 (rd_T48 l0_1 k).f0 := HFIT.out.2.2 _ (rd_mem48 l0_1 k hk)
    have HX := Aside0.mk hx
    have HI2 := Aside0.mk hI2
    have HKP := Aside0.mk (KpW.refl (fun i => i = w.heap.size + 1 ∨ i = w.heap.size + 1 + 1) W2)
    clear hI2 hkp0 hx HI
    obtain ⟨met, hmet⟩ : ∃ b, (seqs (l0_1.take k)).contains (rd_T48 l0_1 k).f0 = b := ⟨_, rfl⟩
    have HM := Aside0.mk hmet
    clear hmet
    have hu48 := Tryd.underlying48
    have hu53 := Tryd.underlying53
    -- how a round ends that says no
    have hNO : Aside0 (rowOK l0_0 l0_1 k = false → ∀ W4, KpW (fun i => i = w.heap.size + 1 ∨ i = w.heap.size + 1 + 1) W2 W4 → RInv w A0_0 A0_1 c0_0 c0_1 l0_0 l0_1 k W4 → KpW (fun i => i = w.heap.size + 1 ∨ i = w.heap.size + 1 + 1) W2 (W4.setCell ⟨w.heap.size + 1, 0, none⟩ (.bool false)) ∧ RStop w l0_0 l0_1 (W4.setCell ⟨w.heap.size + 1, 0, none⟩ (.bool false))) :=
      ⟨fun hno W4 hk4 hi4 => ⟨hk4.trans (KpW.of_grown (grown_set _ _ _ _) (fun r e => by cases e; exact .inl rfl)), blk_put hi4.b1 0 (.bool false) rfl, chunkR_no hk hno, hi4.below.grown (grown_set W4 (w.heap.size + 1) 0 _) hi4.below.size (fun r e => by cases e; omega)⟩⟩
    refine wpIn_block (wpIn_seq (wpIn_seq ?_))
    refine start_in (m := 19) (S := RS w.heap.size W.heap.size A0_0 c0_0 l0_0 l0_1 k met) (ds := []) #[false, false, false, false, false, false, false, false, false, false, false, false, false, false, false, false, false, false, false] (by kernel_rfl) rfl rfl (by kernel_rfl) (by rintro ⟨_, _, h⟩; exact h) (RIn.rs (HI2.out.below (below_drew1 (Below.refl _ _))) HX.out HM.out) (fun hHeld => ?_); refine with_tabW chunk_Right.tab5 chunk_Right.bits5 (fun HT_ HW_ => ?_)
    have n0_ := Aside0.mk (HI2.out.below (below_drew1 (Below.refl _ _)))
    have n1_ := Aside0.mk (HKP.out.trans (KpW.of_below (below_drew1 (Below.refl _ _))))
    clear HI2 HKP
    generalize W2.drew = W4 at n0_ n1_ hHeld ⊢
    have HI := n0_
    have HK := n1_
    clear n0_ n1_
    cases met with
    | true =>
      refine tk_ 0 (some 12) (bs 19 1) ?_
      refine pu_ 1 (some 13) (bs 19 3) ?_
      refine tk_ 2 (some 14) (bs 19 7) ?_
      refine tk_ 3 (some 15) (bs 19 15) ?_
      refine pu_ 4 (some 16) (bs 19 31) ?_
      refine sk_ 5 (some 17) (bs 19 63) ?_
      refine sk_ 6 (some 18) (bs 19 127) ?_
      refine sk_ 7 (some 19) (bs 19 255) ?_
      refine sk_ 8 (some 20) (bs 19 511) ?_
      refine sk_ 9 (some 21) (bs 19 1023) ?_
      refine sk_ 10 (some 22) (bs 19 2047) ?_
      refine pu_ 11 (some 23) (bs 19 4095) ?_
      refine pu_ 12 (some 24) (bs 19 8191) ?_
      refine sk_ 13 (some 25) (bs 19 16383) ?_
      refine sk_ 14 (some 26) (bs 19 32767) ?_
      refine sk_ 15 (some 27) (bs 19 65535) ?_
      refine sk_ 16 (some 28) (bs 19 131071) ?_
      refine sk_ 17 (some 29) (bs 19 262143) ?_
      refine pu_ 18 (some 30) (bs 19 524287) ?_
      refine done_ (done_of HT_.out (by kernel_rfl)) ?_
      have hc2 : W4.cell? ⟨w.heap.size + 1, 0, none⟩ = some (.bool false) := (blk_cell HI.out.inv.b1 0).trans rfl
      have hf2 := blk_frozen HI.out.inv.b1 0
      gi_wp2
      exact hNO.out (by rw [rowOK, HM.out]; rfl) W4 HK.out HI.out.inv
    | false =>
      refine tk_ 0 (some 12) (bs 19 1) ?_
      refine pu_ 1 (some 13) (bs 19 3) ?_
      refine tk_ 2 (some 14) (bs 19 7) ?_
      refine tk_ 3 (some 15) (bs 19 15) ?_
      refine pu_ 4 (some 16) (bs 19 31) ?_
      refine tk_ 5 (some 17) (bs 19 63) ?_
      refine pu_ 6 (some 18) (bs 19 127) ?_
      refine tk_ 7 (some 19) (bs 19 255) ?_
      refine one_ (i := 8) (N := (some 20)) (bs 19 511) rfl rfl (one_of HT_.out (by kernel_rfl)) (by decide) (fun K hK => ?_)
      refine goes_ Tryd.func49 (by kernel_rfl) rfl #[.agg #[.int .i64 (rd_T48 l0_1 k).f0, .int .i64 (rd_T48 l0_1 k).f1, .string (rd_T48 l0_1 k).f2], .slice A0_0 l0_0.length c0_0] (by rfl) rfl rfl (by (try simp only [List.map_toArray, List.map_cons, List.map_nil]); first | done | rfl | (simp only [List.length_drop, List.length_take]; rfl)) ?_
      with_reducible refine (chunk_Row_entry.calls _ _ _ A0_0 c0_0 l0_0 (rd_T48 l0_1 k).f0 (rd_T48 l0_1 k).f1 l0_0 (rd_T48 l0_1 k).f2 _ (Kd.C_below HR0.out HI.out.inv.below) HC0.out (entry_is HL0.out _ _ _)).mono ?_
      rintro e w20 ⟨v20, rfl, hR20, hb20⟩
      obtain ⟨A20, c20, rfl⟩ := Kd.R_slice hR20
      obtain ⟨-, hl20, hC20⟩ := Kd.R_reads' hR20
      refine ⟨_, rfl, ?_⟩
      have n0_ := Aside0.mk (HI.out.below hb20)
      have n1_ := Aside0.mk (HK.out.trans (KpW.of_below hb20))
      have HC20 := Aside0.mk hC20
      clear HI HK hR20 hb20 hC20
      have HI := n0_
      have HK := n1_
      clear n0_ n1_
      refine hK.out _ _ (RIn.rs HI.out HX.out HM.out) (fun hHeld => ?_)
      clear hK K
      refine pt_ ?_
      refine one_ (i := 9) (N := (some 21)) (bs 19 1023) rfl rfl (one_of HT_.out (by kernel_rfl)) (by decide) (fun K hK => ?_)
      refine goes_ Tryd.func43 (by kernel_rfl) rfl #[.agg #[.int .i64 (rd_T48 l0_1 k).f0, .int .i64 (rd_T48 l0_1 k).f1, .slice A20 l0_0.length c20, .string (rd_T48 l0_1 k).f2]] (by rfl) rfl rfl (by (try simp only [List.map_toArray, List.map_cons, List.map_nil]); first | done | rfl | (simp only [List.length_drop, List.length_take]; rfl)) ?_
      obtain ⟨rb, hrb⟩ : ∃ b, rightE (rd_T48 l0_1 k).f0 (rd_T48 l0_1 k).f1 l0_0 (rd_T48 l0_1 k).f2 = b := ⟨_, rfl⟩
      have HRB := Aside0.mk hrb
      clear hrb
      with_reducible refine (record_Right.calls (l0_0.length + 1) _ _ A20 c20 l0_0 _ rb _ HC20.out hl20 (laid_below HGL.out HI.out.inv.below) (by rw [right_is _ _ _ _ (by have := HL0.out; omega) _ (Nat.lt_succ_self _), HRB.out])).mono ?_
      rintro e w21 ⟨rfl, hb21⟩
      refine ⟨_, rfl, ?_⟩
      have n0_ := Aside0.mk (HI.out.below hb21)
      have n1_ := Aside0.mk (HK.out.trans (KpW.of_below hb21))
      clear HI HK hb21 HC20 hl20
      have HI := n0_
      have HK := n1_
      clear n0_ n1_
      refine hK.out _ _ (RIn.rs HI.out HX.out HM.out) (fun hHeld => ?_)
      clear hK K
      refine pt_ ?_
      cases rb with
      | false =>
        refine pu_ 10 (some 22) (bs 19 2047) ?_
        refine pu_ 11 (some 23) (bs 19 4095) ?_
        refine pu_ 12 (some 24) (bs 19 8191) ?_
        refine sk_ 13 (some 25) (bs 19 16383) ?_
        refine sk_ 14 (some 26) (bs 19 32767) ?_
        refine sk_ 15 (some 27) (bs 19 65535) ?_
        refine sk_ 16 (some 28) (bs 19 131071) ?_
        refine sk_ 17 (some 29) (bs 19 262143) ?_
        refine pu_ 18 (some 30) (bs 19 524287) ?_
        refine done_ (done_of HT_.out (by kernel_rfl)) ?_
        have hc2 : w21.cell? ⟨w.heap.size + 1, 0, none⟩ = some (.bool false) := (blk_cell HI.out.inv.b1 0).trans rfl
        have hf2 := blk_frozen HI.out.inv.b1 0
        gi_wp2
        exact hNO.out (by rw [rowOK, HM.out]; rw [HRB.out]; rfl) w21 HK.out HI.out.inv
      | true =>
        refine pu_ 10 (some 22) (bs 19 2047) ?_
        refine pu_ 11 (some 23) (bs 19 4095) ?_
        refine pu_ 12 (some 24) (bs 19 8191) ?_
        refine tk_ 13 (some 25) (bs 19 16383) ?_
        refine tk_ 15 (some 27) (bs 19 49151) ?_
        refine one_ (i := 14) (N := (some 26)) (bs 19 65535) rfl rfl (one_of HT_.out (by kernel_rfl)) (by decide) (fun K hK => ?_)
        refine goes_ Tryd.func49 (by kernel_rfl) rfl #[.agg #[.int .i64 (rd_T48 l0_1 k).f0, .int .i64 (rd_T48 l0_1 k).f1, .string (rd_T48 l0_1 k).f2], .slice none 0 0] (by rfl) rfl rfl (by (try simp only [List.map_toArray, List.map_cons, List.map_nil]); first | done | rfl | (simp only [List.length_drop, List.length_take]; rfl)) ?_
        refine (chunk_Row_entry.calls _ _ _ none 0 [] (rd_T48 l0_1 k).f0 (rd_T48 l0_1 k).f1 [] (rd_T48 l0_1 k).f2 _ (Kd.C_nil _ _) (Nat.le_refl _) (entry_is (by decide) _ _ _)).mono ?_
        rintro e w22 ⟨v22, rfl, hR22, hb22⟩
        obtain ⟨A22, c22, rfl⟩ := Kd.R_slice hR22
        obtain ⟨-, hl22, hC22⟩ := Kd.R_reads' hR22
        refine ⟨_, rfl, ?_⟩
        have n0_ := Aside0.mk (HI.out.below hb22)
        have n1_ := Aside0.mk (HK.out.trans (KpW.of_below hb22))
        have HC22 := Aside0.mk hC22
        clear HI HK hR22 hb22 hC22
        have HI := n0_
        have HK := n1_
        clear n0_ n1_
        refine hK.out _ _ (RIn.rs HI.out HX.out HM.out) (fun hHeld => ?_)
        clear hK K
        refine pt_ ?_
        refine one_ (i := 16) (N := (some 28)) (bs 19 131071) rfl rfl (one_of HT_.out (by kernel_rfl)) (by decide) (fun K hK => ?_)
        refine goes_ Tryd.func49 (by kernel_rfl) rfl #[.agg #[.int .i64 (wasAt l0_1 k).f0, .int .i64 (wasAt l0_1 k).f1, .string (wasAt l0_1 k).f2], .slice none 0 0] (by rfl) rfl rfl (by (try simp only [List.map_toArray, List.map_cons, List.map_nil]); first | done | rfl | (simp only [List.length_drop, List.length_take]; rfl)) ?_
        refine (chunk_Row_entry.calls _ _ _ none 0 [] (wasAt l0_1 k).f0 (wasAt l0_1 k).f1 [] (wasAt l0_1 k).f2 _ (Kd.C_nil _ _) (Nat.le_refl _) (entry_is (by decide) _ _ _)).mono ?_
        rintro e w23 ⟨v23, rfl, hR23, hb23⟩
        obtain ⟨A23, c23, rfl⟩ := Kd.R_slice hR23
        obtain ⟨-, hl23, hC23⟩ := Kd.R_reads' hR23
        refine ⟨_, rfl, ?_⟩
        have n0_ := Aside0.mk (HI.out.below hb23)
        have n1_ := Aside0.mk (HK.out.trans (KpW.of_below hb23))
        have HC23 := Aside0.mk hC23
        have n2_ := Aside0.mk (Kd.C_below HC22.out hb23)
        clear HI HK HC22 hR23 hb23 hC23
        have HI := n0_
        have HK := n1_
        have HC22 := n2_
        clear n0_ n1_ n2_
        refine hK.out _ _ (RIn.rs HI.out HX.out HM.out) (fun hHeld => ?_)
        clear hK K
        refine pt_ ?_
        refine one_ (i := 17) (N := (some 29)) (bs 19 262143) rfl rfl (one_of HT_.out (by kernel_rfl)) (by decide) (fun K hK => ?_)
        refine goes_ Tryd.func27 (by kernel_rfl) rfl #[.agg #[.int .i64 (rd_T48 l0_1 k).f0, .int .i64 (rd_T48 l0_1 k).f1, .slice A22 0 c22, .string (rd_T48 l0_1 k).f2], .agg #[.int .i64 (wasAt l0_1 k).f0, .int .i64 (wasAt l0_1 k).f1, .slice A23 0 c23, .string (wasAt l0_1 k).f2]] (by rfl) rfl rfl (by (try simp only [List.map_toArray, List.map_cons, List.map_nil]); first | done | rfl | (simp only [List.length_drop, List.length_take]; rfl)) ?_
        obtain ⟨bb, hbb⟩ : ∃ b, beforeB (rd_T48 l0_1 k).f0 (rd_T48 l0_1 k).f1 (wasAt l0_1 k).f0 (wasAt l0_1 k).f1 = b := ⟨_, rfl⟩
        have HBB := Aside0.mk hbb
        clear hbb
        refine (record_Before.calls 3 _ _ A22 c22 [] _ _ _ A23 c23 [] _ bb _ HC22.out hl22 HC23.out hl23 (by rw [before_is _ (Nat.le_refl _), HBB.out])).mono ?_
        rintro e w24 ⟨rfl, hb24⟩
        refine ⟨_, rfl, ?_⟩
        have n0_ := Aside0.mk (HI.out.below hb24)
        have n1_ := Aside0.mk (HK.out.trans (KpW.of_below hb24))
        clear HI HK HC22 HC23 hl22 hl23 hb24
        have HI := n0_
        have HK := n1_
        clear n0_ n1_
        refine hK.out _ _ (RIn.rs HI.out HX.out HM.out) (fun hHeld => ?_)
        clear hK K
        refine pt_ ?_
        cases bb with
        | true =>
          refine pu_ 18 (some 30) (bs 19 524287) ?_
          refine done_ (done_of HT_.out (by kernel_rfl)) ?_
          have hc2 : w24.cell? ⟨w.heap.size + 1, 0, none⟩ = some (.bool false) := (blk_cell HI.out.inv.b1 0).trans rfl
          have hf2 := blk_frozen HI.out.inv.b1 0
          gi_wp2
          exact hNO.out (by rw [rowOK, HM.out]; rw [HRB.out, HBB.out]; rfl) w24 HK.out HI.out.inv
        | false =>
          refine pu_ 18 (some 30) (bs 19 524287) ?_
          refine done_ (done_of HT_.out (by kernel_rfl)) ?_
          have hm3 : w24.cell? ⟨w.heap.size + 1 + 1 + 1, 0, none⟩ = some (.map (some (w.heap.size + 1 + 1))) := (blk_cell HI.out.inv.b3 0).trans rfl
          have hr0 : w24.cell? ⟨W.heap.size + 1, 0, none⟩ = some (.int .i64 (rd_T48 l0_1 k).f0) := (blk_cell HI.out.row 0).trans rfl
          obtain ⟨w25, hup, hset, hg25⟩ := HI.out.inv.set.update (rd_T48 l0_1 k).f0 HX.out (by unfold seqs; rw [List.length_map, List.length_take]; have := HL1.out; omega)
          have HS25 := Aside0.mk hset
          have HG25 := Aside0.mk hg25
          clear hset hg25
          gi_wp2
          refine ⟨HK.out.trans (KpW.of_grown HG25.out (fun r e => by cases e; exact .inr rfl)), ?_⟩
          exact ⟨blk_grown HI.out.inv.b0 HG25.out (by simp only [ne_eq, Option.some.injEq]; omega), blk_grown HI.out.inv.b1 HG25.out (by simp), by rw [take_snoc48 _ _ hk]; exact HS25.out, blk_grown HI.out.inv.b3 HG25.out (by simp), by rw [rowsTo_succ, HI.out.inv.ok, rowOK, HM.out, HRB.out, HBB.out]; rfl, HI.out.inv.below.grown HG25.out HI.out.inv.below.size (fun r e => by cases e; omega)⟩
  case done =>
    intro W hI hKd
    have HI := Aside0.mk hI
    clear hI
    have hB0 : W.cell? ⟨w.heap.size, 0, none⟩ = some (.slice A0_0 l0_0.length c0_0) := (blk_cell HI.out.b0 0).trans rfl
    have hB1 : W.cell? ⟨w.heap.size, 1, none⟩ = some (.slice A0_1 l0_1.length c0_1) := (blk_cell HI.out.b0 1).trans rfl
    have hc2 : W.cell? ⟨w.heap.size + 1, 0, none⟩ = some (.bool false) := (blk_cell HI.out.b1 0).trans rfl
    have hf2 := blk_frozen HI.out.b1 0
    gi_wp2
    · rename_i hge
      rw [← hs0]
      have hb5 := blk_put HI.out.b1 0 (.bool (decide ((l0_1.length : Int) ≤ 1000))) rfl
      have hk5 : (W.setCell ⟨w.heap.size + 1, 0, none⟩ (.bool (decide ((l0_1.length : Int) ≤ 1000)))).heap[W0.heap.size]? = some (.deferred (some [])) := (Below.heap_setCell W ⟨w.heap.size + 1, 0, none⟩ _ _ (by show W0.heap.size ≠ w.heap.size + 1; omega)).trans hKd
      have hd5 : Below w.heap.size w (W.setCell ⟨w.heap.size + 1, 0, none⟩ (.bool (decide ((l0_1.length : Int) ≤ 1000)))) := HI.out.below.grown (grown_set W (w.heap.size + 1) 0 _) HI.out.below.size (fun r e => by cases e; omega)
      have hc5 : ((W.setCell ⟨w.heap.size + 1, 0, none⟩ (.bool (decide ((l0_1.length : Int) ≤ 1000)))).putObj W0.heap.size (.deferred none)).cell? ⟨w.heap.size + 1, 0, none⟩ = some (.bool (decide ((l0_1.length : Int) ≤ 1000))) :=
        (World.cell?_of_block (World.putObj_heap_other (k := w.heap.size + 1) (by omega))).trans ((blk_cell hb5 0).trans rfl)
      refine ⟨by simp, .inl ⟨_, _, rfl, run_takeDeferred hk5, ?_⟩⟩
      refine ⟨.bool (decide ((l0_1.length : Int) ≤ 1000)), by simp [results, Tryd.f36, go_sem, hc5], ?_, hd5.grown (grownBy_putObj' _ _ _) hd5.size (fun r e => by cases e; omega)⟩
      rw [← HRES.out, chunkR, HI.out.ok]
      rw [decide_eq_true (show 1 ≤ l0_1.length by omega), Bool.true_and, Bool.true_and, show decide ((l0_1.length : Int) ≤ 1000) = decide (l0_1.length ≤ 1000) from by rw [Bool.eq_iff_iff]; simp only [decide_eq_true_eq]; omega]
    · rename_i hge
      rw [← hs0]
      have hb5 := blk_put HI.out.b1 0 (.bool false) rfl
      have hk5 : (W.setCell ⟨w.heap.size + 1, 0, none⟩ (.bool false)).heap[W0.heap.size]? = some (.deferred (some [])) := (Below.heap_setCell W ⟨w.heap.size + 1, 0, none⟩ _ _ (by show W0.heap.size ≠ w.heap.size + 1; omega)).trans hKd
      have hd5 : Below w.heap.size w (W.setCell ⟨w.heap.size + 1, 0, none⟩ (.bool false)) := HI.out.below.grown (grown_set W (w.heap.size + 1) 0 _) HI.out.below.size (fun r e => by cases e; omega)
      have hc5 : ((W.setCell ⟨w.heap.size + 1, 0, none⟩ (.bool false)).putObj W0.heap.size (.deferred none)).cell? ⟨w.heap.size + 1, 0, none⟩ = some (.bool false) :=
        (World.cell?_of_block (World.putObj_heap_other (k := w.heap.size + 1) (by omega))).trans ((blk_cell hb5 0).trans rfl)
      refine ⟨by simp, .inl ⟨_, _, rfl, run_takeDeferred hk5, ?_⟩⟩
      refine ⟨.bool false, by simp [results, Tryd.f36, go_sem, hc5], ?_, hd5.grown (grownBy_putObj' _ _ _) hd5.size (fun r e => by cases e; omega)⟩
      rw [← HRES.out, chunkR, HI.out.ok]
      rw [decide_eq_false (show ¬ 1 ≤ l0_1.length by omega)]
      rfl
  case stop =>
    intro W hI hKd
    have HI := Aside0.mk hI
    clear hI
    have hc2 : W.cell? ⟨w.heap.size + 1, 0, none⟩ = some (.bool false) := (blk_cell HI.out.b1 0).trans rfl
    have hf2 := blk_frozen HI.out.b1 0
    gi_wp2
    have hd5 := HI.out.below
    have hc5 : (W.putObj W0.heap.size (.deferred none)).cell? ⟨w.heap.size + 1, 0, none⟩ = some (.bool false) :=
      (World.cell?_of_block (World.putObj_heap_other (k := w.heap.size + 1) (by omega))).trans hc2
    refine ⟨by simp, .inl ⟨_, _, rfl, run_takeDeferred hKd, ?_⟩⟩
    refine ⟨.bool false, by simp [results, Tryd.f36, go_sem, hc5], ?_, hd5.grown (grownBy_putObj' _ _ _) hd5.size (fun r e => by cases e; omega)⟩
    rw [← HRES.out, HI.out.no]
end Go.Proofs.YtkbmmgpdnienfaaDoor.P
namespace Go.Proofs.YtkbmmgpdnienfaaDoor.P
open Go.RowKit Go.Proofs.YtkbmmgpdnienfaaDoorW.PrintWords Go.Proofs.YtkbmmgpdnienfaaDoorW.PrintLast Go.Proofs.YtkbmmgpdnienfaaDoorW.PrintMore
attribute [local go_sem] max2_int min2_int max_two min_two max_three min_three max_four min_four   -- for this text's walks alone
def chunk_Between.l0 : Nat → Int → Int → List (S53) → List (S48) → Int → Int → List (S88) → List (S48) → Option ((List (S53)))
  | 0, _, _, _, _, _, _, _, _ => none
  | k + 1, x1, x2, x7, x14, x15, x16, x167000, x167001 => if x16 < x15 then (if 0 ≤ x16 then (if x16 < (x14.length : Int) then (if ((rd_T48 x14 x16).f1) ≥ x1 then (if ((rd_T48 x14 x16).f1) < x2 then ((chunk_Row_entry.f ((rd_T48 x14 x16).f0) ((rd_T48 x14 x16).f1) ((rd_T48 x14 x16).f2) x167000).bind fun bt170 => (if x7.length < 2513169434916 then (chunk_Between.l0 k x1 x2 (x7 ++ [(⟨bt170.1, bt170.2.1, bt170.2.2.1, bt170.2.2.2⟩ : S53)]) x14 x15 (wrap64 (x16 + 1)) x167000 x167001) else (none))) else (chunk_Between.l0 k x1 x2 x7 x14 x15 (wrap64 (x16 + 1)) x167000 x167001)) else (chunk_Between.l0 k x1 x2 x7 x14 x15 (wrap64 (x16 + 1)) x167000 x167001)) else (none)) else (none)) else (some x7)
def chunk_Between.f (k : Nat) (l0_0 : List (S88)) (l0_1 : List (S48)) (a1 : Int) (a2 : Int) : Option ((List (S53))) := (chunk_Right.f l0_0 l0_1).bind fun t167 => (if t167 = true then (chunk_Between.l0 k a1 a2 ([] : List (S53)) l0_1 (l0_1.length : Int) 0 l0_0 l0_1) else (some ([] : List (S53))))
end Go.Proofs.YtkbmmgpdnienfaaDoor.P
namespace Go.Proofs.YtkbmmgpdnienfaaDoor.P
open Go.RowKit Go.Proofs.YtkbmmgpdnienfaaDoorW.PrintWords Go.Proofs.YtkbmmgpdnienfaaDoorW.PrintLast Go.Proofs.YtkbmmgpdnienfaaDoorW.PrintMore
attribute [local go_sem] Oper.semAt_some
def bestTo (lt : Int → Bool) (xs : List S48) : Nat → S48
  | 0 => rd_T48 xs 0
  | i + 1 => if lt (cmp3 (rd_T48 xs (i + 1 : Nat)).f0 (bestTo lt xs i).f0) = true then rd_T48 xs (i + 1 : Nat) else bestTo lt xs i
set_option maxHeartbeats 1000000 in
theorem bySeq_calls (a b : S48) (w : World) : Calls Tryd.prog 45 #[rowV a, rowV b] w fun e w' => e = .returned (.int .i64 (cmp3 a.f0 b.f0)) ∧ Below w.heap.size w w' := by
  have hu48 := Tryd.underlying48
  have HB := Aside0.mk (below_alloc (below_alloc (Below.refl w.heap.size w) (.cells (rowC a) 48)) (.cells (rowC b) 48))
  dsimp only [rowV, rowC] at HB ⊢
  go_enter Tryd.func45, Tryd.ntmps45
  go_wp2_with ((with_reducible refine gate_callee (f := 46) rfl ?_); refine goesL_ (some 9) rfl rfl Tryd.func46 (by kernel_rfl) rfl #[.int .i64 a.f0, .int .i64 b.f0] rfl (by (try simp only [List.map_toArray, List.map_cons, List.map_nil]); first | done | rfl) ?_; refine (cmp_Compare_int.calls _ _ _ _ (compare_is _ _)).mono ?_; rintro e w2 ⟨rfl, ⟨m, rfl⟩⟩; refine ⟨_, rfl, ?_⟩)
  go_ret
  exact ⟨rfl, pw_below_drewN HB.out _⟩
def rowMin.T7 : Bool × List (List Nat × List Nat) := (true, [([], []), ([], []), ([], []), ([1, 2], [1, 2]), ([3], [3]), ([], []), ([0, 4, 5], [0, 4, 5]), ([6], [6])])
def rowMin.B7 : List Nat := [0, 0, 0, 6, 14, 0, 63, 127]
theorem rowMin.tab7 : rtab .any (opsOf Tryd.f47 7) = rowMin.T7 := by kernel_rfl
theorem rowMin.bits7 : waitsOk rowMin.T7.2 rowMin.B7 = true := by kernel_rfl
set_option maxHeartbeats 2000000 in
set_option maxRecDepth 100000 in
theorem rowMin.calls (A0 : Option Addr) (c0 : Nat) (xs : List S48) (w : World) (hr0 : Kd.C k48 w A0 xs.length xs) (hn : 1 ≤ xs.length) :
    Calls Tryd.prog 47 #[.slice A0 xs.length c0, .func (.func 45) #[] #[]] w fun e w' => e = .returned (rowV (bestTo (fun x => decide (x < 0)) xs (xs.length - 1))) ∧ Below w.heap.size w w' := by
  have hu48 := Tryd.underlying48
  have HR0 := Aside0.mk hr0
  have HM : Aside0 (xs.length ≤ 9223372036854775807) := ⟨Kd.C_max hr0⟩
  have HN := Aside0.mk hn
  have HB := Aside0.mk (Below.refl w.heap.size w)
  obtain ⟨ad, rfl, a0, a1, a2⟩ := at_T48 hr0 0 (by omega) (by omega)
  have hq0 : (0 : Int) < (xs.length : Int) := by omega
  have hq1 : ¬ (xs.length : Int) < 1 := by omega
  have hadd : ad.add (Int.toNat 0 * 3) = ad := by simp [Addr.add]
  rw [hadd] at a0 a1 a2
  clear hr0 hadd
  replace a0 := (below_alloc HB.out (.cells #[.int .i64 0, .int .i64 0, .string ⟨#[]⟩] 48)).cell (World.block_lt_of_cell? w _ a0) |>.trans a0
  replace a1 := (below_alloc HB.out (.cells #[.int .i64 0, .int .i64 0, .string ⟨#[]⟩] 48)).cell (World.block_lt_of_cell? w _ a1) |>.trans a1
  replace a2 := (below_alloc HB.out (.cells #[.int .i64 0, .int .i64 0, .string ⟨#[]⟩] 48)).cell (World.block_lt_of_cell? w _ a2) |>.trans a2
  go_enter Tryd.func47, Tryd.ntmps47
  go_wp2
  go_loopg [6] (xs.length - 1) (fun kq v6 w' => ∃ i : Nat, kq + (i + 1) = xs.length ∧ v6 = .int .i64 ((i + 1 : Nat) : Int) ∧ Aside0 (w'.heap[w.heap.size + 1]? = some (.cells (rowC (bestTo (fun x => decide (x < 0)) xs i)) 48 (0, 0))) ∧ Aside0 (w'.heap[w.heap.size]? = some (.cells #[.int .i64 0, .int .i64 0, .string ⟨#[]⟩] 48 (0, 0))) ∧ Aside0 (Below w.heap.size w w'))
  case atStart =>
    refine ⟨0, by omega, rfl, ⟨?_⟩, ⟨?_⟩, ⟨?_⟩⟩
    · exact (by simpa [rowC, bestTo] using heap_alloc_new (w.alloc (.cells #[.int .i64 0, .int .i64 0, .string ⟨#[]⟩] 48)) (.cells (rowC (rd_T48 xs 0)) 48))
    · exact blk_alloc (heap_alloc_new w _) _
    · exact below_alloc (below_alloc HB.out _) _
  case round =>
    clear a0 a1 a2 hq0 hq1 hn HB
    obtain ⟨i, hi, rfl, HM1, HZ, HB⟩ := hrel
    obtain ⟨m, hm⟩ : ∃ m, bestTo (fun x => decide (x < 0)) xs i = m := ⟨_, rfl⟩
    rw [hm] at HM1
    have HBT := Aside0.mk hm
    clear hm
    obtain ⟨j, hj⟩ : ∃ j, j = i + 1 := ⟨_, rfl⟩
    have HJ := Aside0.mk hj
    rw [← hj] at hi ⊢
    clear hj
    by_cases hlt : j < xs.length
    · obtain ⟨k1, rfl⟩ : ∃ k1, gk = k1 + 1 := ⟨gk - 1, by omega⟩
      have hq : (j : Int) < (xs.length : Int) := by omega
      have hp : (0 : Int) ≤ (j : Int) := by omega
      have hw1 : wrap64 ((j : Int) + 1) = ((j + 1 : Nat) : Int) := by have := HM.out; unfold wrap64; omega
      obtain ⟨ad', e', b0, b1, b2⟩ := at_T48 HR0.out j (by omega) (by omega)
      cases e'
      simp only [Int.toNat_natCast] at b0 b1 b2
      have hlt0 := World.block_lt_of_cell? w _ b0
      have hlt1 := World.block_lt_of_cell? w _ b1
      have hlt2 := World.block_lt_of_cell? w _ b2
      have HB0 : Aside0 (∀ W, Below w.heap.size w W → W.cell? (ad.add (j * 3)) = some (.int .i64 (rd_T48 xs j).f0) ∧ W.cell? ⟨(ad.add (j * 3)).block, (ad.add (j * 3)).off + 1, none⟩ = some (.int .i64 (rd_T48 xs j).f1) ∧ W.cell? ⟨(ad.add (j * 3)).block, (ad.add (j * 3)).off + 2, none⟩ = some (.string (rd_T48 xs j).f2)) :=
        ⟨fun W hW => ⟨(hW.cell hlt0).trans b0, (hW.cell hlt1).trans b1, (hW.cell hlt2).trans b2⟩⟩
      clear b0 b1 b2 hlt0 hlt1 hlt2
      obtain ⟨r, hr⟩ : ∃ r, rd_T48 xs j = r := ⟨_, rfl⟩
      rw [hr] at HB0
      have HRJ := Aside0.mk hr
      clear hr
      go_wp2
      refine start_ (n := 8) (S := fun w' => (w'.cell? (ad.add (j * 3)) = some (.int .i64 r.f0) ∧ w'.cell? ⟨(ad.add (j * 3)).block, (ad.add (j * 3)).off + 1, none⟩ = some (.int .i64 r.f1) ∧ w'.cell? ⟨(ad.add (j * 3)).block, (ad.add (j * 3)).off + 2, none⟩ = some (.string r.f2)) ∧ w'.cell? ⟨w.heap.size + 1, 0, none⟩ = some (.int .i64 m.f0) ∧ w'.cell? ⟨w.heap.size + 1, 1, none⟩ = some (.int .i64 m.f1) ∧ w'.cell? ⟨w.heap.size + 1, 2, none⟩ = some (.string m.f2)) (ds := []) #[false, false, false, false, false, false, false, false] (by kernel_rfl) rfl rfl ⟨HB0.out _ (below_drew1 HB.out), (blk_cell (blk_drew HM1.out) 0).trans rfl, (blk_cell (blk_drew HM1.out) 1).trans rfl, (blk_cell (blk_drew HM1.out) 2).trans rfl⟩ (fun hHeld => ?_); refine with_tabW rowMin.tab7 rowMin.bits7 (fun HT_ HW_ => ?_)
      have n0_ := Aside0.mk (below_drew1 HB.out)
      have n1_ := Aside0.mk (blk_drew HM1.out)
      have n2_ := Aside0.mk (blk_drew HZ.out)
      clear HB HM1 HZ
      generalize wr.drew = w3 at n0_ n1_ n2_ hHeld ⊢
      have HB := n0_
      have HM1 := n1_
      have HZ := n2_
      clear n0_ n1_ n2_
      refine pu_ 0 (some 20) (bs 8 1) ?_
      refine pu_ 1 (some 21) (bs 8 3) ?_
      refine pu_ 2 (some 22) (bs 8 7) ?_
      refine pu_ 3 (some 23) (bs 8 15) ?_
      refine take_ (i := 4) (N := (some 24)) (v := ?_) (a' := ?_) #[true, true, true, true, true, false, false, false] rfl rfl (take_ofW HT_.out HW_.out (by kernel_rfl)) (fun _ _ _ h => h) (Or.inl ⟨by rfl, ?_⟩) hHeld ?_ ?_
      rotate_left
      · rintro w' ⟨⟨s0, s1, s2⟩, s3, s4, s5⟩
        go_simp
        with_reducible rfl
      rotate_left
      · simp only [Act.put, List.setIfInBounds_toArray, List.set_cons_zero, List.set_cons_succ, i64_w, i32_w]
        rfl
      refine take_ (i := 5) (N := (some 25)) (v := ?_) (a' := ?_) #[true, true, true, true, true, true, false, false] rfl rfl (take_ofW HT_.out HW_.out (by kernel_rfl)) (fun _ _ _ h => h) (Or.inl ⟨by rfl, ?_⟩) hHeld ?_ ?_
      rotate_left
      · rintro w' ⟨⟨s0, s1, s2⟩, s3, s4, s5⟩
        go_simp
        with_reducible rfl
      rotate_left
      · simp only [Act.put, List.setIfInBounds_toArray, List.set_cons_zero, List.set_cons_succ, i64_w, i32_w]
        rfl
      refine one_ (i := 6) (N := (some 26)) (bs 8 127) rfl rfl (one_of HT_.out (by kernel_rfl)) (by decide) (fun K hK => ?_)
      have he := enters_ (P := Tryd.prog) (f := 45) Tryd.func45 (by kernel_rfl) rfl #[rowV r, rowV m] w3
      refine call_ 45 #[rowV r, rowV m] (by rfl) rfl (by unfold execOp; simp [resolve, Deferred.ofValue, invoke, Act.eval, he]; exact ⟨rfl, rfl⟩) ?_
      clear he
      refine (bySeq_calls r m _).mono ?_
      rintro e w4 ⟨rfl, hb⟩
      refine ⟨_, rfl, ?_⟩
      have n0_ := Aside0.mk (below_step HB.out hb)
      have n1_ := Aside0.mk (blk_below HM1.out hb)
      have n2_ := Aside0.mk (blk_below HZ.out hb)
      clear HB HM1 HZ hb
      have HB := n0_
      have HM1 := n1_
      have HZ := n2_
      clear n0_ n1_ n2_
      refine hK.out _ _ ⟨HB0.out _ HB.out, (blk_cell HM1.out 0).trans rfl, (blk_cell HM1.out 1).trans rfl, (blk_cell HM1.out 2).trans rfl⟩ (fun hHeld => ?_)
      clear hK K
      refine pt_ ?_
      obtain ⟨cv, hcv⟩ : ∃ c, cmp3 r.f0 m.f0 = c := ⟨_, rfl⟩
      rw [hcv]
      have HCV := Aside0.mk hcv
      clear hcv
      refine pu_ 7 (some 27) (bs 8 255) ?_
      refine done_ (done_of HT_.out (by kernel_rfl)) ?_
      have HNX : Aside0 (bestTo (fun x => decide (x < 0)) xs j = if decide (cv < 0) = true then r else m) := ⟨by rw [HJ.out, bestTo, ← HJ.out, HRJ.out, HBT.out, HCV.out]⟩
      by_cases hc : cv < 0
      · have n3_ : Aside0 (bestTo (fun x => decide (x < 0)) xs j = r) := ⟨by rw [HNX.out, decide_eq_true hc]; rfl⟩
        obtain ⟨⟨s0, s1, s2⟩, -⟩ := hHeld
        have y0 : w4.cell? ⟨w.heap.size + 1, 0, none⟩ = some (.int .i64 m.f0) := (blk_cell HM1.out 0).trans rfl
        have y1 : w4.cell? ⟨w.heap.size + 1, 1, none⟩ = some (.int .i64 m.f1) := (blk_cell HM1.out 1).trans rfl
        have y2 : w4.cell? ⟨w.heap.size + 1, 2, none⟩ = some (.string m.f2) := (blk_cell HM1.out 2).trans rfl
        have z0 := blk_frozen HM1.out 0
        have z1 := blk_frozen HM1.out 1
        have z2 := blk_frozen HM1.out 2
        go_wp2
        go_roundg k1
        case measure => omega
        case rel =>
          refine ⟨j, by omega, by first | rfl | (simp [*]; done), ⟨?_⟩, ⟨?_⟩, ⟨?_⟩⟩
          · rw [n3_.out]
            exact blk_put (blk_put (blk_put (cs := rowC m) HM1.out 0 (.int .i64 r.f0) rfl) 1 (.int .i64 r.f1) rfl) 2 (.string r.f2) rfl
          · exact (Below.heap_setCell _ ⟨w.heap.size + 1, 2, none⟩ _ _ (by show w.heap.size ≠ w.heap.size + 1; omega)).trans ((Below.heap_setCell _ ⟨w.heap.size + 1, 1, none⟩ _ _ (by show w.heap.size ≠ w.heap.size + 1; omega)).trans ((Below.heap_setCell _ ⟨w.heap.size + 1, 0, none⟩ _ _ (by show w.heap.size ≠ w.heap.size + 1; omega)).trans HZ.out))
          · exact below_set (below_set (below_set HB.out (Nat.le_succ _)) (Nat.le_succ _)) (Nat.le_succ _)
      · have n3_ : Aside0 (bestTo (fun x => decide (x < 0)) xs j = m) := ⟨by rw [HNX.out, decide_eq_false hc]; rfl⟩
        clear hHeld
        go_wp2
        go_roundg k1
        case measure => omega
        case rel => exact ⟨j, by omega, by first | rfl | (simp [*]; done), ⟨by rw [n3_.out]; exact HM1.out⟩, HZ, HB⟩
    · have HE : Aside0 (i = xs.length - 1) := ⟨by have := HJ.out; omega⟩
      have hq : ¬ (j : Int) < (xs.length : Int) := by omega
      have y0 : wr.cell? ⟨w.heap.size + 1, 0, none⟩ = some (.int .i64 m.f0) := (blk_cell HM1.out 0).trans rfl
      have y1 : wr.cell? ⟨w.heap.size + 1, 1, none⟩ = some (.int .i64 m.f1) := (blk_cell HM1.out 1).trans rfl
      have y2 : wr.cell? ⟨w.heap.size + 1, 2, none⟩ = some (.string m.f2) := (blk_cell HM1.out 2).trans rfl
      have x0 : wr.cell? ⟨w.heap.size, 0, none⟩ = some (.int .i64 0) := (blk_cell HZ.out 0).trans rfl
      have x1 : wr.cell? ⟨w.heap.size, 1, none⟩ = some (.int .i64 0) := (blk_cell HZ.out 1).trans rfl
      have x2 : wr.cell? ⟨w.heap.size, 2, none⟩ = some (.string ⟨#[]⟩) := (blk_cell HZ.out 2).trans rfl
      have z0 := blk_frozen HZ.out 0
      have z1 := blk_frozen HZ.out 1
      have z2 := blk_frozen HZ.out 2
      clear hlt hi HM1
      go_wp2
      have hz := blk_put (blk_put (blk_put (cs := #[.int .i64 0, .int .i64 0, .string ⟨#[]⟩]) HZ.out 0 (.int .i64 m.f0) rfl) 1 (.int .i64 m.f1) rfl) 2 (.string m.f2) rfl
      have g0 := (blk_cell hz 0).trans (show _ = some (Value.int .i64 m.f0) from rfl)
      have g1 := (blk_cell hz 1).trans (show _ = some (Value.int .i64 m.f1) from rfl)
      have g2 := (blk_cell hz 2).trans (show _ = some (Value.string m.f2) from rfl)
      refine ⟨rfl, rowV m, by simp [results, Tryd.f47, go_sem, hu48, g0, g1, g2, rowV], by rw [← HBT.out, HE.out], ?_⟩
      exact below_set (below_set (below_set HB.out (Nat.le_refl _)) (Nat.le_refl _)) (Nat.le_refl _)
def rowMax.T7 : Bool × List (List Nat × List Nat) := (true, [([], []), ([], []), ([], []), ([1, 2], [1, 2]), ([3], [3]), ([], []), ([0, 4, 5], [0, 4, 5]), ([6], [6])])
def rowMax.B7 : List Nat := [0, 0, 0, 6, 14, 0, 63, 127]
theorem rowMax.tab7 : rtab .any (opsOf Tryd.f48 7) = rowMax.T7 := by kernel_rfl
theorem rowMax.bits7 : waitsOk rowMax.T7.2 rowMax.B7 = true := by kernel_rfl
set_option maxHeartbeats 2000000 in
set_option maxRecDepth 100000 in
theorem rowMax.calls (A0 : Option Addr) (c0 : Nat) (xs : List S48) (w : World) (hr0 : Kd.C k48 w A0 xs.length xs) (hn : 1 ≤ xs.length) :
    Calls Tryd.prog 48 #[.slice A0 xs.length c0, .func (.func 45) #[] #[]] w fun e w' => e = .returned (rowV (bestTo (fun x => decide (0 < x)) xs (xs.length - 1))) ∧ Below w.heap.size w w' := by
  have hu48 := Tryd.underlying48
  have HR0 := Aside0.mk hr0
  have HM : Aside0 (xs.length ≤ 9223372036854775807) := ⟨Kd.C_max hr0⟩
  have HN := Aside0.mk hn
  have HB := Aside0.mk (Below.refl w.heap.size w)
  obtain ⟨ad, rfl, a0, a1, a2⟩ := at_T48 hr0 0 (by omega) (by omega)
  have hq0 : (0 : Int) < (xs.length : Int) := by omega
  have hq1 : ¬ (xs.length : Int) < 1 := by omega
  have hadd : ad.add (Int.toNat 0 * 3) = ad := by simp [Addr.add]
  rw [hadd] at a0 a1 a2
  clear hr0 hadd
  replace a0 := (below_alloc HB.out (.cells #[.int .i64 0, .int .i64 0, .string ⟨#[]⟩] 48)).cell (World.block_lt_of_cell? w _ a0) |>.trans a0
  replace a1 := (below_alloc HB.out (.cells #[.int .i64 0, .int .i64 0, .string ⟨#[]⟩] 48)).cell (World.block_lt_of_cell? w _ a1) |>.trans a1
  replace a2 := (below_alloc HB.out (.cells #[.int .i64 0, .int .i64 0, .string ⟨#[]⟩] 48)).cell (World.block_lt_of_cell? w _ a2) |>.trans a2
  go_enter Tryd.func48, Tryd.ntmps48
  go_wp2
  go_loopg [6] (xs.length - 1) (fun kq v6 w' => ∃ i : Nat, kq + (i + 1) = xs.length ∧ v6 = .int .i64 ((i + 1 : Nat) : Int) ∧ Aside0 (w'.heap[w.heap.size + 1]? = some (.cells (rowC (bestTo (fun x => decide (0 < x)) xs i)) 48 (0, 0))) ∧ Aside0 (w'.heap[w.heap.size]? = some (.cells #[.int .i64 0, .int .i64 0, .string ⟨#[]⟩] 48 (0, 0))) ∧ Aside0 (Below w.heap.size w w'))
  case atStart =>
    refine ⟨0, by omega, rfl, ⟨?_⟩, ⟨?_⟩, ⟨?_⟩⟩
    · exact (by simpa [rowC, bestTo] using heap_alloc_new (w.alloc (.cells #[.int .i64 0, .int .i64 0, .string ⟨#[]⟩] 48)) (.cells (rowC (rd_T48 xs 0)) 48))
    · exact blk_alloc (heap_alloc_new w _) _
    · exact below_alloc (below_alloc HB.out _) _
  case round =>
    clear a0 a1 a2 hq0 hq1 hn HB
    obtain ⟨i, hi, rfl, HM1, HZ, HB⟩ := hrel
    obtain ⟨m, hm⟩ : ∃ m, bestTo (fun x => decide (0 < x)) xs i = m := ⟨_, rfl⟩
    rw [hm] at HM1
    have HBT := Aside0.mk hm
    clear hm
    obtain ⟨j, hj⟩ : ∃ j, j = i + 1 := ⟨_, rfl⟩
    have HJ := Aside0.mk hj
    rw [← hj] at hi ⊢
    clear hj
    by_cases hlt : j < xs.length
    · obtain ⟨k1, rfl⟩ : ∃ k1, gk = k1 + 1 := ⟨gk - 1, by omega⟩
      have hq : (j : Int) < (xs.length : Int) := by omega
      have hp : (0 : Int) ≤ (j : Int) := by omega
      have hw1 : wrap64 ((j : Int) + 1) = ((j + 1 : Nat) : Int) := by have := HM.out; unfold wrap64; omega
      obtain ⟨ad', e', b0, b1, b2⟩ := at_T48 HR0.out j (by omega) (by omega)
      cases e'
      simp only [Int.toNat_natCast] at b0 b1 b2
      have hlt0 := World.block_lt_of_cell? w _ b0
      have hlt1 := World.block_lt_of_cell? w _ b1
      have hlt2 := World.block_lt_of_cell? w _ b2
      have HB0 : Aside0 (∀ W, Below w.heap.size w W → W.cell? (ad.add (j * 3)) = some (.int .i64 (rd_T48 xs j).f0) ∧ W.cell? ⟨(ad.add (j * 3)).block, (ad.add (j * 3)).off + 1, none⟩ = some (.int .i64 (rd_T48 xs j).f1) ∧ W.cell? ⟨(ad.add (j * 3)).block, (ad.add (j * 3)).off + 2, none⟩ = some (.string (rd_T48 xs j).f2)) :=
        ⟨fun W hW => ⟨(hW.cell hlt0).trans b0, (hW.cell hlt1).trans b1, (hW.cell hlt2).trans b2⟩⟩
      clear b0 b1 b2 hlt0 hlt1 hlt2
      obtain ⟨r, hr⟩ : ∃ r, rd_T48 xs j = r := ⟨_, rfl⟩
      rw [hr] at HB0
      have HRJ := Aside0.mk hr
      clear hr
      go_wp2
      refine start_ (n := 8) (S := fun w' => (w'.cell? (ad.add (j * 3)) = some (.int .i64 r.f0) ∧ w'.cell? ⟨(ad.add (j * 3)).block, (ad.add (j * 3)).off + 1, none⟩ = some (.int .i64 r.f1) ∧ w'.cell? ⟨(ad.add (j * 3)).block, (ad.add (j * 3)).off + 2, none⟩ = some (.string r.f2)) ∧ w'.cell? ⟨w.heap.size + 1, 0, none⟩ = some (.int .i64 m.f0) ∧ w'.cell? ⟨w.heap.size + 1, 1, none⟩ = some (.int .i64 m.f1) ∧ w'.cell? ⟨w.heap.size + 1, 2, none⟩ = some (.string m.f2)) (ds := []) #[false, false, false, false, false, false, false, false] (by kernel_rfl) rfl rfl ⟨HB0.out _ (below_drew1 HB.out), (blk_cell (blk_drew HM1.out) 0).trans rfl, (blk_cell (blk_drew HM1.out) 1).trans rfl, (blk_cell (blk_drew HM1.out) 2).trans rfl⟩ (fun hHeld => ?_); refine with_tabW rowMax.tab7 rowMax.bits7 (fun HT_ HW_ => ?_)
      have n0_ := Aside0.mk (below_drew1 HB.out)
      have n1_ := Aside0.mk (blk_drew HM1.out)
      have n2_ := Aside0.mk (blk_drew HZ.out)
      clear HB HM1 HZ
      generalize wr.drew = w3 at n0_ n1_ n2_ hHeld ⊢
      have HB := n0_
      have HM1 := n1_
      have HZ := n2_
      clear n0_ n1_ n2_
      refine pu_ 0 (some 20) (bs 8 1) ?_
      refine pu_ 1 (some 21) (bs 8 3) ?_
      refine pu_ 2 (some 22) (bs 8 7) ?_
      refine pu_ 3 (some 23) (bs 8 15) ?_
      refine take_ (i := 4) (N := (some 24)) (v := ?_) (a' := ?_) #[true, true, true, true, true, false, false, false] rfl rfl (take_ofW HT_.out HW_.out (by kernel_rfl)) (fun _ _ _ h => h) (Or.inl ⟨by rfl, ?_⟩) hHeld ?_ ?_
      rotate_left
      · rintro w' ⟨⟨s0, s1, s2⟩, s3, s4, s5⟩
        go_simp
        with_reducible rfl
      rotate_left
      · simp only [Act.put, List.setIfInBounds_toArray, List.set_cons_zero, List.set_cons_succ, i64_w, i32_w]
        rfl
      refine take_ (i := 5) (N := (some 25)) (v := ?_) (a' := ?_) #[true, true, true, true, true, true, false, false] rfl rfl (take_ofW HT_.out HW_.out (by kernel_rfl)) (fun _ _ _ h => h) (Or.inl ⟨by rfl, ?_⟩) hHeld ?_ ?_
      rotate_left
      · rintro w' ⟨⟨s0, s1, s2⟩, s3, s4, s5⟩
        go_simp
        with_reducible rfl
      rotate_left
      · simp only [Act.put, List.setIfInBounds_toArray, List.set_cons_zero, List.set_cons_succ, i64_w, i32_w]
        rfl
      refine one_ (i := 6) (N := (some 26)) (bs 8 127) rfl rfl (one_of HT_.out (by kernel_rfl)) (by decide) (fun K hK => ?_)
      have he := enters_ (P := Tryd.prog) (f := 45) Tryd.func45 (by kernel_rfl) rfl #[rowV r, rowV m] w3
      refine call_ 45 #[rowV r, rowV m] (by rfl) rfl (by unfold execOp; simp [resolve, Deferred.ofValue, invoke, Act.eval, he]; exact ⟨rfl, rfl⟩) ?_
      clear he
      refine (bySeq_calls r m _).mono ?_
      rintro e w4 ⟨rfl, hb⟩
      refine ⟨_, rfl, ?_⟩
      have n0_ := Aside0.mk (below_step HB.out hb)
      have n1_ := Aside0.mk (blk_below HM1.out hb)
      have n2_ := Aside0.mk (blk_below HZ.out hb)
      clear HB HM1 HZ hb
      have HB := n0_
      have HM1 := n1_
      have HZ := n2_
      clear n0_ n1_ n2_
      refine hK.out _ _ ⟨HB0.out _ HB.out, (blk_cell HM1.out 0).trans rfl, (blk_cell HM1.out 1).trans rfl, (blk_cell HM1.out 2).trans rfl⟩ (fun hHeld => ?_)
      clear hK K
      refine pt_ ?_
      obtain ⟨cv, hcv⟩ : ∃ c, cmp3 r.f0 m.f0 = c := ⟨_, rfl⟩
      rw [hcv]
      have HCV := Aside0.mk hcv
      clear hcv
      refine pu_ 7 (some 27) (bs 8 255) ?_
      refine done_ (done_of HT_.out (by kernel_rfl)) ?_
      have HNX : Aside0 (bestTo (fun x => decide (0 < x)) xs j = if decide (0 < cv) = true then r else m) := ⟨by rw [HJ.out, bestTo, ← HJ.out, HRJ.out, HBT.out, HCV.out]⟩
      by_cases hc : 0 < cv
      · have n3_ : Aside0 (bestTo (fun x => decide (0 < x)) xs j = r) := ⟨by rw [HNX.out, decide_eq_true hc]; rfl⟩
        obtain ⟨⟨s0, s1, s2⟩, -⟩ := hHeld
        have y0 : w4.cell? ⟨w.heap.size + 1, 0, none⟩ = some (.int .i64 m.f0) := (blk_cell HM1.out 0).trans rfl
        have y1 : w4.cell? ⟨w.heap.size + 1, 1, none⟩ = some (.int .i64 m.f1) := (blk_cell HM1.out 1).trans rfl
        have y2 : w4.cell? ⟨w.heap.size + 1, 2, none⟩ = some (.string m.f2) := (blk_cell HM1.out 2).trans rfl
        have z0 := blk_frozen HM1.out 0
        have z1 := blk_frozen HM1.out 1
        have z2 := blk_frozen HM1.out 2
        go_wp2
        go_roundg k1
        case measure => omega
        case rel =>
          refine ⟨j, by omega, by first | rfl | (simp [*]; done), ⟨?_⟩, ⟨?_⟩, ⟨?_⟩⟩
          · rw [n3_.out]
            exact blk_put (blk_put (blk_put (cs := rowC m) HM1.out 0 (.int .i64 r.f0) rfl) 1 (.int .i64 r.f1) rfl) 2 (.string r.f2) rfl
          · exact (Below.heap_setCell _ ⟨w.heap.size + 1, 2, none⟩ _ _ (by show w.heap.size ≠ w.heap.size + 1; omega)).trans ((Below.heap_setCell _ ⟨w.heap.size + 1, 1, none⟩ _ _ (by show w.heap.size ≠ w.heap.size + 1; omega)).trans ((Below.heap_setCell _ ⟨w.heap.size + 1, 0, none⟩ _ _ (by show w.heap.size ≠ w.heap.size + 1; omega)).trans HZ.out))
          · exact below_set (below_set (below_set HB.out (Nat.le_succ _)) (Nat.le_succ _)) (Nat.le_succ _)
      · have n3_ : Aside0 (bestTo (fun x => decide (0 < x)) xs j = m) := ⟨by rw [HNX.out, decide_eq_false hc]; rfl⟩
        clear hHeld
        go_wp2
        go_roundg k1
        case measure => omega
        case rel => exact ⟨j, by omega, by first | rfl | (simp [*]; done), ⟨by rw [n3_.out]; exact HM1.out⟩, HZ, HB⟩
    · have HE : Aside0 (i = xs.length - 1) := ⟨by have := HJ.out; omega⟩
      have hq : ¬ (j : Int) < (xs.length : Int) := by omega
      have y0 : wr.cell? ⟨w.heap.size + 1, 0, none⟩ = some (.int .i64 m.f0) := (blk_cell HM1.out 0).trans rfl
      have y1 : wr.cell? ⟨w.heap.size + 1, 1, none⟩ = some (.int .i64 m.f1) := (blk_cell HM1.out 1).trans rfl
      have y2 : wr.cell? ⟨w.heap.size + 1, 2, none⟩ = some (.string m.f2) := (blk_cell HM1.out 2).trans rfl
      have x0 : wr.cell? ⟨w.heap.size, 0, none⟩ = some (.int .i64 0) := (blk_cell HZ.out 0).trans rfl
      have x1 : wr.cell? ⟨w.heap.size, 1, none⟩ = some (.int .i64 0) := (blk_cell HZ.out 1).trans rfl
      have x2 : wr.cell? ⟨w.heap.size, 2, none⟩ = some (.string ⟨#[]⟩) := (blk_cell HZ.out 2).trans rfl
      have z0 := blk_frozen HZ.out 0
      have z1 := blk_frozen HZ.out 1
      have z2 := blk_frozen HZ.out 2
      clear hlt hi HM1
      go_wp2
      have hz := blk_put (blk_put (blk_put (cs := #[.int .i64 0, .int .i64 0, .string ⟨#[]⟩]) HZ.out 0 (.int .i64 m.f0) rfl) 1 (.int .i64 m.f1) rfl) 2 (.string m.f2) rfl
      have g0 := (blk_cell hz 0).trans (show _ = some (Value.int .i64 m.f0) from rfl)
      have g1 := (blk_cell hz 1).trans (show _ = some (Value.int .i64 m.f1) from rfl)
      have g2 := (blk_cell hz 2).trans (show _ = some (Value.string m.f2) from rfl)
      refine ⟨rfl, rowV m, by simp [results, Tryd.f48, go_sem, hu48, g0, g1, g2, rowV], by rw [← HBT.out, HE.out], ?_⟩
      exact below_set (below_set (below_set HB.out (Nat.le_refl _)) (Nat.le_refl _)) (Nat.le_refl _)
def chunk_Bounds.T3 : Bool × List (List Nat × List Nat) := (true, [([], []), ([0], [0]), ([1], [1]), ([2], [2]), ([3], [3]), ([], []), ([5], [5]), ([], []), ([7], [7]), ([8], [8]), ([9], [9]), ([6, 10], [6, 10]), ([11], [11]), ([12], [12]), ([4, 0, 1, 2, 3, 4], [4]), ([13, 14, 0, 1, 2, 3, 4, 5, 6, 7, 8, 9, 10, 11, 12, 13, 14], [13])])
def chunk_Bounds.B3 : List Nat := [0, 1, 3, 7, 15, 0, 32, 0, 128, 384, 896, 2016, 4064, 8160, 31, 32767]
theorem chunk_Bounds.tab3 : rtab .any (opsOf Tryd.f13 3) = chunk_Bounds.T3 := by kernel_rfl
theorem chunk_Bounds.bits3 : waitsOk chunk_Bounds.T3.2 chunk_Bounds.B3 = true := by kernel_rfl
def chunk_Bounds.T4 : Bool × List (List Nat × List Nat) := (true, [([], []), ([0], [0]), ([], []), ([1, 2], [1, 2]), ([3], [3]), ([], []), ([5], [5]), ([], []), ([6, 7, 3], [6, 7]), ([8], [8]), ([4, 8, 0, 1, 2, 3, 4], [4]), ([9, 10, 0, 1, 2, 3, 4, 5, 6, 7, 8, 9, 10], [9])])
def chunk_Bounds.B4 : List Nat := [0, 1, 0, 7, 15, 0, 32, 0, 239, 495, 511, 2047]
theorem chunk_Bounds.tab4 : rtab .any (opsOf Tryd.f13 4) = chunk_Bounds.T4 := by kernel_rfl
theorem chunk_Bounds.bits4 : waitsOk chunk_Bounds.T4.2 chunk_Bounds.B4 = true := by kernel_rfl
def chunk_Bounds.f (l0_0 : List S88) (l0_1 : List S48) : Option (Int × Int × Int × Int) :=
  (chunk_Right.f l0_0 l0_1).bind fun ok => if ok = true then some ((rd_T48 l0_1 0).f1, (rd_T48 l0_1 ((l0_1.length - 1 : Nat) : Int)).f1, (bestTo (fun x => decide (x < 0)) l0_1 (l0_1.length - 1)).f0, (bestTo (fun x => decide (0 < x)) l0_1 (l0_1.length - 1)).f0) else some (0, 0, 0, 0)
set_option maxHeartbeats 4000000 in
set_option maxRecDepth 100000 in
theorem chunk_Bounds.calls (A0_0 : Option Addr) (c0_0 : Nat) (l0_0 : List S88) (A0_1 : Option Addr) (c0_1 : Nat) (l0_1 : List S48) (r1 r2 r3 r4 : Int) (w : World) (hr0_0 : Kd.C k88 w A0_0 l0_0.length l0_0) (hc0_0 : l0_0.length ≤ c0_0) (hr0_1 : Kd.C k48 w A0_1 l0_1.length l0_1) (hc0_1 : l0_1.length ≤ c0_1) (hG : Laid w) (h : chunk_Bounds.f l0_0 l0_1 = some (r1, r2, r3, r4)) :
    Calls Tryd.prog 13 #[.agg #[.slice A0_0 l0_0.length c0_0, .slice A0_1 l0_1.length c0_1]] w fun e w' => e = .returned (.tuple #[.int .i64 r1, .int .i64 r2, .int .i64 r3, .int .i64 r4]) ∧ Below w.heap.size w w' := by
  have HR0 := Aside0.mk hr0_0
  have HR1 := Aside0.mk hr0_1
  have HC0 := Aside0.mk hc0_0
  have HC1 := Aside0.mk hc0_1
  have HGL := Aside0.mk hG
  have HM : Aside0 (l0_1.length ≤ 9223372036854775807) := ⟨Kd.C_max hr0_1⟩
  clear hr0_0 hc0_0 hr0_1 hc0_1 hG
  have hu28 := Tryd.underlying28
  have hu48 := Tryd.underlying48
  have hfd : ∀ (a b : Int) (c : ByteArray) (w : World), (Instr.field 48 (.agg #[.int .i64 a, .int .i64 b, .string c]) 0).run Tryd.prog w = .ok (.int .i64 a) w := fun _ _ _ _ => by kernel_rfl
  obtain ⟨ok, hok, h⟩ := Option.bind_eq_some_iff.1 h
  have HOK := Aside0.mk hok
  have HB := Aside0.mk (below_alloc (Below.refl w.heap.size w) (.cells #[.slice A0_0 l0_0.length c0_0, .slice A0_1 l0_1.length c0_1] 28))
  have HBX := Aside0.mk (heap_alloc_new w (.cells #[.slice A0_0 l0_0.length c0_0, .slice A0_1 l0_1.length c0_1] 28))
  cases ok with
  | false =>
    simp only [Bool.false_eq_true, if_false, Option.some.injEq, Prod.mk.injEq] at h
    obtain ⟨rfl, rfl, rfl, rfl⟩ := h
    clear hok
    go_enter Tryd.func13, Tryd.ntmps13
    go_wp2_with ((with_reducible refine gate_callee (f := 36) rfl ?_); refine goesL_ (some 8) rfl rfl Tryd.func36 (by kernel_rfl) rfl #[.agg #[.slice A0_0 l0_0.length c0_0, .slice A0_1 l0_1.length c0_1]] rfl (by (try simp only [List.map_toArray, List.map_cons, List.map_nil]); first | done | rfl) ?_; refine (chunk_Right.calls A0_0 c0_0 l0_0 A0_1 c0_1 l0_1 false _ (Kd.C_below HR0.out HB.out) HC0.out (Kd.C_below HR1.out HB.out) HC1.out (laid_below HGL.out HB.out) HOK.out).mono ?_; rintro e w2 ⟨rfl, hb⟩; refine ⟨_, rfl, ?_⟩; have n0_ := Aside0.mk (below_step HB.out hb); clear HB; have HB := n0_; clear n0_ hb)
    exact ⟨rfl, .tuple #[.int .i64 0, .int .i64 0, .int .i64 0, .int .i64 0], by simp [results, Tryd.f13, go_sem], rfl, HB.out⟩
  | true =>
    simp only [if_true, Option.some.injEq, Prod.mk.injEq] at h
    obtain ⟨h1, h2, h3, h4⟩ := h
    have hlen : 1 ≤ l0_1.length := by
      unfold chunk_Right.f at hok
      by_cases hf : chunkFit l0_0 l0_1
      · rw [if_pos hf] at hok
        have := Option.some.inj hok
        simp only [chunkR, Bool.and_eq_true, decide_eq_true_eq] at this
        exact this.1.2
      · rw [if_neg hf] at hok; cases hok
    clear hok
    have HN := Aside0.mk hlen
    obtain ⟨ad, rfl, a0, a1, a2⟩ := at_T48 HR1.out 0 (by omega) (by omega)
    have hadd : ad.add (Int.toNat 0 * 3) = ad := by simp [Addr.add]
    rw [hadd] at a0 a1 a2
    obtain ⟨ad', e', b0, b1, b2⟩ := at_T48 HR1.out ((l0_1.length - 1 : Nat) : Int) (by omega) (by omega)
    cases e'
    simp only [Int.toNat_natCast] at b0 b1 b2
    rw [h1] at a1
    rw [h2] at b1
    have hlt0 := World.block_lt_of_cell? w _ a1
    have hlt1 := World.block_lt_of_cell? w _ b1
    have HB0 : Aside0 (∀ W, Below w.heap.size w W → W.cell? ⟨ad.block, ad.off + 1, none⟩ = some (.int .i64 r1) ∧ W.cell? ⟨(ad.add ((l0_1.length - 1) * 3)).block, (ad.add ((l0_1.length - 1) * 3)).off + 1, none⟩ = some (.int .i64 r2)) :=
      ⟨fun W hW => ⟨(hW.cell hlt0).trans a1, (hW.cell hlt1).trans b1⟩⟩
    clear a0 a1 a2 b0 b1 b2 hlt0 hlt1 hadd h1 h2
    have H3 := Aside0.mk h3
    have H4 := Aside0.mk h4
    clear h3 h4
    have hq0 : (0 : Int) < (l0_1.length : Int) := by omega
    have hsub : wrap64 ((l0_1.length : Int) - 1) = ((l0_1.length - 1 : Nat) : Int) := by have := HM.out; unfold wrap64; omega
    have hq1 : ((l0_1.length - 1 : Nat) : Int) < (l0_1.length : Int) := by omega
    have hq2 : (0 : Int) ≤ ((l0_1.length - 1 : Nat) : Int) := by omega
    obtain ⟨li, hli⟩ : ∃ j, j = l0_1.length - 1 := ⟨_, rfl⟩
    rw [← hli] at hsub hq1 hq2 HB0 H3 H4
    have HLI := Aside0.mk hli
    clear hli
    have hq3 := eq_true (show 0 < l0_1.length by omega)
    have hq4 := eq_true (show li < l0_1.length by omega)
    replace hq1 := eq_true hq1
    replace hq2 := eq_true hq2
    clear hlen hq0
    go_enter Tryd.func13, Tryd.ntmps13
    go_wp2_with ((with_reducible refine gate_callee (f := 36) rfl ?_); refine goesL_ (some 8) rfl rfl Tryd.func36 (by kernel_rfl) rfl #[.agg #[.slice A0_0 l0_0.length c0_0, .slice (some ad) l0_1.length c0_1]] rfl (by (try simp only [List.map_toArray, List.map_cons, List.map_nil]); first | done | rfl) ?_; refine (chunk_Right.calls A0_0 c0_0 l0_0 (some ad) c0_1 l0_1 true _ (Kd.C_below HR0.out HB.out) HC0.out (Kd.C_below HR1.out HB.out) HC1.out (laid_below HGL.out HB.out) HOK.out).mono ?_; rintro e w2 ⟨rfl, hb⟩; refine ⟨_, rfl, ?_⟩; have n0_ := Aside0.mk (below_step HB.out hb); have n1_ := Aside0.mk (blk_below HBX.out hb); clear HB HBX; have HB := n0_; have HBX := n1_; clear n0_ n1_ hb)
    refine start_ (n := 16) (S := fun w' => w'.cell? ⟨w.heap.size, 1, none⟩ = some (.slice (some ad) l0_1.length c0_1) ∧ w'.cell? ⟨ad.block, ad.off + 1, none⟩ = some (.int .i64 r1) ∧ w'.cell? ⟨(ad.add (li * 3)).block, (ad.add (li * 3)).off + 1, none⟩ = some (.int .i64 r2)) (ds := []) #[false, false, false, false, false, false, false, false, false, false, false, false, false, false, false, false] (by kernel_rfl) rfl rfl ⟨(blk_cell (blk_drew HBX.out) 1).trans rfl, HB0.out _ (below_drew1 HB.out)⟩ (fun hHeld => ?_); refine with_tabW chunk_Bounds.tab3 chunk_Bounds.bits3 (fun HT_ HW_ => ?_)
    have n0_ := Aside0.mk (below_drew1 HB.out)
    have n1_ := Aside0.mk (blk_drew HBX.out)
    clear HB HBX
    generalize w2.drew = w3 at n0_ n1_ hHeld ⊢
    have HB := n0_
    have HBX := n1_
    clear n0_ n1_
    refine pu_ 0 (some 10) (bs 16 1) ?_
    refine tk_ 1 (some 11) (bs 16 3) ?_
    refine pu_ 2 (some 12) (bs 16 7) ?_
    refine pu_ 3 (some 13) (bs 16 15) ?_
    refine tk_ 4 (some 14) (bs 16 31) ?_
    refine pu_ 5 (some 15) (bs 16 63) ?_
    refine tk_ 6 (some 16) (bs 16 127) ?_
    refine pu_ 7 (some 17) (bs 16 255) ?_
    refine tk_ 8 (some 18) (bs 16 511) ?_
    refine pu_ 9 (some 19) (bs 16 1023) ?_
    refine pu_ 10 (some 20) (bs 16 2047) ?_
    refine pu_ 11 (some 21) (bs 16 4095) ?_
    refine pu_ 12 (some 22) (bs 16 8191) ?_
    refine tk_ 13 (some 23) (bs 16 16383) ?_
    refine pu_ 14 (some 2) (bs 16 32767) ?_
    refine pu_ 15 (some 3) (bs 16 65535) ?_
    refine done_ (done_of HT_.out (by kernel_rfl)) ?_
    clear hHeld
    go_wp2
    refine start_ (n := 12) (S := fun w' => w'.cell? ⟨w.heap.size, 1, none⟩ = some (.slice (some ad) l0_1.length c0_1) ∧ w'.cell? ⟨ad.block, ad.off + 1, none⟩ = some (.int .i64 r1) ∧ w'.cell? ⟨(ad.add (li * 3)).block, (ad.add (li * 3)).off + 1, none⟩ = some (.int .i64 r2)) (ds := []) #[false, false, false, false, false, false, false, false, false, false, false, false] (by kernel_rfl) rfl rfl ⟨(blk_cell (blk_drew HBX.out) 1).trans rfl, HB0.out _ (below_drew1 HB.out)⟩ (fun hHeld => ?_); refine with_tabW chunk_Bounds.tab4 chunk_Bounds.bits4 (fun HT_ HW_ => ?_)
    have n0_ := Aside0.mk (below_drew1 HB.out)
    have n1_ := Aside0.mk (blk_drew HBX.out)
    clear HB HBX
    generalize w3.drew = w4 at n0_ n1_ hHeld ⊢
    have HB := n0_
    have HBX := n1_
    clear n0_ n1_
    refine pu_ 0 (some 24) (bs 12 1) ?_
    refine tk_ 1 (some 25) (bs 12 3) ?_
    refine pu_ 2 (some 26) (bs 12 7) ?_
    refine pu_ 5 (some 29) (bs 12 39) ?_
    refine tk_ 6 (some 30) (bs 12 103) ?_
    refine pu_ 7 (some 31) (bs 12 231) ?_
    refine one_ (i := 3) (N := (some 27)) (bs 12 239) rfl rfl (one_of HT_.out (by kernel_rfl)) (by decide) (fun K hK => ?_)
    have he := enters_ (P := Tryd.prog) (f := 47) Tryd.func47 (by kernel_rfl) rfl #[.slice (some ad) l0_1.length c0_1, .func (.func 45) #[] #[]] w4
    refine goes_ Tryd.func47 (by kernel_rfl) rfl #[.slice (some ad) l0_1.length c0_1, .func (.func 45) #[] #[]] (by rfl) rfl rfl (by (try simp only [List.map_toArray, List.map_cons, List.map_nil]); first | done | rfl) ?_
    refine (rowMin.calls (some ad) c0_1 l0_1 _ (Kd.C_below HR1.out HB.out) HN.out).mono ?_
    rintro e w5 ⟨rfl, hb⟩
    refine ⟨_, rfl, ?_⟩
    have n0_ := Aside0.mk (below_step HB.out hb)
    have n1_ := Aside0.mk (blk_below HBX.out hb)
    clear HB HBX hb he
    have HB := n0_
    have HBX := n1_
    clear n0_ n1_
    refine hK.out _ _ ⟨(blk_cell HBX.out 1).trans rfl, HB0.out _ HB.out⟩ (fun hHeld => ?_)
    clear hK K
    rw [← HLI.out]
    dsimp only [rowV]
    rw [H3.out]
    refine pt_ ?_
    refine pu_ 4 (some 28) (bs 12 255) ?_
    refine one_ (i := 8) (N := (some 32)) (bs 12 511) rfl rfl (one_of HT_.out (by kernel_rfl)) (by decide) (fun K hK => ?_)
    have he := enters_ (P := Tryd.prog) (f := 48) Tryd.func48 (by kernel_rfl) rfl #[.slice (some ad) l0_1.length c0_1, .func (.func 45) #[] #[]] w5
    refine goes_ Tryd.func48 (by kernel_rfl) rfl #[.slice (some ad) l0_1.length c0_1, .func (.func 45) #[] #[]] (by rfl) rfl rfl (by (try simp only [List.map_toArray, List.map_cons, List.map_nil]); first | done | rfl) ?_
    refine (rowMax.calls (some ad) c0_1 l0_1 _ (Kd.C_below HR1.out HB.out) HN.out).mono ?_
    rintro e w6 ⟨rfl, hb⟩
    refine ⟨_, rfl, ?_⟩
    have n0_ := Aside0.mk (below_step HB.out hb)
    have n1_ := Aside0.mk (blk_below HBX.out hb)
    clear HB HBX hb he
    have HB := n0_
    have HBX := n1_
    clear n0_ n1_
    refine hK.out _ _ ⟨(blk_cell HBX.out 1).trans rfl, HB0.out _ HB.out⟩ (fun hHeld => ?_)
    clear hK K
    rw [← HLI.out]
    dsimp only [rowV]
    rw [H4.out]
    refine pt_ ?_
    refine pu_ 9 (some 33) (bs 12 1023) ?_
    refine pu_ 10 (some 4) (bs 12 2047) ?_
    refine pu_ 11 (some 5) (bs 12 4095) ?_
    refine done_ (done_of HT_.out (by kernel_rfl)) ?_
    go_wp2
    exact ⟨rfl, .tuple #[.int .i64 r1, .int .i64 r2, .int .i64 r3, .int .i64 r4], by simp [results, Tryd.f13, go_sem], rfl, HB.out⟩
end Go.Proofs.YtkbmmgpdnienfaaDoor.P
