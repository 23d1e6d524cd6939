/- Part 28 of the proof of chunkBack_card: its words, walks and plain laws, one text behind the other. -/
import Derived.Test.YtkbmmgpdnienfaaDoorK921
import Derived.Test.YtkbmmgpdnienfaaDoorK911
import Derived.Test.YtkbmmgpdnienfaaDoorK927
import Derived.Test.YtkbmmgpdnienfaaDoorK96
set_option linter.unusedVariables false
set_option linter.unusedSimpArgs false
namespace Go.Proofs.YtkbmmgpdnienfaaDoor.P
open Go.RowKit Go.Proofs.YtkbmmgpdnienfaaDoorW.PrintWords Go.Proofs.YtkbmmgpdnienfaaDoorW.PrintLast Go.Proofs.YtkbmmgpdnienfaaDoorW.PrintMore
attribute [local go_sem] Oper.semAt_some
def putRow (k : Nat) (b : List Int) (was r : S48) (first : Bool) : Option (List Int) :=
  (codec_Number.f k (wrap64 (r.f1 - was.f1))).bind fun tm => (codec_Signed.f k (wrap64 (r.f0 - was.f0))).bind fun sg =>
  (if first then codec_Number.f k r.f0 else some sg).bind fun sq => (codec_Text.f k r.f2).bind fun ln => slices_Concat_byte_byte.f [b, tm.1, sq.1, ln.1]
def putRows (k : Nat) (b0 : List Int) (xs : List S48) : Nat → Option (List Int)
  | 0 => some b0
  | j + 1 => (putRows k b0 xs j).bind fun b => putRow k b (wasAt xs j) (rd_T48 xs j) (j == 0)
def putB (k : Nat) (lab : List S88) (xs : List S48) : Option (List Int × Int) :=
  (label_Bytes.f k lab).bind fun lb => (codec_Text.f k (strOfNums lb.1)).bind fun tx => (codec_Number.f k (xs.length : Int)).bind fun nb =>
  if tx.1.length + nb.1.length < 140737488355328 then (putRows k (tx.1 ++ nb.1) xs xs.length).bind fun b => some (b, 0) else none
def chunk_Put.f (l0_0 : List S88) (l0_1 : List S48) : Option (List Int × Int) :=
  (chunk_Right.f l0_0 l0_1).bind fun ok => if ok = true then putB (l0_0.length + 100) l0_0 l0_1 else some ([], 1)
theorem putRows_some {k : Nat} {b0 : List Int} {xs : List S48} {r : List Int} : ∀ n, putRows k b0 xs n = some r → ∀ j, j ≤ n → ∃ b, putRows k b0 xs j = some b
  | 0, _, j, hj => ⟨b0, by rw [show j = 0 by omega]; rfl⟩
  | n + 1, h, j, hj => by
    by_cases e : j = n + 1
    · subst e; exact ⟨r, h⟩
    · obtain ⟨b, hb, _⟩ := Option.bind_eq_some_iff.1 h
      exact putRows_some n hb j (by omega)
structure PInv (w : World) (g6 g10 D0 : Nat) (A0 A1 : Option Addr) (c0 c1 : Nat) (lab : List S88) (xs : List S48) (b : List Int) (first : Bool) (W : World) : Prop where
  b0 : W.heap[w.heap.size]? = some (.cells #[.slice A0 lab.length c0, .slice A1 xs.length c1] 28 (0, 0))
  row : ∃ v, W.heap[g6]? = some (.cells #[v] 56 (0, 0)) ∧ Kd.R (Kd.int .u8) 5 W w.heap.size (fun i => i ≠ g6 ∧ i ≠ g10 ∧ (i < D0 ∨ D0 + 2 < i)) v b
  b10 : W.heap[g10]? = some (.cells #[.bool first] 4 (0, 0))
  below : Below w.heap.size w W
theorem PInv.grown {w : World} {g6 g10 D0 : Nat} {A0 A1 : Option Addr} {c0 c1 : Nat} {lab : List S88} {xs : List S48} {b : List Int} {first : Bool} {W W1 : World} {row : Option Nat} (h : PInv w g6 g10 D0 A0 A1 c0 c1 lab xs b first W) (hw : w.heap.size < g6) (h6 : g6 < D0) (h10 : g10 < D0) (hg : W.grownBy W1 row) (hr : ∀ r, row = some r → D0 ≤ r ∧ r ≤ D0 + 2) : PInv w g6 g10 D0 A0 A1 c0 c1 lab xs b first W1 := by
  have ne : ∀ i, i < D0 → some i ≠ row := fun i hi e => by have := hr i e.symm; omega
  obtain ⟨v, hv, hR⟩ := h.row
  exact ⟨blk_grown h.b0 hg (ne _ (by omega)), ⟨v, blk_grown hv hg (ne _ h6), Kd.R_grown hR hg (fun k hk e => by have := hr k e.symm; omega)⟩, blk_grown h.b10 hg (ne _ h10), h.below.grown hg h.below.size (fun r e => by have := hr r e; omega)⟩
theorem PInv.below0 {w : World} {g6 g10 D0 : Nat} {A0 A1 : Option Addr} {c0 c1 : Nat} {lab : List S88} {xs : List S48} {b : List Int} {first : Bool} {W W1 : World} (h : PInv w g6 g10 D0 A0 A1 c0 c1 lab xs b first W) (hb : Below W.heap.size W W1) : PInv w g6 g10 D0 A0 A1 c0 c1 lab xs b first W1 := by
  obtain ⟨v, hv, hR⟩ := h.row
  exact ⟨blk_below h.b0 hb, ⟨v, blk_below hv hb, Kd.R_below hR hb⟩, blk_below h.b10 hb, below_step h.below hb⟩
theorem put_start {w w6 : World} {g6 : Nat} {A0 A1 At A6 : Option Addr} {c0 c1 ct c6 : Nat} {lab : List S88} {xs : List S48} {tx b : List Int} (HB : Below w.heap.size w w6) (HBX : w6.heap[w.heap.size]? = some (.cells #[.slice A0 lab.length c0, .slice A1 xs.length c1] 28 (0, 0))) (HB6 : w6.heap[g6]? = some (.cells #[.slice At tx.length ct] 56 (0, 0))) (HG : w.heap.size < g6)
    (HOT : Kd.R (Kd.int .u8) 5 w6 w.heap.size (fun _ => True) (.slice A6 b.length c6) b) :
    PInv w g6 w6.heap.size (w6.heap.size + 1 + 1) A0 A1 c0 c1 lab xs b true (((w6.setCell ⟨g6, 0, none⟩ (.slice A6 b.length c6)).alloc (.cells #[.bool true] 4)).alloc (.cells #[.slice A1 xs.length c1] 26)) := by
  have n5 : (w6.setCell ⟨g6, 0, none⟩ (.slice A6 b.length c6)).heap[w.heap.size]? = some (.cells #[.slice A0 lab.length c0, .slice A1 xs.length c1] 28 (0, 0)) := (Below.heap_setCell w6 ⟨g6, 0, none⟩ _ _ (by show w.heap.size ≠ g6; omega)).trans HBX
  refine ⟨blk_alloc (blk_alloc n5 _) _, ⟨.slice A6 b.length c6, blk_alloc (blk_alloc (blk_put HB6 0 _ rfl) _) _, ?_⟩, ?_, ?_⟩
  · refine Kd.R_alloc (Kd.R_alloc ?_ _) _
    refine Kd.R_mono (Kd.R_far (p := ⟨g6, 0, none⟩) (Kd.R_types (Kd.R_bound HOT) HB6 (by decide)) (fun _ hk => hk.2) _) (fun k hk => ⟨hk.2, ?_, ?_⟩)
    · have := hk.1.2.2.1; omega
    · have := hk.1.2.2.1; left; omega
  · have := heap_alloc_new (w6.setCell ⟨g6, 0, none⟩ (.slice A6 b.length c6)) (.cells #[.bool true] 4)
    rw [show (w6.setCell ⟨g6, 0, none⟩ (.slice A6 b.length c6)).heap.size = w6.heap.size from by simp] at this
    exact blk_alloc this _
  · exact below_alloc (below_alloc (HB.grown (grown_set w6 g6 0 _) HB.size (fun r e => by cases e; omega)) _) _
structure PIn (w : World) (g6 g10 D0 g : Nat) (A0 A1 : Option Addr) (c0 c1 : Nat) (lab : List S88) (xs : List S48) (b : List Int) (first : Bool) (was r : S48) (W2 W : World) : Prop where
  inv : PInv w g6 g10 D0 A0 A1 c0 c1 lab xs b first W
  was : W.heap[g]? = some (.cells (rowC was) 48 (0, 0))
  row : W.heap[g + 1]? = some (.cells (rowC r) 48 (0, 0))
  kp : Below W2.heap.size W2 W
theorem PIn.below {w : World} {g6 g10 D0 g : Nat} {A0 A1 : Option Addr} {c0 c1 : Nat} {lab : List S88} {xs : List S48} {b : List Int} {first : Bool} {was r : S48} {W2 W W1 : World} (h : PIn w g6 g10 D0 g A0 A1 c0 c1 lab xs b first was r W2 W) (hb : Below W.heap.size W W1) : PIn w g6 g10 D0 g A0 A1 c0 c1 lab xs b first was r W2 W1 :=
  ⟨h.inv.below0 hb, blk_below h.was hb, blk_below h.row hb, below_step h.kp hb⟩
theorem put_round_end {w : World} {g6 g10 D0 g base : Nat} {A0 A1 : Option Addr} {c0 c1 : Nat} {lab : List S88} {xs : List S48} {b b' : List Int} {first : Bool} {was r : S48} {W2 W : World} {v : Value} (h : PIn w g6 g10 D0 g A0 A1 c0 c1 lab xs b first was r W2 W) (hR : Kd.R (Kd.int .u8) 5 W base (fun _ => True) v b') (hw : w.heap.size < g6) (h6 : g6 < g10) (h10 : g10 < D0) (hbase : D0 + 2 < base) :
    KpW (fun i => i = g6 ∨ i = g10) W2 ((W.setCell ⟨g6, 0, none⟩ v).setCell ⟨g10, 0, none⟩ (.bool false)) ∧ PInv w g6 g10 D0 A0 A1 c0 c1 lab xs b' false ((W.setCell ⟨g6, 0, none⟩ v).setCell ⟨g10, 0, none⟩ (.bool false)) := by
  obtain ⟨v0, hv0, _⟩ := h.inv.row
  have e1 : ∀ (i : Nat) (o : Obj), i ≠ g6 → W.heap[i]? = some o → (W.setCell ⟨g6, 0, none⟩ v).heap[i]? = some o := fun i o hne hh => (Below.heap_setCell W ⟨g6, 0, none⟩ _ _ hne).trans hh
  have e2 : ∀ (i : Nat) (o : Obj), i ≠ g10 → (W.setCell ⟨g6, 0, none⟩ v).heap[i]? = some o → ((W.setCell ⟨g6, 0, none⟩ v).setCell ⟨g10, 0, none⟩ (.bool false)).heap[i]? = some o := fun i o hne hh => (Below.heap_setCell (W.setCell ⟨g6, 0, none⟩ v) ⟨g10, 0, none⟩ _ _ hne).trans hh
  refine ⟨((KpW.of_below h.kp).trans (KpW.of_grown (grown_set W g6 0 v) (fun r e => by cases e; exact .inl rfl))).trans (KpW.of_grown (grown_set _ g10 0 _) (fun r e => by cases e; exact .inr rfl)), ?_, ⟨v, ?_, ?_⟩, ?_, ?_⟩
  · exact e2 _ _ (by omega) (e1 _ _ (by omega) h.inv.b0)
  · exact e2 _ _ (by omega) (blk_put hv0 0 v rfl)
  · refine Kd.R_lower (Kd.R_mono (Kd.R_far (p := ⟨g10, 0, none⟩) (Kd.R_far (p := ⟨g6, 0, none⟩) (Kd.R_bound hR) (fun k hk => by have := hk.2.1; show k ≠ g6; omega) v) (fun k hk => by have := hk.2.1; show k ≠ g10; omega) (.bool false)) (fun k hk => ⟨by have := hk.2.1; omega, by have := hk.2.1; omega, by have := hk.2.1; omega⟩)) (by omega)
  · exact blk_put (e1 _ _ (by omega) h.inv.b10) 0 (.bool false) rfl
  · exact (h.inv.below.grown (grown_set W g6 0 v) h.inv.below.size (fun r e => by cases e; omega)).grown (grown_set _ g10 0 _) (Nat.le_trans h.inv.below.size (grown_set W g6 0 v).size) (fun r e => by cases e; omega)
theorem put_after {w w5 w6 : World} {g : Nat} {A0 A1 At : Option Addr} {c0 c1 ct n0 n1 : Nat} {tx b0 bb : List Int} {v6 : Value} (hB0 : b0 = bb) (HB : Below w.heap.size w w5) (HBX : w5.heap[w.heap.size]? = some (.cells #[.slice A0 n0 c0, .slice A1 n1 c1] 28 (0, 0))) (HB6 : w5.heap[g]? = some (.cells #[.slice At tx.length ct] 56 (0, 0))) (HG : w.heap.size < g)
    (HOT : Kd.R (Kd.int .u8) 5 w5 w.heap.size (fun _ => True) (.slice At tx.length ct) tx) (ho : Kd.R (Kd.int .u8) 5 w6 w.heap.size (fun _ => True) v6 bb) (hg : w5.grownBy w6 (Value.slice At tx.length ct).ownBlock) :
    ∃ A6 c6, v6 = .slice A6 b0.length c6 ∧ Aside0 (Kd.R (Kd.int .u8) 5 w6 w.heap.size (fun _ => True) (.slice A6 b0.length c6) b0) ∧ Aside0 (w6.heap[w.heap.size]? = some (.cells #[.slice A0 n0 c0, .slice A1 n1 c1] 28 (0, 0))) ∧ Aside0 (w6.heap[g]? = some (.cells #[.slice At tx.length ct] 56 (0, 0))) ∧
      w6.cell? ⟨g, 0, none⟩ = some (.slice At tx.length ct) ∧ w6.frozen? ⟨g, 0, none⟩ = false ∧
      ((w6.setCell ⟨g, 0, none⟩ (.slice A6 b0.length c6)).alloc (.cells #[.bool true] 4)).cell? ⟨w.heap.size, 1, none⟩ = some (.slice A1 n1 c1) := by
  subst hB0
  obtain ⟨A6, c6, rfl⟩ := Kd.R_slice ho
  have n1 := blk_grown HBX hg (Kd.R_ne HOT HBX (by decide))
  have n4 := blk_grown HB6 hg (Kd.R_ne HOT HB6 (by decide))
  have n5 : (w6.setCell ⟨g, 0, none⟩ (.slice A6 b0.length c6)).heap[w.heap.size]? = some (.cells #[.slice A0 n0 c0, .slice A1 _ c1] 28 (0, 0)) := (Below.heap_setCell w6 ⟨g, 0, none⟩ _ _ (by show w.heap.size ≠ g; omega)).trans n1
  exact ⟨A6, c6, rfl, ⟨ho⟩, ⟨n1⟩, ⟨n4⟩, (blk_cell n4 0).trans rfl, blk_frozen n4 0, (blk_cell (blk_alloc n5 _) 1).trans rfl⟩
set_option maxHeartbeats 4000000 in
set_option maxRecDepth 100000 in
theorem chunk_Put.calls (A0_0 : Option Addr) (c0_0 : Nat) (l0_0 : List S88) (A0_1 : Option Addr) (c0_1 : Nat) (l0_1 : List S48) (r1 : List Int) (r2 : Int) (w : World) (hr0_0 : Kd.C k88 w A0_0 l0_0.length l0_0) (hc0_0 : l0_0.length ≤ c0_0) (hr0_1 : Kd.C k48 w A0_1 l0_1.length l0_1) (hc0_1 : l0_1.length ≤ c0_1) (hG : Laid w) (h : chunk_Put.f l0_0 l0_1 = some (r1, r2)) :
    Calls Tryd.prog 32 #[.agg #[.slice A0_0 l0_0.length c0_0, .slice A0_1 l0_1.length c0_1]] w fun e w' => ∃ v0_ : Value, e = .returned (.tuple #[v0_, .int .i64 r2]) ∧ Kd.R (Kd.int .u8) 5 w' w.heap.size (fun _ => True) v0_ r1 ∧ Below w.heap.size w w' := by
  have HR0 := Aside0.mk hr0_0
  have HR1 := Aside0.mk hr0_1
  have HC0 := Aside0.mk hc0_0
  have HC1 := Aside0.mk hc0_1
  have HGL := Aside0.mk hG
  clear hr0_0 hc0_0 hr0_1 hc0_1 hG
  obtain ⟨ok, hok, h⟩ := Option.bind_eq_some_iff.1 h
  have HOK := Aside0.mk hok
  clear hok
  have HB := Aside0.mk (below_alloc (Below.refl w.heap.size w) (.cells #[.slice A0_0 l0_0.length c0_0, .slice A0_1 l0_1.length c0_1] 28))
  have HBX := Aside0.mk (heap_alloc_new w (.cells #[.slice A0_0 l0_0.length c0_0, .slice A0_1 l0_1.length c0_1] 28))
  refine (callsIn_wide (n := 3)).1 ?_
  refine callsIn_of_wp_marks Tryd.func32 rfl trivial ?_ rfl
  simp only [Tryd.ntmps32, List.size_toArray, List.length_cons, List.length_nil, Nat.reduceAdd, Nat.reduceSub, Array.replicate_succ, Array.replicate_zero, List.push_toArray, List.append_toArray, List.nil_append, List.cons_append]
  refine wpIn_wide.2 ?_
  cases ok with
  | false =>
    simp only [Bool.false_eq_true, if_false, Option.some.injEq, Prod.mk.injEq] at h
    obtain ⟨rfl, rfl⟩ := h
    go_wp2_with ((with_reducible refine gate_callee (f := 36) rfl ?_); refine goesL_ (some 20) rfl rfl Tryd.func36 (by kernel_rfl) rfl #[.agg #[.slice A0_0 l0_0.length c0_0, .slice A0_1 l0_1.length c0_1]] rfl (by (try simp only [List.map_toArray, List.map_cons, List.map_nil]); first | done | rfl) ?_; refine (chunk_Right.calls A0_0 c0_0 l0_0 A0_1 c0_1 l0_1 false _ (Kd.C_below HR0.out HB.out) HC0.out (Kd.C_below HR1.out HB.out) HC1.out (laid_below HGL.out HB.out) HOK.out).mono ?_; rintro e w2 ⟨rfl, hb⟩; refine ⟨_, rfl, ?_⟩; have n0_ := Aside0.mk (below_step HB.out hb); clear HB; have HB := n0_; clear n0_ hb)
    exact ⟨.tuple #[.slice none 0 0, .int .i64 1], by simp [results, Tryd.f32, go_sem], _, rfl, Kd.R_nil _ _ _ _ _, HB.out⟩
  | true =>
    rw [if_pos rfl] at h
    obtain ⟨K, hK⟩ : ∃ K, K = l0_0.length + 100 := ⟨_, rfl⟩
    rw [← hK] at h
    clear hK
    obtain ⟨⟨lb, le⟩, A1_, h⟩ := Option.bind_eq_some_iff.1 h
    obtain ⟨⟨tx, te⟩, A2_, h⟩ := Option.bind_eq_some_iff.1 h
    obtain ⟨⟨nb, ne⟩, A3_, h⟩ := Option.bind_eq_some_iff.1 h
    by_cases hsz : tx.length + nb.length < 140737488355328
    case neg => simp only [hsz, if_false] at h; cases h
    simp only [hsz, if_true] at h
    obtain ⟨rb, A4_, h⟩ := Option.bind_eq_some_iff.1 h
    simp only [Option.some.injEq, Prod.mk.injEq] at h
    obtain ⟨rfl, rfl⟩ := h
    obtain ⟨b0, hb0⟩ : ∃ b, b = tx ++ nb := ⟨_, rfl⟩
    rw [← hb0] at A4_
    have NB0 := Aside0.mk hb0
    clear hb0
    have A1 := Aside0.mk A1_
    have A2 := Aside0.mk A2_
    have A3 := Aside0.mk A3_
    have A4 := Aside0.mk A4_
    have HSZ := Aside0.mk hsz
    clear A1_ A2_ A3_ A4_ hsz
    go_wp2_with (first
      | ((with_reducible refine gate_callee (f := 36) rfl ?_); refine goesL_ (some 20) rfl rfl Tryd.func36 (by kernel_rfl) rfl #[.agg #[.slice A0_0 l0_0.length c0_0, .slice A0_1 l0_1.length c0_1]] rfl (by (try simp only [List.map_toArray, List.map_cons, List.map_nil]); first | done | rfl) ?_; refine (chunk_Right.calls A0_0 c0_0 l0_0 A0_1 c0_1 l0_1 true _ (Kd.C_below HR0.out HB.out) HC0.out (Kd.C_below HR1.out HB.out) HC1.out (laid_below HGL.out HB.out) HOK.out).mono ?_; rintro e w2 ⟨rfl, hb⟩; refine ⟨_, rfl, ?_⟩; have n0_ := Aside0.mk (below_step HB.out hb); have n1_ := Aside0.mk (blk_below HBX.out hb); clear HB HBX; have HB := n0_; have HBX := n1_; clear n0_ n1_ hb; have hx0 : w2.cell? ⟨w.heap.size, 0, none⟩ = some (.slice A0_0 l0_0.length c0_0) := (blk_cell HBX.out 0).trans rfl)
      | ((with_reducible refine gate_callee (f := 60) rfl ?_); refine goesL_ (some 25) rfl rfl Tryd.func60 (by kernel_rfl) rfl #[.slice A0_0 l0_0.length c0_0] rfl (by (try simp only [List.map_toArray, List.map_cons, List.map_nil]); first | done | rfl) ?_; refine (label_Bytes.calls K A0_0 c0_0 l0_0 lb le _ (Kd.C_below HR0.out HB.out) HC0.out (laid_below HGL.out HB.out) A1.out).mono ?_; rintro e w3 ⟨v3, rfl, ho, hb⟩; refine ⟨_, rfl, ?_⟩; have n0_ := Aside0.mk (below_step HB.out hb); have n1_ := Aside0.mk (blk_below HBX.out hb); clear HB HBX; have HB := n0_; have HBX := n1_; clear n0_ n1_ hb; obtain ⟨Al, cl, rfl⟩ := Kd.R_slice ho; have hcv := Kd.C_string (P := Tryd.prog) (src := 56) (dst := 9) (n := lb.length) (c := cl) Tryd.underlying56 Tryd.underlying5 Tryd.underlying9 (Kd.R_reads' ho).2.2; clear ho hx0)
      | ((with_reducible refine gate_callee (f := 61) rfl ?_); refine goesL_ (some 31) rfl rfl Tryd.func61 (by kernel_rfl) rfl #[.string (strOfNums lb)] rfl (by (try simp only [List.map_toArray, List.map_cons, List.map_nil]); first | done | rfl) ?_; refine (codec_Text.calls K _ tx te _ A2.out).mono ?_; rintro e w4 ⟨v4, rfl, ho, hb⟩; refine ⟨_, rfl, ?_⟩; have n2_ := Aside0.mk (Kd.R_lower ho HB.out.size); have n0_ := Aside0.mk (below_step HB.out hb); have n1_ := Aside0.mk (blk_below HBX.out hb); clear HB HBX; have HB := n0_; have HBX := n1_; have HOT := n2_; clear n0_ n1_ n2_ hb ho hcv; obtain ⟨At, ct, rfl⟩ := Kd.R_slice HOT.out; have hx1 : (w4.alloc (.cells #[.slice At tx.length ct] 56)).cell? ⟨w.heap.size, 1, none⟩ = some (.slice A0_1 l0_1.length c0_1) := (blk_cell (blk_alloc HBX.out _) 1).trans rfl)
      | ((with_reducible refine gate_callee (f := 62) rfl ?_); refine goesL_ (some 38) rfl rfl Tryd.func62 (by kernel_rfl) rfl #[.int .i64 (l0_1.length : Int)] rfl (by (try simp only [List.map_toArray, List.map_cons, List.map_nil]); first | done | rfl) ?_; refine (codec_Number.calls K _ nb ne _ A3.out).mono ?_; rintro e w5 ⟨v5, rfl, ho, hb⟩; refine ⟨_, rfl, ?_⟩; have n3_ := Aside0.mk (Kd.R_below (Kd.R_alloc HOT.out _) hb); have n2_ := Aside0.mk ho; have n0_ := Aside0.mk (below_step (below_alloc HB.out _) hb); have n1_ := Aside0.mk (blk_below (blk_alloc HBX.out _) hb); have n4_ := Aside0.mk (blk_below (heap_alloc_new w4 (.cells #[.slice At tx.length ct] 56)) hb); have n5_ : Aside0 (w.heap.size < w4.heap.size) := ⟨(Array.getElem?_eq_some_iff.1 HBX.out).1⟩; clear HB HBX HOT; have HB := n0_; have HBX := n1_; have HOT := n3_; have HON := n2_; have HB6 := n4_; have HG6 := n5_; clear n0_ n1_ n2_ n3_ n4_ n5_ hb ho hx1; obtain ⟨An, cn, rfl⟩ := Kd.R_slice HON.out; have hc6 : w5.cell? ⟨w4.heap.size, 0, none⟩ = some (.slice At tx.length ct) := (blk_cell HB6.out 0).trans rfl)
      | ((with_reducible refine gate_builtin (b := .append) (xs := #[.tmp 41, .tmp 42]) rfl ?_); at_builtin; refine Kd.R_append_rows (Kd.int .u8) (w0 := w) w.heap.size rfl (.tmp 41) (.tmp 42) 56 5 (.int .u8 0) 1 rfl Tryd.underlying56 info5 rfl (by decide) (by omega) _ tx nb _ _ _ (fun _ => True) (fun _ => False) rfl rfl HOT.out (Kd.R_reads' HON.out).2.2 (fun _ _ h => h) (fun _ h => h.elim) (fun _ _ => trivial) HB.out HB.out.size (by have := HSZ.out; omega) ?_; intro v6 w6 ho hb hg hat; obtain ⟨A6, c6, rfl, n2_, n1_, n4_, hc6', hf6, hx1⟩ := put_after NB0.out HB.out HBX.out HB6.out HG6.out HOT.out ho hg; have n0_ := Aside0.mk hb; clear HB HBX HB6 HOT HON hc6; have HB := n0_; have HBX := n1_; have HB6 := n4_; have HOT := n2_; clear n0_ n1_ n2_ n4_ hb ho hg hat)
      | ((with_reducible refine gate_callee (f := 63) rfl ?_); refine goesL_ (some 46) rfl rfl Tryd.func63 (by kernel_rfl) rfl #[.slice A0_1 l0_1.length c0_1] rfl (by (try simp only [List.map_toArray, List.map_cons, List.map_nil]); first | done | rfl) ?_; refine (pairs_calls _ _ _ _).mono ?_; rintro e w8 ⟨rfl, rfl⟩; refine ⟨_, rfl, ?_⟩)
      | fail)
    have hI0 := put_start HB.out HBX.out HB6.out HG6.out HOT.out
    have HG10 : Aside0 (w4.heap.size < w6.heap.size) := ⟨(Array.getElem?_eq_some_iff.1 HB6.out).1⟩
    have hPC : ((w6.setCell ⟨w4.heap.size, 0, none⟩ (.slice A6 b0.length c6)).alloc (.cells #[.bool true] 4)).alloc (.cells #[.slice A0_1 l0_1.length c0_1] 26) = ((w6.setCell ⟨w4.heap.size, 0, none⟩ (.slice A6 b0.length c6)).alloc (.cells #[.bool true] 4)).alloc (.cells #[.slice A0_1 l0_1.length c0_1] 26) := rfl
    have hB4 : (((w6.setCell ⟨w4.heap.size, 0, none⟩ (.slice A6 b0.length c6)).alloc (.cells #[.bool true] 4)).alloc (.cells #[.slice A0_1 l0_1.length c0_1] 26)).cell? ⟨w6.heap.size + 1, 0, none⟩ = some (.slice A0_1 l0_1.length c0_1) := by
      have := heap_alloc_new ((w6.setCell ⟨w4.heap.size, 0, none⟩ (.slice A6 b0.length c6)).alloc (.cells #[.bool true] 4)) (.cells #[.slice A0_1 l0_1.length c0_1] 26)
      rw [show ((w6.setCell ⟨w4.heap.size, 0, none⟩ (.slice A6 b0.length c6)).alloc (.cells #[.bool true] 4)).heap.size = w6.heap.size + 1 from by simp] at this
      exact (blk_cell this 0).trans rfl
    have hs0 : (((w6.setCell ⟨w4.heap.size, 0, none⟩ (.slice A6 b0.length c6)).alloc (.cells #[.bool true] 4)).alloc (.cells #[.slice A0_1 l0_1.length c0_1] 26)).heap.size = w6.heap.size + 1 + 1 := by simp
    clear hPC hx1 hf6 hc6' HB HBX HB6 HOT NB0 A1 A2 A3 HSZ h
    generalize (((w6.setCell ⟨w4.heap.size, 0, none⟩ (.slice A6 b0.length c6)).alloc (.cells #[.bool true] 4)).alloc (.cells #[.slice A0_1 l0_1.length c0_1] 26)) = W0 at hI0 hB4 hs0 ⊢
    obtain ⟨g6, hg6⟩ : ∃ g, w4.heap.size = g := ⟨_, rfl⟩
    obtain ⟨g10, hg10⟩ : ∃ g, w6.heap.size = g := ⟨_, rfl⟩
    rw [hg6] at hI0 HG6 HG10 ⊢
    rw [hg10] at hI0 hB4 hs0 HG10 ⊢
    clear hg6 hg10
    refine (wpIn_wide (n := 3)).1 ?_
    refine range_own (n := 3) (d := 1) (gf := 91) (lb := #[.pointer (some ⟨g10 + 1, 0, none⟩)]) rfl (enters_of Tryd.func91 (by kernel_rfl) rfl) (N := l0_1.length) (encs := fun k => #[rowV (wasAt l0_1 k), rowV (rd_T48 l0_1 k)])
      (S := fun i => i = g6 ∨ i = g10) (fun i hi => by have := HG10.out; omega) ?hit (fun _ => rfl) (fun k W => ∃ b, putRows K b0 l0_1 k = some b ∧ PInv w g6 g10 (g10 + 1 + 1) A0_0 A0_1 c0_0 c0_1 l0_0 l0_1 b (k == 0) W) (fun W => False)
      (fun k A B row h hg hr => by obtain ⟨b, hb, hp⟩ := h; exact ⟨b, hb, hp.grown HG6.out (by have := HG10.out; omega) (by omega) hg (fun r e => by have := hr r e; omega)⟩) (fun A B row h hg hr => h) ⟨b0, rfl, hI0⟩ ?round ?done ?stop
    case hit =>
      intro W hsz hb
      refine pairs_iter l0_1 A0_1 c0_1 (g10 + 1) _ W ((hb.cell (p := ⟨_, 0, none⟩) (by show g10 + 1 < W0.heap.size; omega)).trans hB4) (Kd.C_max HR1.out) (fun i hi => by have := HG10.out; omega) (fun W' hk => ?_)
      exact Kd.C_below HR1.out ((hI0.below.trans (hb.mono (by have := hI0.below.size; omega))).trans ⟨hk.os, hk.tape, hk.output, hk.size, fun i hi => hk.block i (by have := hI0.below.size; omega) (by have := HG6.out; have := HG10.out; omega)⟩)
    case stop => rintro W h; exact h.elim
    case done =>
      rintro W ⟨b, hb, hI⟩ hKd
      have hb2 : b = rb := Option.some.inj (hb.symm.trans A4.out)
      subst hb2
      obtain ⟨v, hv, hR⟩ := hI.row
      have HV := Aside0.mk hR
      have HB := Aside0.mk hI.below
      have hc6 : W.cell? ⟨g6, 0, none⟩ = some v := (blk_cell hv 0).trans rfl
      obtain ⟨A7, c7, rfl⟩ := Kd.R_slice hR
      clear hR hI hv hb
      rw [hs0] at hKd
      rw [hs0]
      go_wp2
      refine ⟨by simp, .inl ⟨_, _, rfl, run_takeDeferred hKd, ?_⟩⟩
      refine ⟨.tuple #[.slice A7 b.length c7, .int .i64 0], by simp [results, Tryd.f32, go_sem], _, rfl, ?_, HB.out.grown (grownBy_putObj' _ _ _) HB.out.size (fun r e => by cases e; have := HG10.out; have := HG6.out; omega)⟩
      exact Kd.R_mono (Kd.R_grown HV.out (grownBy_putObj' _ _ _) (fun k hk e => by cases e; omega)) (fun _ _ => trivial)
    case round =>
      rintro k W hk ⟨b, hb, hI⟩ hgt
      rw [hs0] at hgt
      obtain ⟨b', hb'⟩ := putRows_some l0_1.length A4.out (k + 1) (by omega)
      obtain ⟨b_, hb_, hrow⟩ := Option.bind_eq_some_iff.1 hb'
      obtain rfl := Option.some.inj (hb.symm.trans hb_)
      obtain ⟨⟨tm, tme⟩, C1, hrow⟩ := Option.bind_eq_some_iff.1 hrow
      obtain ⟨⟨sg, sge⟩, C2, hrow⟩ := Option.bind_eq_some_iff.1 hrow
      obtain ⟨⟨sq, sqe⟩, C3, hrow⟩ := Option.bind_eq_some_iff.1 hrow
      obtain ⟨⟨ln, lne⟩, C4, C5⟩ := Option.bind_eq_some_iff.1 hrow
      have D1 := Aside0.mk C1
      have D2 := Aside0.mk C2
      have D3 := Aside0.mk C3
      have D4 := Aside0.mk C4
      have D5 := Aside0.mk C5
      have DB := Aside0.mk hb'
      clear C1 C2 C3 C4 C5 hrow hb_ hb' hb
      have HI := Aside0.mk hI
      clear hI
      dsimp only [rowV]
      gi_wp2
      refine ⟨KpW.of_below (below_alloc (below_alloc (Below.refl _ _) _) _), fun W2 hg2 => ?_⟩
      have hI2 : PIn w g6 g10 (g10 + 1 + 1) W.heap.size A0_0 A0_1 c0_0 c0_1 l0_0 l0_1 b (k == 0) (wasAt l0_1 k) (rd_T48 l0_1 k) W2 W2 := by
        have h0 := HI.out.below0 (below_alloc (below_alloc (Below.refl W.heap.size W) (.cells (rowC (wasAt l0_1 k)) 48)) (.cells (rowC (rd_T48 l0_1 k)) 48))
        refine ⟨PInv.grown h0 HG6.out (by have := HG10.out; omega) (by omega) hg2 (fun r e => by cases e; omega), ?_, ?_, Below.refl _ _⟩
        · exact blk_grown (blk_alloc (heap_alloc_new W _) _) hg2 (by simp only [ne_eq, Option.some.injEq]; omega)
        · exact blk_grown (by simpa [rowC] using heap_alloc_new (W.alloc _) _) hg2 (by simp only [ne_eq, Option.some.injEq]; omega)
      have HI2 := Aside0.mk hI2
      clear hg2 HI hI2
      have hu48 := Tryd.underlying48
      have HW2 : Aside0 (g10 + 1 + 1 + 2 < W2.heap.size) := ⟨by have := (Array.getElem?_eq_some_iff.1 HI2.out.was).1; omega⟩
      refine wpIn_block (wpIn_seq ?_)
      refine seq_in (by kernel_rfl) (by rintro ⟨_, _, h⟩; exact h) ?_
      have y1 : W2.cell? ⟨W.heap.size, 1, none⟩ = some (.int .i64 (wasAt l0_1 k).f1) := (blk_cell HI2.out.was 1).trans rfl
      have y2 : W2.cell? ⟨W.heap.size + 1, 1, none⟩ = some (.int .i64 (rd_T48 l0_1 k).f1) := (blk_cell HI2.out.row 1).trans rfl
      go_wp2_with ((with_reducible refine gate_callee (f := 62) rfl ?_); refine goesL_ (some 55) rfl rfl Tryd.func62 (by kernel_rfl) rfl #[.int .i64 (wrap64 ((rd_T48 l0_1 k).f1 - (wasAt l0_1 k).f1))] rfl (by (try simp only [List.map_toArray, List.map_cons, List.map_nil]); first | done | rfl) ?_; refine (codec_Number.calls K _ tm tme _ D1.out).mono ?_; rintro e w11 ⟨v11, rfl, ho, hb⟩; refine ⟨_, rfl, ?_⟩; have n0_ := Aside0.mk (HI2.out.below hb); clear HI2 ; have HI2 := n0_; have HTM := Aside0.mk ho; clear n0_  hb ho; obtain ⟨A11, c11, rfl⟩ := Kd.R_slice HTM.out)
      clear y1 y2
      refine wpIn_seq ?_
      refine seq_in (by kernel_rfl) (by rintro ⟨_, _, h⟩; exact h) ?_
      have y1 : w11.cell? ⟨W.heap.size, 0, none⟩ = some (.int .i64 (wasAt l0_1 k).f0) := (blk_cell HI2.out.was 0).trans rfl
      have y2 : w11.cell? ⟨W.heap.size + 1, 0, none⟩ = some (.int .i64 (rd_T48 l0_1 k).f0) := (blk_cell HI2.out.row 0).trans rfl
      go_wp2_with ((with_reducible refine gate_callee (f := 64) rfl ?_); refine goesL_ (some 64) rfl rfl Tryd.func64 (by kernel_rfl) rfl #[.int .i64 (wrap64 ((rd_T48 l0_1 k).f0 - (wasAt l0_1 k).f0))] rfl (by (try simp only [List.map_toArray, List.map_cons, List.map_nil]); first | done | rfl) ?_; refine (codec_Signed.calls K _ sg sge _ D2.out).mono ?_; rintro e w12 ⟨v12, rfl, ho, hb⟩; refine ⟨_, rfl, ?_⟩; have n0_ := Aside0.mk (HI2.out.below hb); have n_HTM := Aside0.mk (Kd.R_below HTM.out hb); clear HI2 HTM; have HI2 := n0_; have HSG := Aside0.mk ho; have HTM := n_HTM; clear n0_ n_HTM hb ho; obtain ⟨A12, c12, rfl⟩ := Kd.R_slice HSG.out)
      clear y1 y2
      refine wpIn_seq (wpIn_seq ?_)
      refine seq_in (by kernel_rfl) (by rintro ⟨_, _, h⟩; exact h) ?_
      have y1 : w12.cell? ⟨g10, 0, none⟩ = some (.bool (k == 0)) := (blk_cell HI2.out.inv.b10 0).trans rfl
      go_wp2
      clear y1
      by_cases hk0 : k = 0
      · rw [show (k == 0) = true from by simp [hk0]] at D3 ⊢
        clear hk0
        refine wpIn_cond_true rfl ?_
        refine seq_in (by kernel_rfl) (by rintro ⟨_, _, h⟩; exact h) ?_
        have y2 : w12.cell? ⟨W.heap.size + 1, 0, none⟩ = some (.int .i64 (rd_T48 l0_1 k).f0) := (blk_cell HI2.out.row 0).trans rfl
        go_wp2_with ((with_reducible refine gate_callee (f := 62) rfl ?_); refine goesL_ (some 71) rfl rfl Tryd.func62 (by kernel_rfl) rfl #[.int .i64 (rd_T48 l0_1 k).f0] rfl (by (try simp only [List.map_toArray, List.map_cons, List.map_nil]); first | done | rfl) ?_; refine (codec_Number.calls K _ sq sqe _ D3.out).mono ?_; rintro e w13 ⟨v13, rfl, ho, hb⟩; refine ⟨_, rfl, ?_⟩; have n0_ := Aside0.mk (HI2.out.below hb); have n_HTM := Aside0.mk (Kd.R_below HTM.out hb); clear HI2 HTM; have HI2 := n0_; have HSQ := Aside0.mk ho; have HTM := n_HTM; clear n0_ n_HTM hb ho; obtain ⟨A13, c13, rfl⟩ := Kd.R_slice HSQ.out)
        clear y2
        refine wpIn_seq ?_
        refine seq_in (by kernel_rfl) (by rintro ⟨_, _, h⟩; exact h) ?_
        have y1 : w13.cell? ⟨W.heap.size + 1, 2, none⟩ = some (.string (rd_T48 l0_1 k).f2) := (blk_cell HI2.out.row 2).trans rfl
        go_wp2_with ((with_reducible refine gate_callee (f := 61) rfl ?_); refine goesL_ (some 77) rfl rfl Tryd.func61 (by kernel_rfl) rfl #[.string (rd_T48 l0_1 k).f2] rfl (by (try simp only [List.map_toArray, List.map_cons, List.map_nil]); first | done | rfl) ?_; refine (codec_Text.calls K _ ln lne _ D4.out).mono ?_; rintro e w14 ⟨v14, rfl, ho, hb⟩; refine ⟨_, rfl, ?_⟩; have n0_ := Aside0.mk (HI2.out.below hb); have n_HTM := Aside0.mk (Kd.R_below HTM.out hb); have n_HSQ := Aside0.mk (Kd.R_below HSQ.out hb); clear HI2 HTM HSQ; have HI2 := n0_; have HLN := Aside0.mk ho; have HTM := n_HTM; have HSQ := n_HSQ; clear n0_ n_HTM n_HSQ hb ho; obtain ⟨A14, c14, rfl⟩ := Kd.R_slice HLN.out)
        clear y1
        refine wpIn_seq ?_
        refine seq_in (by kernel_rfl) (by rintro ⟨_, _, h⟩; exact h) ?_
        obtain ⟨v6, hv6, hR6⟩ := HI2.out.inv.row
        obtain ⟨A16, c16, rfl⟩ := Kd.R_slice hR6
        have HV6 := Aside0.mk hR6
        clear hR6
        have y1 : w14.cell? ⟨g6, 0, none⟩ = some (.slice A16 b.length c16) := (blk_cell hv6 0).trans rfl
        have y2 := blk_frozen hv6 0
        clear hv6
        go_wp2_with (first
          | ((with_reducible refine gate_dst (N := 84) rfl ?_); refine Kd.N_lit (Kd.slice 5 (Kd.int .u8)) (w0 := w14) w14.heap.size 56 ?hg (N' := 84) ?hd (xs := ([b, tm, sq, ln] : List (List Int))) (inner := [.slice A16 b.length c16, .slice A11 tm.length c11, .slice A13 sq.length c13, .slice A14 ln.length c14]) (ok := fun _ => True) (okp := fun _ => True) ?hr ?hp (fun _ hk => hk) trivial (Below.refl _ _) (Nat.le_refl _) (by simp) ?_; (case hd => rfl); (case hg => rfl); (case hr => first | (go_simp; done) | (go_simp; rfl)); (case hp => exact (Reps.one (show Kd.FK (Kd.slice 5 (Kd.int .u8)) _ _ b [.slice A16 b.length c16] from (Kd.FK_slice_mk (Kd.R_reads' HV6.out).2.1 (Kd.R_F (Kd.R_mono (ok' := fun _ => True) HV6.out (fun _ _ => trivial))))) (Reps.one (show Kd.FK (Kd.slice 5 (Kd.int .u8)) _ _ tm [.slice A11 tm.length c11] from (Kd.FK_slice_mk (Kd.R_reads' HTM.out).2.1 (Kd.R_F (Kd.R_mono (ok' := fun _ => True) HTM.out (fun _ _ => trivial))))) (Reps.one (show Kd.FK (Kd.slice 5 (Kd.int .u8)) _ _ sq [.slice A13 sq.length c13] from (Kd.FK_slice_mk (Kd.R_reads' HSQ.out).2.1 (Kd.R_F (Kd.R_mono (ok' := fun _ => True) HSQ.out (fun _ _ => trivial))))) (Reps.one (show Kd.FK (Kd.slice 5 (Kd.int .u8)) _ _ ln [.slice A14 ln.length c14] from (Kd.FK_slice_mk (Kd.R_reads' HLN.out).2.1 (Kd.R_F (Kd.R_mono (ok' := fun _ => True) HLN.out (fun _ _ => trivial))))) (Reps.none _ _)))))); intro v15 w15 ho hb hg_ hnew_; clear hg_ hnew_; have n0_ := Aside0.mk (HI2.out.below hb); clear HI2 HTM HSQ HLN HV6; have HI2 := n0_; have HN := Aside0.mk ho; clear n0_ hb ho; obtain ⟨A15, c15, rfl⟩ := Kd.N_slice HN.out)
          | ((with_reducible refine gate_callee (f := 65) rfl ?_); refine goesL_ (some 85) rfl rfl Tryd.func65 (by kernel_rfl) rfl #[.slice A15 ([b, tm, sq, ln] : List (List Int)).length c15] rfl (by (try simp only [List.map_toArray, List.map_cons, List.map_nil]); first | done | rfl) ?_; refine (slices_Concat_byte_byte.calls _ _ [b, tm, sq, ln] b' _ (Kd.N_reads' HN.out).2.2 (Kd.N_reads' HN.out).2.1 D5.out).mono ?_; rintro e w16 ⟨v16, rfl, ho, hb⟩; refine ⟨_, rfl, ?_⟩; have HBS : Aside0 (g10 + 1 + 1 + 2 < w15.heap.size) := ⟨by have := HI2.out.kp.size; have := HW2.out; omega⟩; have n0_ := Aside0.mk (HI2.out.below hb); clear HI2 HN; have HI2 := n0_; have HCC := Aside0.mk ho; clear n0_ hb ho; obtain ⟨A17, c17, rfl⟩ := Kd.R_slice HCC.out; have y3 : ∃ v, w16.cell? ⟨g6, 0, none⟩ = some v ∧ w16.frozen? ⟨g6, 0, none⟩ = false := (by obtain ⟨v, hv, _⟩ := HI2.out.inv.row; exact ⟨v, (blk_cell hv 0).trans rfl, blk_frozen hv 0⟩); obtain ⟨v18, y3, y4⟩ := y3))
        have y5 : (w16.setCell ⟨g6, 0, none⟩ (.slice A17 b'.length c17)).cell? ⟨g10, 0, none⟩ = some (.bool (k == 0)) := (blk_cell ((Below.heap_setCell w16 ⟨g6, 0, none⟩ _ _ (by show g10 ≠ g6; have := HG10.out; omega)).trans HI2.out.inv.b10) 0).trans rfl
        have y6 := blk_frozen ((Below.heap_setCell w16 ⟨g6, 0, none⟩ (.slice A17 b'.length c17) g10 (by show g10 ≠ g6; have := HG10.out; omega)).trans HI2.out.inv.b10) 0
        refine seq_in (by kernel_rfl) (by rintro ⟨_, _, h⟩; exact h) ?_
        go_wp2
        have := put_round_end HI2.out HCC.out HG6.out HG10.out (by omega) HBS.out
        exact ⟨this.1, b', DB.out, this.2⟩
      · rw [show (k == 0) = false from by simp [hk0]] at D3 ⊢
        obtain ⟨rfl, rfl⟩ := Prod.mk.inj (Option.some.inj D3.out)
        clear hk0
        refine wpIn_cond_false rfl ?_
        refine wpIn_skip ?_
        refine wpIn_seq ?_
        refine seq_in (by kernel_rfl) (by rintro ⟨_, _, h⟩; exact h) ?_
        have y1 : w12.cell? ⟨W.heap.size + 1, 2, none⟩ = some (.string (rd_T48 l0_1 k).f2) := (blk_cell HI2.out.row 2).trans rfl
        go_wp2_with ((with_reducible refine gate_callee (f := 61) rfl ?_); refine goesL_ (some 77) rfl rfl Tryd.func61 (by kernel_rfl) rfl #[.string (rd_T48 l0_1 k).f2] rfl (by (try simp only [List.map_toArray, List.map_cons, List.map_nil]); first | done | rfl) ?_; refine (codec_Text.calls K _ ln lne _ D4.out).mono ?_; rintro e w14 ⟨v14, rfl, ho, hb⟩; refine ⟨_, rfl, ?_⟩; have n0_ := Aside0.mk (HI2.out.below hb); have n_HTM := Aside0.mk (Kd.R_below HTM.out hb); have n_HSG := Aside0.mk (Kd.R_below HSG.out hb); clear HI2 HTM HSG; have HI2 := n0_; have HLN := Aside0.mk ho; have HTM := n_HTM; have HSG := n_HSG; clear n0_ n_HTM n_HSG hb ho; obtain ⟨A14, c14, rfl⟩ := Kd.R_slice HLN.out)
        clear y1
        refine wpIn_seq ?_
        refine seq_in (by kernel_rfl) (by rintro ⟨_, _, h⟩; exact h) ?_
        obtain ⟨v6, hv6, hR6⟩ := HI2.out.inv.row
        obtain ⟨A16, c16, rfl⟩ := Kd.R_slice hR6
        have HV6 := Aside0.mk hR6
        clear hR6
        have y1 : w14.cell? ⟨g6, 0, none⟩ = some (.slice A16 b.length c16) := (blk_cell hv6 0).trans rfl
        have y2 := blk_frozen hv6 0
        clear hv6
        go_wp2_with (first
          | ((with_reducible refine gate_dst (N := 84) rfl ?_); refine Kd.N_lit (Kd.slice 5 (Kd.int .u8)) (w0 := w14) w14.heap.size 56 ?hg (N' := 84) ?hd (xs := ([b, tm, sg, ln] : List (List Int))) (inner := [.slice A16 b.length c16, .slice A11 tm.length c11, .slice A12 sg.length c12, .slice A14 ln.length c14]) (ok := fun _ => True) (okp := fun _ => True) ?hr ?hp (fun _ hk => hk) trivial (Below.refl _ _) (Nat.le_refl _) (by simp) ?_; (case hd => rfl); (case hg => rfl); (case hr => first | (go_simp; done) | (go_simp; rfl)); (case hp => exact (Reps.one (show Kd.FK (Kd.slice 5 (Kd.int .u8)) _ _ b [.slice A16 b.length c16] from (Kd.FK_slice_mk (Kd.R_reads' HV6.out).2.1 (Kd.R_F (Kd.R_mono (ok' := fun _ => True) HV6.out (fun _ _ => trivial))))) (Reps.one (show Kd.FK (Kd.slice 5 (Kd.int .u8)) _ _ tm [.slice A11 tm.length c11] from (Kd.FK_slice_mk (Kd.R_reads' HTM.out).2.1 (Kd.R_F (Kd.R_mono (ok' := fun _ => True) HTM.out (fun _ _ => trivial))))) (Reps.one (show Kd.FK (Kd.slice 5 (Kd.int .u8)) _ _ sg [.slice A12 sg.length c12] from (Kd.FK_slice_mk (Kd.R_reads' HSG.out).2.1 (Kd.R_F (Kd.R_mono (ok' := fun _ => True) HSG.out (fun _ _ => trivial))))) (Reps.one (show Kd.FK (Kd.slice 5 (Kd.int .u8)) _ _ ln [.slice A14 ln.length c14] from (Kd.FK_slice_mk (Kd.R_reads' HLN.out).2.1 (Kd.R_F (Kd.R_mono (ok' := fun _ => True) HLN.out (fun _ _ => trivial))))) (Reps.none _ _)))))); intro v15 w15 ho hb hg_ hnew_; clear hg_ hnew_; have n0_ := Aside0.mk (HI2.out.below hb); clear HI2 HTM HSG HLN HV6; have HI2 := n0_; have HN := Aside0.mk ho; clear n0_ hb ho; obtain ⟨A15, c15, rfl⟩ := Kd.N_slice HN.out)
          | ((with_reducible refine gate_callee (f := 65) rfl ?_); refine goesL_ (some 85) rfl rfl Tryd.func65 (by kernel_rfl) rfl #[.slice A15 ([b, tm, sg, ln] : List (List Int)).length c15] rfl (by (try simp only [List.map_toArray, List.map_cons, List.map_nil]); first | done | rfl) ?_; refine (slices_Concat_byte_byte.calls _ _ [b, tm, sg, ln] b' _ (Kd.N_reads' HN.out).2.2 (Kd.N_reads' HN.out).2.1 D5.out).mono ?_; rintro e w16 ⟨v16, rfl, ho, hb⟩; refine ⟨_, rfl, ?_⟩; have HBS : Aside0 (g10 + 1 + 1 + 2 < w15.heap.size) := ⟨by have := HI2.out.kp.size; have := HW2.out; omega⟩; have n0_ := Aside0.mk (HI2.out.below hb); clear HI2 HN; have HI2 := n0_; have HCC := Aside0.mk ho; clear n0_ hb ho; obtain ⟨A17, c17, rfl⟩ := Kd.R_slice HCC.out; have y3 : ∃ v, w16.cell? ⟨g6, 0, none⟩ = some v ∧ w16.frozen? ⟨g6, 0, none⟩ = false := (by obtain ⟨v, hv, _⟩ := HI2.out.inv.row; exact ⟨v, (blk_cell hv 0).trans rfl, blk_frozen hv 0⟩); obtain ⟨v18, y3, y4⟩ := y3))
        have y5 : (w16.setCell ⟨g6, 0, none⟩ (.slice A17 b'.length c17)).cell? ⟨g10, 0, none⟩ = some (.bool (k == 0)) := (blk_cell ((Below.heap_setCell w16 ⟨g6, 0, none⟩ _ _ (by show g10 ≠ g6; have := HG10.out; omega)).trans HI2.out.inv.b10) 0).trans rfl
        have y6 := blk_frozen ((Below.heap_setCell w16 ⟨g6, 0, none⟩ (.slice A17 b'.length c17) g10 (by show g10 ≠ g6; have := HG10.out; omega)).trans HI2.out.inv.b10) 0
        refine seq_in (by kernel_rfl) (by rintro ⟨_, _, h⟩; exact h) ?_
        go_wp2
        have := put_round_end HI2.out HCC.out HG6.out HG10.out (by omega) HBS.out
        exact ⟨this.1, b', DB.out, this.2⟩
end Go.Proofs.YtkbmmgpdnienfaaDoor.P
namespace Go.Proofs.YtkbmmgpdnienfaaDoor.P
open Go.RowKit Go.Proofs.YtkbmmgpdnienfaaDoorW.PrintWords Go.Proofs.YtkbmmgpdnienfaaDoorW.PrintLast Go.Proofs.YtkbmmgpdnienfaaDoorW.PrintMore
attribute [local go_sem] max2_int min2_int max_two min_two max_three min_three max_four min_four   -- for this text's walks alone
def icehouselaw04_knows.f  : Option (Bool) := (some (([(⟨(⟨#[97]⟩ : ByteArray), (⟨#[120]⟩ : ByteArray)⟩ : S88)] : List (S88)) : List (S88))).bind fun y267 => ((some (([(⟨4, 10, (⟨#[117]⟩ : ByteArray)⟩ : S48), (⟨2, 11, (⟨#[118]⟩ : ByteArray)⟩ : S48)] : List (S48)) : List (S48))).bind fun y270 => ((chunk_Put.f y267 y270).bind fun bt274 => ((chunk_Bounds.f y267 y270).bind fun bt278 => ((icehouselaw04_num.f bt274.2).bind fun t282 => (if t282 = 0 then (if (strOfNums bt274.1).toList = ([5, 1, 1, 97, 1, 120, 2, 10, 4, 1, 117, 1, 3, 1, 118] : List UInt8) then (if bt278.1 = 10 then (if bt278.2.1 = 11 then (if bt278.2.2.1 = 2 then (if bt278.2.2.2 = 4 then ((chunk_Right.f y267 y270).bind fun t283 => (some t283)) else (some false)) else (some false)) else (some false)) else (some false)) else (some false)) else (some false))))))
set_option maxHeartbeats 8000000 in
set_option maxRecDepth 100000 in
theorem icehouselaw04_knows.calls  (r : Bool) (w : World) (hG : Laid w) (h : icehouselaw04_knows.f  = some r) :
    Calls Tryd.prog 20 #[] w fun e w' => e = .returned (.bool r) ∧ Below w.heap.size w w' := by
  have hu88 := Tryd.underlying88
  have hr_ := Aside0.mk (show true = r from Option.some.inj ((show icehouselaw04_knows.f = some true by kernel_rfl).symm.trans h))
  have hu48 := Tryd.underlying48
  have hu28 := Tryd.underlying28
  have HGL := Aside0.mk hG
  clear hG
  have HB := Aside0.mk (Below.refl w.heap.size w)
  have H : ((some (([(⟨(⟨#[97]⟩ : ByteArray), (⟨#[120]⟩ : ByteArray)⟩ : S88)] : List (S88)) : List (S88))).bind fun y267 => ((some (([(⟨4, 10, (⟨#[117]⟩ : ByteArray)⟩ : S48), (⟨2, 11, (⟨#[118]⟩ : ByteArray)⟩ : S48)] : List (S48)) : List (S48))).bind fun y270 => ((chunk_Put.f y267 y270).bind fun bt274 => ((chunk_Bounds.f y267 y270).bind fun bt278 => ((icehouselaw04_num.f bt274.2).bind fun t282 => (if t282 = 0 then (if (strOfNums bt274.1).toList = ([5, 1, 1, 97, 1, 120, 2, 10, 4, 1, 117, 1, 3, 1, 118] : List UInt8) then (if bt278.1 = 10 then (if bt278.2.1 = 11 then (if bt278.2.2.1 = 2 then (if bt278.2.2.2 = 4 then ((chunk_Right.f y267 y270).bind fun t283 => (some t283)) else (some false)) else (some false)) else (some false)) else (some false)) else (some false)) else (some false))))))) = some r := h
  clear h
  obtain ⟨y267, hy267⟩ : ∃ y_ : List (S88), y_ = (([(⟨(⟨#[97]⟩ : ByteArray), (⟨#[120]⟩ : ByteArray)⟩ : S88)] : List (S88))) := ⟨_, rfl⟩
  replace H : ((some (([(⟨4, 10, (⟨#[117]⟩ : ByteArray)⟩ : S48), (⟨2, 11, (⟨#[118]⟩ : ByteArray)⟩ : S48)] : List (S48)) : List (S48))).bind fun y270 => ((chunk_Put.f y267 y270).bind fun bt274 => ((chunk_Bounds.f y267 y270).bind fun bt278 => ((icehouselaw04_num.f bt274.2).bind fun t282 => (if t282 = 0 then (if (strOfNums bt274.1).toList = ([5, 1, 1, 97, 1, 120, 2, 10, 4, 1, 117, 1, 3, 1, 118] : List UInt8) then (if bt278.1 = 10 then (if bt278.2.1 = 11 then (if bt278.2.2.1 = 2 then (if bt278.2.2.2 = 4 then ((chunk_Right.f y267 y270).bind fun t283 => (some t283)) else (some false)) else (some false)) else (some false)) else (some false)) else (some false)) else (some false)))))) = some r := by first | (rw [hy267]; with_reducible exact H) | (have H2_ := (Option.bind_some _ _).symm.trans H; rw [hy267]; with_reducible exact H2_) | (have H2_ := (Option.bind_some _ _).symm.trans H; with_reducible exact H2_) | with_reducible exact H | (rw [hy267]; exact H) | exact H
  have Ny267 := Aside0.mk hy267
  clear hy267
  obtain ⟨y270, hy270⟩ : ∃ y_ : List (S48), y_ = (([(⟨4, 10, (⟨#[117]⟩ : ByteArray)⟩ : S48), (⟨2, 11, (⟨#[118]⟩ : ByteArray)⟩ : S48)] : List (S48))) := ⟨_, rfl⟩
  replace H : ((chunk_Put.f y267 y270).bind fun bt274 => ((chunk_Bounds.f y267 y270).bind fun bt278 => ((icehouselaw04_num.f bt274.2).bind fun t282 => (if t282 = 0 then (if (strOfNums bt274.1).toList = ([5, 1, 1, 97, 1, 120, 2, 10, 4, 1, 117, 1, 3, 1, 118] : List UInt8) then (if bt278.1 = 10 then (if bt278.2.1 = 11 then (if bt278.2.2.1 = 2 then (if bt278.2.2.2 = 4 then ((chunk_Right.f y267 y270).bind fun t283 => (some t283)) else (some false)) else (some false)) else (some false)) else (some false)) else (some false)) else (some false))))) = some r := by first | (rw [hy270]; with_reducible exact H) | (have H2_ := (Option.bind_some _ _).symm.trans H; rw [hy270]; with_reducible exact H2_) | (have H2_ := (Option.bind_some _ _).symm.trans H; with_reducible exact H2_) | with_reducible exact H | (rw [hy270]; exact H) | exact H
  have Ny270 := Aside0.mk hy270
  clear hy270
  replace H := Option.bind_eq_some_iff.mp H
  obtain ⟨⟨t274, t277⟩, A10, H⟩ := H
  replace H : ((chunk_Bounds.f y267 y270).bind fun bt278 => ((icehouselaw04_num.f t277).bind fun t282 => (if t282 = 0 then (if (strOfNums t274).toList = ([5, 1, 1, 97, 1, 120, 2, 10, 4, 1, 117, 1, 3, 1, 118] : List UInt8) then (if bt278.1 = 10 then (if bt278.2.1 = 11 then (if bt278.2.2.1 = 2 then (if bt278.2.2.2 = 4 then ((chunk_Right.f y267 y270).bind fun t283 => (some t283)) else (some false)) else (some false)) else (some false)) else (some false)) else (some false)) else (some false)))) = some r := H
  have A1 := Aside0.mk A10
  clear A10
  replace H := Option.bind_eq_some_iff.mp H
  obtain ⟨⟨t278, t279, t280, t281⟩, A20, H⟩ := H
  replace H : ((icehouselaw04_num.f t277).bind fun t282 => (if t282 = 0 then (if (strOfNums t274).toList = ([5, 1, 1, 97, 1, 120, 2, 10, 4, 1, 117, 1, 3, 1, 118] : List UInt8) then (if t278 = 10 then (if t279 = 11 then (if t280 = 2 then (if t281 = 4 then ((chunk_Right.f y267 y270).bind fun t283 => (some t283)) else (some false)) else (some false)) else (some false)) else (some false)) else (some false)) else (some false))) = some r := H
  have A2 := Aside0.mk A20
  clear A20
  replace H := Option.bind_eq_some_iff.mp H
  obtain ⟨t282, A30, H⟩ := H
  replace H : (if t282 = 0 then (if (strOfNums t274).toList = ([5, 1, 1, 97, 1, 120, 2, 10, 4, 1, 117, 1, 3, 1, 118] : List UInt8) then (if t278 = 10 then (if t279 = 11 then (if t280 = 2 then (if t281 = 4 then ((chunk_Right.f y267 y270).bind fun t283 => (some t283)) else (some false)) else (some false)) else (some false)) else (some false)) else (some false)) else (some false)) = some r := H
  have A3 := Aside0.mk A30
  clear A30
  by_cases c4 : t282 = 0
  · rw [if_pos c4] at H
    have c4b0 : (t282 == 0) = true := beq_iff_eq.mpr c4
    have c4b1 : (t282 != 0) = false := bne_eq_false_iff_eq.mpr c4
    clear c4
    by_cases c5 : (strOfNums t274).toList = ([5, 1, 1, 97, 1, 120, 2, 10, 4, 1, 117, 1, 3, 1, 118] : List UInt8)
    · rw [if_pos c5] at H
      have c5b0 : ((strOfNums t274).toList == ([5, 1, 1, 97, 1, 120, 2, 10, 4, 1, 117, 1, 3, 1, 118] : List UInt8)) = true := beq_iff_eq.mpr c5
      have c5b1 : ((strOfNums t274).toList != ([5, 1, 1, 97, 1, 120, 2, 10, 4, 1, 117, 1, 3, 1, 118] : List UInt8)) = false := bne_eq_false_iff_eq.mpr c5
      clear c5
      by_cases c6 : t278 = 10
      · rw [if_pos c6] at H
        have c6b0 : (t278 == 10) = true := beq_iff_eq.mpr c6
        have c6b1 : (t278 != 10) = false := bne_eq_false_iff_eq.mpr c6
        clear c6
        by_cases c7 : t279 = 11
        · rw [if_pos c7] at H
          have c7b0 : (t279 == 11) = true := beq_iff_eq.mpr c7
          have c7b1 : (t279 != 11) = false := bne_eq_false_iff_eq.mpr c7
          clear c7
          by_cases c8 : t280 = 2
          · rw [if_pos c8] at H
            have c8b0 : (t280 == 2) = true := beq_iff_eq.mpr c8
            have c8b1 : (t280 != 2) = false := bne_eq_false_iff_eq.mpr c8
            clear c8
            by_cases c9 : t281 = 4
            · rw [if_pos c9] at H
              have c9b0 : (t281 == 4) = true := beq_iff_eq.mpr c9
              have c9b1 : (t281 != 4) = false := bne_eq_false_iff_eq.mpr c9
              clear c9
              replace H := Option.bind_eq_some_iff.mp H
              obtain ⟨t283, A100, H⟩ := H
              replace H : (some t283) = some r := H
              have A10 := Aside0.mk A100
              clear A100
              obtain rfl := Option.some.inj H
              go_enter Tryd.func20, Tryd.ntmps20
              go_wp2_with (first | ((with_reducible refine gate_dst (N := 9) rfl ?_); refine Kd.R_lit k88 _ 88 ?hg (N := 9) ?hd (xs := ([(⟨(⟨#[97]⟩ : ByteArray), (⟨#[120]⟩ : ByteArray)⟩ : S88)] : List (S88))) (inner := [.string (⟨#[97]⟩ : ByteArray), .string (⟨#[120]⟩ : ByteArray)]) (ok := fun _ => True) (okp := fun _ => True) ?hr ?hp (fun _ hk => hk) trivial (Below.refl _ _) (Nat.le_refl _) (by simp) ?_; (case hd => rfl); (case hg => rfl); (case hr => first | (go_simp; done) | (go_simp; rfl)); (case hp => exact (Reps.c2 (show Kd.M k88 _ _ _ (⟨(⟨#[97]⟩ : ByteArray), (⟨#[120]⟩ : ByteArray)⟩ : S88) [.string (⟨#[97]⟩ : ByteArray), .string (⟨#[120]⟩ : ByteArray)] from (k88_mkM _ _ _ (⟨(⟨#[97]⟩ : ByteArray), (⟨#[120]⟩ : ByteArray)⟩ : S88) )) (Reps.none _ _))); intro v268 w11 ho12 hb hg_ hnew_; clear hg_ hnew_; (first | rw [← Ny267.out] at ho12 | (simp only [Int.reduceToNat] at ho12; rw [← Ny267.out] at ho12)); have n0_ := Aside0.mk (Kd.R_lower ho12 (below_size (by repeat (first | (with_reducible first | exact HB.out | apply below_alloc | apply pw_below_drewN | apply below_drew1) | exact HB.out)))); have n1_ := Aside0.mk (below_step (by repeat (first | (with_reducible first | exact HB.out | apply below_alloc | apply pw_below_drewN | apply below_drew1) | exact HB.out)) hb); clear HB; have HO269 := n0_; have HB := n1_; clear n0_ n1_; clear hb ho12) | ((with_reducible refine gate_dst (N := 12) rfl ?_); refine Kd.R_lit k48 _ 48 ?hg (N := 12) ?hd (xs := ([(⟨4, 10, (⟨#[117]⟩ : ByteArray)⟩ : S48), (⟨2, 11, (⟨#[118]⟩ : ByteArray)⟩ : S48)] : List (S48))) (inner := [.int .i64 4, .int .i64 10, .string (⟨#[117]⟩ : ByteArray), .int .i64 2, .int .i64 11, .string (⟨#[118]⟩ : ByteArray)]) (ok := fun _ => True) (okp := fun _ => True) ?hr ?hp (fun _ hk => hk) trivial (Below.refl _ _) (Nat.le_refl _) (by simp) ?_; (case hd => rfl); (case hg => rfl); (case hr => first | (go_simp; done) | (go_simp; rfl)); (case hp => exact (Reps.c3 (show Kd.M k48 _ _ _ (⟨4, 10, (⟨#[117]⟩ : ByteArray)⟩ : S48) [.int .i64 4, .int .i64 10, .string (⟨#[117]⟩ : ByteArray)] from (k48_mkM _ _ _ (⟨4, 10, (⟨#[117]⟩ : ByteArray)⟩ : S48) )) (Reps.c3 (show Kd.M k48 _ _ _ (⟨2, 11, (⟨#[118]⟩ : ByteArray)⟩ : S48) [.int .i64 2, .int .i64 11, .string (⟨#[118]⟩ : ByteArray)] from (k48_mkM _ _ _ (⟨2, 11, (⟨#[118]⟩ : ByteArray)⟩ : S48) )) (Reps.none _ _)))); intro v271 w13 ho14 hb hg_ hnew_; clear hg_ hnew_; (first | rw [← Ny270.out] at ho14 | (simp only [Int.reduceToNat] at ho14; rw [← Ny270.out] at ho14)); have n0_ := Aside0.mk (Kd.R_below (by (with_reducible repeat (first | apply Kd.R_alloc | apply Kd.R_drewN | apply Kd.R_drew)); exact HO269.out) hb); have n1_ := Aside0.mk (Kd.R_lower ho14 (below_size (by repeat (first | (with_reducible first | exact HB.out | apply below_alloc | apply pw_below_drewN | apply below_drew1) | exact HB.out)))); have n2_ := Aside0.mk (below_step (by repeat (first | (with_reducible first | exact HB.out | apply below_alloc | apply pw_below_drewN | apply below_drew1) | exact HB.out)) hb); clear HO269; clear HB; have HO269 := n0_; have HO272 := n1_; have HB := n2_; clear n0_ n1_ n2_; clear hb ho14; obtain ⟨Ao15, co15, eo15⟩ := Kd.R_slice HO272.out; subst eo15; obtain ⟨Ao16, co16, eo16⟩ := Kd.R_slice HO269.out; subst eo16) | ((with_reducible refine gate_dst (N := 1) rfl ?_); refine box_event ?hg (N := 1) ?hd (cs := #[.slice none 0 0, .slice none 0 0]) (t := 28) ?hr ?_; (case hd => rfl); (case hg => rfl); (case hr => first | (go_simp; done) | (go_simp; rfl)); intro gb273 hg w17 hbox hb; have n0_ := Aside0.mk (Kd.R_below (by (with_reducible repeat (first | apply Kd.R_alloc | apply Kd.R_drewN | apply Kd.R_drew)); exact HO269.out) hb); have n1_ := Aside0.mk (Kd.R_below (by (with_reducible repeat (first | apply Kd.R_alloc | apply Kd.R_drewN | apply Kd.R_drew)); exact HO272.out) hb); have n2_ := Aside0.mk (below_step (by repeat (first | (with_reducible first | exact HB.out | apply below_alloc | apply pw_below_drewN | apply below_drew1) | exact HB.out)) hb); have n3_ := Aside0.mk (hbox); have n4_ := Aside0.mk ((by rw [hg]; exact (below_size (by repeat (first | (with_reducible first | exact HB.out | apply below_alloc | apply pw_below_drewN | apply below_drew1) | exact HB.out))) : w.heap.size ≤ gb273)); have n5_ := Aside0.mk ((by rw [hg]; exact (below_size (by repeat (first | (with_reducible first | exact HB.out | apply below_alloc | apply pw_below_drewN | apply below_drew1) | exact HB.out))) : w.heap.size ≤ gb273)); clear HO269; clear HO272; clear HB; have HO269 := n0_; have HO272 := n1_; have HB := n2_; have BK273 := n3_; have GW273 := n4_; have GE273 := n5_; clear n0_ n1_ n2_ n3_ n4_ n5_; clear hb hbox hg; have hcz18_0 : w17.cell? ⟨gb273, 0, none⟩ = some (.slice none 0 0) := (blk_cell BK273.out 0).trans rfl; have hcz18_1 : w17.cell? ⟨gb273, 1, none⟩ = some (.slice none 0 0) := (blk_cell BK273.out 1).trans rfl; have hfz18_0 := blk_frozen BK273.out 0; have hfz18_1 := blk_frozen BK273.out 1) | ((with_reducible refine gate_callee (f := 32) rfl ?_); refine goesL_ (some 16) rfl rfl Tryd.func32 (by kernel_rfl) rfl #[.agg #[.slice Ao16 y267.length co16, .slice Ao15 y270.length co15]] rfl (by (try simp only [List.map_toArray, List.map_cons, List.map_nil]); first | done | rfl | (simp only [List.length_drop, List.length_take]; rfl)) ?_; (with_reducible refine (chunk_Put.calls _ _ y267 _ _ y270 t274 t277 _ ?side1 ?side2 ?side3 ?side4 ?side5 A1.out).mono ?_); (case side1 => refine (Kd.R_reads' (e := 88) (base := w.heap.size) (ok := fun k_ => True) (n := y267.length) (c := co16) ?_).2.2; exact (by (with_reducible repeat (first | apply Kd.R_alloc | apply Kd.R_drewN | apply Kd.R_drew)); exact (Kd.R_mono (Kd.R_far (p := ⟨gb273, 1, none⟩) (Kd.R_far (p := ⟨gb273, 0, none⟩) (Kd.R_types HO269.out BK273.out (by decide)) (fun _ hk => hk.2) (.slice Ao16 y267.length co16)) (fun _ hk => hk.2) (.slice Ao15 y270.length co15)) (fun _ h_ => h_.1)))); (case side2 => exact (Kd.R_reads' HO269.out).2.1); (case side3 => refine (Kd.R_reads' (e := 48) (base := w.heap.size) (ok := fun k_ => True) (n := y270.length) (c := co15) ?_).2.2; exact (by (with_reducible repeat (first | apply Kd.R_alloc | apply Kd.R_drewN | apply Kd.R_drew)); exact (Kd.R_mono (Kd.R_far (p := ⟨gb273, 1, none⟩) (Kd.R_far (p := ⟨gb273, 0, none⟩) (Kd.R_types HO272.out BK273.out (by decide)) (fun _ hk => hk.2) (.slice Ao16 y267.length co16)) (fun _ hk => hk.2) (.slice Ao15 y270.length co15)) (fun _ h_ => h_.1)))); (case side4 => exact (Kd.R_reads' HO272.out).2.1); (case side5 => exact laid_below HGL.out (by repeat (first | (with_reducible first | exact HB.out | apply below_alloc | apply pw_below_drewN | apply below_drew1 | refine below_set ?_ GE273.out) | exact HB.out))); rintro e w19 ⟨v275, rfl, ho0, hb⟩; refine ⟨_, rfl, ?_⟩; have n0_ := Aside0.mk (Kd.R_below (by (with_reducible repeat (first | apply Kd.R_alloc | apply Kd.R_drewN | apply Kd.R_drew)); exact (Kd.R_mono (Kd.R_far (p := ⟨gb273, 1, none⟩) (Kd.R_far (p := ⟨gb273, 0, none⟩) (Kd.R_types HO269.out BK273.out (by decide)) (fun _ hk => hk.2) (.slice Ao16 y267.length co16)) (fun _ hk => hk.2) (.slice Ao15 y270.length co15)) (fun _ h_ => h_.1))) hb); have n1_ := Aside0.mk (Kd.R_below (by (with_reducible repeat (first | apply Kd.R_alloc | apply Kd.R_drewN | apply Kd.R_drew)); exact (Kd.R_mono (Kd.R_far (p := ⟨gb273, 1, none⟩) (Kd.R_far (p := ⟨gb273, 0, none⟩) (Kd.R_types HO272.out BK273.out (by decide)) (fun _ hk => hk.2) (.slice Ao16 y267.length co16)) (fun _ hk => hk.2) (.slice Ao15 y270.length co15)) (fun _ h_ => h_.1))) hb); have n2_ := Aside0.mk (Kd.R_lower ho0 (below_size (by repeat (first | (with_reducible first | exact HB.out | apply below_alloc | apply pw_below_drewN | apply below_drew1 | refine below_set ?_ GE273.out) | exact HB.out)))); have n3_ := Aside0.mk (blk_below (g := gb273) (o := .cells #[.slice Ao16 y267.length co16, .slice Ao15 y270.length co15] 28 (0, 0)) (by (with_reducible repeat (first | refine blk_drewN ?_ _ | refine blk_drew ?_ | refine blk_alloc ?_ _)); refine blk_put (cs := #[.slice Ao16 y267.length co16, .slice none 0 0]) ?_ 1 _ rfl; (with_reducible repeat (first | refine blk_drewN ?_ _ | refine blk_drew ?_ | refine blk_alloc ?_ _)); refine blk_put (cs := #[.slice none 0 0, .slice none 0 0]) ?_ 0 _ rfl; (with_reducible repeat (first | refine blk_drewN ?_ _ | refine blk_drew ?_ | refine blk_alloc ?_ _)); exact BK273.out) hb); have n4_ := Aside0.mk (below_step (by repeat (first | (with_reducible first | exact HB.out | apply below_alloc | apply pw_below_drewN | apply below_drew1 | refine below_set ?_ GE273.out) | exact HB.out)) hb); clear HO269; clear HO272; clear BK273; clear HB; have HO269 := n0_; have HO272 := n1_; have HO276 := n2_; have BK273 := n3_; have HB := n4_; clear n0_ n1_ n2_ n3_ n4_; (try clear hb); (try clear hb2); (try clear hk); (try clear hi); (try clear ho0); have hcz20_0 : w19.cell? ⟨gb273, 0, none⟩ = some (.slice Ao16 y267.length co16) := (blk_cell BK273.out 0).trans rfl; have hcz20_1 : w19.cell? ⟨gb273, 1, none⟩ = some (.slice Ao15 y270.length co15) := (blk_cell BK273.out 1).trans rfl; have hfz20_0 := blk_frozen BK273.out 0; have hfz20_1 := blk_frozen BK273.out 1) | ((with_reducible refine gate_callee (f := 13) rfl ?_); refine goesL_ (some 21) rfl rfl Tryd.func13 (by kernel_rfl) rfl #[.agg #[.slice Ao16 y267.length co16, .slice Ao15 y270.length co15]] rfl (by (try simp only [List.map_toArray, List.map_cons, List.map_nil]); first | done | rfl | (simp only [List.length_drop, List.length_take]; rfl)) ?_; (with_reducible refine (chunk_Bounds.calls _ _ y267 _ _ y270 t278 t279 t280 t281 _ ?side1 ?side2 ?side3 ?side4 ?side5 A2.out).mono ?_); (case side1 => repeat (first | exact (Kd.R_reads' HO269.out).2.2 | (with_reducible refine Kd.C_alloc ?_ _) | (with_reducible refine Kd.C_drewN ?_ _) | (with_reducible refine Kd.C_drew ?_))); (case side2 => exact (Kd.R_reads' HO269.out).2.1); (case side3 => repeat (first | exact (Kd.R_reads' HO272.out).2.2 | (with_reducible refine Kd.C_alloc ?_ _) | (with_reducible refine Kd.C_drewN ?_ _) | (with_reducible refine Kd.C_drew ?_))); (case side4 => exact (Kd.R_reads' HO272.out).2.1); (case side5 => exact laid_below HGL.out (by repeat (first | (with_reducible first | exact HB.out | apply below_alloc | apply pw_below_drewN | apply below_drew1 | refine below_set ?_ GE273.out) | exact HB.out))); rintro e w21 ⟨rfl, hb⟩; refine ⟨_, rfl, ?_⟩; have n0_ := Aside0.mk (Kd.R_below (by (with_reducible repeat (first | apply Kd.R_alloc | apply Kd.R_drewN | apply Kd.R_drew)); exact HO269.out) hb); have n1_ := Aside0.mk (Kd.R_below (by (with_reducible repeat (first | apply Kd.R_alloc | apply Kd.R_drewN | apply Kd.R_drew)); exact HO272.out) hb); have n2_ := Aside0.mk (Kd.R_below (by (with_reducible repeat (first | apply Kd.R_alloc | apply Kd.R_drewN | apply Kd.R_drew)); exact HO276.out) hb); have n3_ := Aside0.mk (blk_below (g := gb273) (o := .cells #[.slice Ao16 y267.length co16, .slice Ao15 y270.length co15] 28 (0, 0)) (by (with_reducible repeat (first | refine blk_drewN ?_ _ | refine blk_drew ?_ | refine blk_alloc ?_ _)); exact BK273.out) hb); have n4_ := Aside0.mk (below_step (by repeat (first | (with_reducible first | exact HB.out | apply below_alloc | apply pw_below_drewN | apply below_drew1 | refine below_set ?_ GE273.out) | exact HB.out)) hb); clear HO269; clear HO272; clear HO276; clear BK273; clear HB; have HO269 := n0_; have HO272 := n1_; have HO276 := n2_; have BK273 := n3_; have HB := n4_; clear n0_ n1_ n2_ n3_ n4_; (try clear hb); (try clear hb2); (try clear hk); (try clear hi)) | ((with_reducible refine gate_callee (f := 38) rfl ?_); refine goesL_ (some 27) rfl rfl Tryd.func38 (by kernel_rfl) rfl #[.int .i64 t277] rfl (by (try simp only [List.map_toArray, List.map_cons, List.map_nil]); first | done | rfl | (simp only [List.length_drop, List.length_take]; rfl)) ?_; (with_reducible refine (icehouselaw04_num.calls t277 t282 _ A3.out).mono ?_); rintro e w' ⟨rfl, ⟨nd, rfl⟩⟩; refine ⟨_, rfl, ?_⟩; have hcv22 := own_string (P := Tryd.prog) Tryd.underlying56 Tryd.underlying5 Tryd.underlying9 (Kd.own_of_R (Kd.R_drewN HO276.out nd)); have hcz23_0 : w21.cell? ⟨gb273, 0, none⟩ = some (.slice Ao16 y267.length co16) := (blk_cell BK273.out 0).trans rfl; have hcz23_1 : w21.cell? ⟨gb273, 1, none⟩ = some (.slice Ao15 y270.length co15) := (blk_cell BK273.out 1).trans rfl; have hfz23_0 := blk_frozen BK273.out 0; have hfz23_1 := blk_frozen BK273.out 1) | (go_at_call 36; (with_reducible refine (chunk_Right.calls _ _ y267 _ _ y270 t283 _ ?side1 ?side2 ?side3 ?side4 ?side5 A10.out).mono ?_); (case side1 => repeat (first | exact (Kd.R_reads' HO269.out).2.2 | (with_reducible refine Kd.C_alloc ?_ _) | (with_reducible refine Kd.C_drewN ?_ _) | (with_reducible refine Kd.C_drew ?_))); (case side2 => exact (Kd.R_reads' HO269.out).2.1); (case side3 => repeat (first | exact (Kd.R_reads' HO272.out).2.2 | (with_reducible refine Kd.C_alloc ?_ _) | (with_reducible refine Kd.C_drewN ?_ _) | (with_reducible refine Kd.C_drew ?_))); (case side4 => exact (Kd.R_reads' HO272.out).2.1); (case side5 => exact laid_below HGL.out (by repeat (first | (with_reducible first | exact HB.out | apply below_alloc | apply pw_below_drewN | apply below_drew1 | refine below_set ?_ GE273.out) | exact HB.out))); rintro e w24 ⟨rfl, hb⟩; have n0_ := Aside0.mk (Kd.R_below (by (with_reducible repeat (first | apply Kd.R_alloc | apply Kd.R_drewN | apply Kd.R_drew)); exact HO269.out) hb); have n1_ := Aside0.mk (Kd.R_below (by (with_reducible repeat (first | apply Kd.R_alloc | apply Kd.R_drewN | apply Kd.R_drew)); exact HO272.out) hb); have n2_ := Aside0.mk (Kd.R_below (by (with_reducible repeat (first | apply Kd.R_alloc | apply Kd.R_drewN | apply Kd.R_drew)); exact HO276.out) hb); have n3_ := Aside0.mk (blk_below (g := gb273) (o := .cells #[.slice Ao16 y267.length co16, .slice Ao15 y270.length co15] 28 (0, 0)) (by (with_reducible repeat (first | refine blk_drewN ?_ _ | refine blk_drew ?_ | refine blk_alloc ?_ _)); exact BK273.out) hb); have n4_ := Aside0.mk (below_step (by repeat (first | (with_reducible first | exact HB.out | apply below_alloc | apply pw_below_drewN | apply below_drew1 | refine below_set ?_ GE273.out) | exact HB.out)) hb); clear HO269; clear HO272; clear HO276; clear BK273; clear HB; have HO269 := n0_; have HO272 := n1_; have HO276 := n2_; have BK273 := n3_; have HB := n4_; clear n0_ n1_ n2_ n3_ n4_; (try clear hb); (try clear hb2); (try clear hk); (try clear hi)))
              go_ret
              exact ⟨by first | rfl | (simp [errW_none, errW_some] <;> rfl) | (simp [*, errW_none, errW_some] <;> rfl), by repeat (first | (with_reducible first | exact HB.out | apply below_alloc | apply pw_below_drewN | apply below_drew1 | refine below_set ?_ GE273.out) | exact HB.out)⟩
            · rw [if_neg c9] at H
              exact absurd (H.trans (congrArg some hr_.out.symm)) (by simp)
          · rw [if_neg c8] at H
            exact absurd (H.trans (congrArg some hr_.out.symm)) (by simp)
        · rw [if_neg c7] at H
          exact absurd (H.trans (congrArg some hr_.out.symm)) (by simp)
      · rw [if_neg c6] at H
        exact absurd (H.trans (congrArg some hr_.out.symm)) (by simp)
    · rw [if_neg c5] at H
      exact absurd (H.trans (congrArg some hr_.out.symm)) (by simp)
  · rw [if_neg c4] at H
    exact absurd (H.trans (congrArg some hr_.out.symm)) (by simp)
end Go.Proofs.YtkbmmgpdnienfaaDoor.P
namespace Go.Proofs.YtkbmmgpdnienfaaDoor.P
open Go.RowKit Go.Proofs.YtkbmmgpdnienfaaDoorW.PrintWords Go.Proofs.YtkbmmgpdnienfaaDoorW.PrintLast Go.Proofs.YtkbmmgpdnienfaaDoorW.PrintMore
attribute [local go_sem] max2_int min2_int max_two min_two max_three min_three max_four min_four   -- for this text's walks alone
def icehouselaw04_ChunkTimes.j0 : Nat → Int → Int → Int → Bool → List (S88) → List (S75) → Option (Bool)
  | 0, _, _, _, _, _, _ => none
  | k + 1, x1, x2, x3, x19, x308000, x308001 => if x19 = true then ((icehouselaw04_knows.f).bind fun t308 => (some t308)) else ((icehouselaw04_Own.f k x308000 x308001).bind fun bt309 => ((chunk_Between.f k bt309.1 bt309.2 x1 x2).bind fun t316 => ((chunk_Between.f k bt309.1 bt309.2 x2 x3).bind fun t319 => ((some (([] : List (S53)) : List (S53))).bind fun y322 => (if y322.length + t316.length < 2513169434916 then ((some (y322 ++ t316 : List (S53))).bind fun y325 => (if y325.length + t319.length < 2513169434916 then ((chunk_Between.f k bt309.1 bt309.2 x1 x3).bind fun t331 => ((icehouselaw03_Sames.f k (y325 ++ t319) t331).bind fun t334 => (if t334 = true then ((icehouselaw04_knows.f).bind fun t335 => (some t335)) else (some false)))) else (none))) else (none))))))
def icehouselaw04_ChunkTimes.f (k : Nat) (l0_0 : List (S88)) (l0_1 : List (S75)) (a1 : Int) (a2 : Int) (a3 : Int) : Option (Bool) := if a1 > a2 then (icehouselaw04_ChunkTimes.j0 k a1 a2 a3 true l0_0 l0_1) else (icehouselaw04_ChunkTimes.j0 k a1 a2 a3 (decide (a2 > a3)) l0_0 l0_1)
def icehouselaw04_ChunkTimes.T6 : Bool × List (List Nat × List Nat) := (true, [([], []), ([], []), ([0, 1], [0, 1]), ([], []), ([2, 3, 2], [2, 3]), ([], []), ([], []), ([], []), ([5, 6, 7, 4], [5, 6, 7]), ([4, 8, 8], [4, 8]), ([9, 9], [9]), ([10, 10], [10]), ([10, 11], [10, 11]), ([12, 11, 0, 1, 2, 3, 4, 5, 6, 7, 8, 9, 10, 11, 12], [12])])
def icehouselaw04_ChunkTimes.B6 : List Nat := [0, 0, 3, 0, 15, 0, 0, 0, 255, 511, 1023, 2047, 4095, 8191]
end Go.Proofs.YtkbmmgpdnienfaaDoor.P
namespace Go.Proofs.YtkbmmgpdnienfaaDoor.P
open Go.RowKit Go.Proofs.YtkbmmgpdnienfaaDoorW.PrintWords Go.Proofs.YtkbmmgpdnienfaaDoorW.PrintLast Go.Proofs.YtkbmmgpdnienfaaDoorW.PrintMore
theorem w1 {i : Nat} (h : i < 9223372036854775807) : wrap64 ((i : Int) + 1) = ((i + 1 : Nat) : Int) := by unfold wrap64; omega
theorem same2_from (l : List S88) (hl : l.length < 9223372036854775807) : ∀ d i k, i + d = l.length → d < k → icehouselaw02_Same.l0 k l l i = some true := by
  intro d
  induction d with
  | zero =>
    intro i k hi hk
    obtain ⟨k, rfl⟩ : ∃ m, k = m + 1 := ⟨k - 1, by omega⟩
    simp only [icehouselaw02_Same.l0]
    rw [if_neg (by omega)]
  | succ d ih =>
    intro i k hi hk
    obtain ⟨k, rfl⟩ : ∃ m, k = m + 1 := ⟨k - 1, by omega⟩
    simp only [icehouselaw02_Same.l0]
    rw [if_pos (by omega), if_pos (by omega), if_pos (by omega), if_pos trivial, if_pos trivial, w1 (by omega), ih (i + 1) k (by omega) (by omega)]
theorem same2_refl (l : List S88) (hl : l.length < 9223372036854775807) (k : Nat) (hk : l.length < k) : icehouselaw02_Same.f k l l = some true := by
  unfold icehouselaw02_Same.f
  rw [if_pos rfl]
  exact same2_from l hl l.length 0 k (by omega) hk
def own75 (r : S75) : S48 := ⟨r.f0, r.f1, r.f2⟩
theorem own2_is (l : List S88) (h : l.length < 4398046511104) : icehouselaw02_Own.f l = some l := by
  unfold icehouselaw02_Own.f
  rw [Option.bind_some, if_pos (by simpa using h)]
  rfl
theorem own4_from (lab o : List S88) (xs : List S75) (hx : xs.length < 4398046511104) : ∀ d i k, i + d = xs.length → d < k → icehouselaw04_Own.l0 k i lab xs o ((xs.take i).map own75) = some (o, xs.map own75) := by
  intro d
  induction d with
  | zero =>
    intro i k hi hk
    obtain ⟨k, rfl⟩ : ∃ m, k = m + 1 := ⟨k - 1, by omega⟩
    simp only [icehouselaw04_Own.l0]
    rw [if_neg (by omega), show i = xs.length by omega, List.take_length]
  | succ d ih =>
    intro i k hi hk
    obtain ⟨k, rfl⟩ : ∃ m, k = m + 1 := ⟨k - 1, by omega⟩
    have e : rd_T75 xs i = xs[i] := by
      show xs.getD ((i : Int).toNat) _ = _
      rw [Int.toNat_natCast, List.getD_eq_getElem?_getD, List.getElem?_eq_getElem (by omega)]; rfl
    simp only [icehouselaw04_Own.l0]
    rw [if_pos (by omega), if_pos (by omega), if_pos (by rw [List.length_map, List.length_take]; omega), w1 (by omega), ← ih (i + 1) k (by omega) (by omega)]
    rw [List.take_succ_eq_append_getElem (by omega), List.map_append, e]
    rfl
theorem own4_is (lab : List S88) (xs : List S75) (hl : lab.length < 4398046511104) (hx : xs.length < 4398046511104) (k : Nat) (hk : xs.length < k) : icehouselaw04_Own.f k lab xs = some (lab, xs.map own75) := by
  unfold icehouselaw04_Own.f
  rw [own2_is lab hl, Option.bind_some]
  exact own4_from lab lab xs hx xs.length 0 k (by omega) hk
def entryOf (lab : List S88) (r : S48) : S53 := ⟨r.f0, r.f1, lab, r.f2⟩
def inTime (a b : Int) (r : S48) : Bool := decide (a ≤ r.f1) && decide (r.f1 < b)
def betw (lab : List S88) (xs : List S48) (a b : Int) : List S53 := (xs.filter (inTime a b)).map (entryOf lab)
theorem rd48_get (xs : List S48) (i : Nat) (h : i < xs.length) : rd_T48 xs i = xs[i] := by
  show xs.getD ((i : Int).toNat) _ = _
  rw [Int.toNat_natCast, List.getD_eq_getElem?_getD, List.getElem?_eq_getElem h]; rfl
def betweenR (lab : List S88) (xs : List S48) (a b : Int) : List S53 := if chunkR lab xs = true then betw lab xs a b else []
theorem right4_is {lab : List S88} {xs : List S48} (hf : chunkFit lab xs) : chunk_Right.f lab xs = some (chunkR lab xs) := by
  unfold chunk_Right.f
  rw [if_pos hf]
theorem knows_is : icehouselaw04_knows.f = some true := by kernel_rfl
theorem fit75 {lab : List S88} {xs : List S75} (h0 : lab.length < 4398046511104) (h1 : xs.length < 4398046511104) (h2 : ∀ r ∈ xs, W64 r.f0) : chunkFit lab (xs.map own75) :=
  ⟨h0, by rw [List.length_map]; exact h1, fun r hr => by obtain ⟨x, hx, rfl⟩ := List.mem_map.1 hr; exact h2 x hx⟩
end Go.Proofs.YtkbmmgpdnienfaaDoor.P
