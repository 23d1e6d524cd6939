/- Part 19 of the proof of chunkBack_card: its words, walks and plain laws, one text behind the other. -/
import Derived.Test.YtkbmmgpdnienfaaDoorK913
import Derived.Test.YtkbmmgpdnienfaaDoorK916
import Derived.Test.YtkbmmgpdnienfaaDoorK918
set_option linter.unusedVariables false
set_option linter.unusedSimpArgs false
namespace Go.Proofs.YtkbmmgpdnienfaaDoor.P
open Go.RowKit Go.Proofs.YtkbmmgpdnienfaaDoorW.PrintWords Go.Proofs.YtkbmmgpdnienfaaDoorW.PrintLast Go.Proofs.YtkbmmgpdnienfaaDoorW.PrintMore
def numS (l : List Int) (e : Int) : Int × List Int × Int := if e ≠ 0 then (0, l, e) else ((dnum l).1, l.drop (dnum l).2.1, (dnum l).2.2)
def textS (l : List Int) (e : Int) : ByteArray × List Int × Int :=
  if (numS l e).2.2 ≠ 0 then (⟨#[]⟩, l, (numS l e).2.2) else if 65536 < (numS l e).1 then (⟨#[]⟩, l, 21) else if ((numS l e).2.1.length : Int) < (numS l e).1 then (⟨#[]⟩, l, 20)
  else (strOfNums ((numS l e).2.1.take (numS l e).1.toNat), (numS l e).2.1.drop (numS l e).1.toNat, 0)
theorem numS_in {l : List Int} (hl : bytesOK l) (e : Int) : 0 ≤ (numS l e).1 ∧ (numS l e).1 < 72057594037927936 := by
  have := dn_lt 8 0 0 l hl rfl (by omega) (by decide)
  unfold numS
  split
  · exact ⟨by simp, by simp⟩
  · exact ⟨this.1, this.2.1⟩
theorem numS_ok {l : List Int} (hl : bytesOK l) (e : Int) : bytesOK (numS l e).2.1 ∧ (numS l e).2.1.length ≤ l.length := by
  unfold numS
  split
  · exact ⟨hl, Nat.le_refl _⟩
  · exact ⟨hl.drop _, by rw [List.length_drop]; omega⟩
theorem textS_ok {l : List Int} (hl : bytesOK l) (e : Int) : bytesOK (textS l e).2.1 ∧ (textS l e).2.1.length ≤ l.length := by
  have h := numS_ok hl e
  unfold textS
  split
  · exact ⟨hl, Nat.le_refl _⟩
  · split
    · exact ⟨hl, Nat.le_refl _⟩
    · split
      · exact ⟨hl, Nat.le_refl _⟩
      · exact ⟨h.1.drop _, by rw [List.length_drop]; omega⟩
theorem numD_is {l : List Int} (hl : bytesOK l) (hn : l.length ≤ 140737488355328) (e : Int) : numD l e = some (numS l e) := by
  unfold numD numS
  split
  · rfl
  · have h := dn_lt 8 0 0 l hl rfl (by omega) (by decide)
    have h2 : (dnum l).2.1 ≤ l.length := by have := h.2.2.1; show (dn 8 0 0 l).2.1 ≤ _; omega
    rw [number_is l hl (by omega), Option.bind_some]
    dsimp only
    rw [if_pos ⟨by omega, by omega⟩, Int.toNat_natCast]
theorem textD_is {l : List Int} (hl : bytesOK l) (hn : l.length ≤ 140737488355328) (e : Int) : textD l e = some (textS l e) := by
  have h0 := (numS_in hl e).1
  unfold textD textS
  rw [numD_is hl hn, Option.bind_some]
  generalize numS l e = r at h0 ⊢
  split
  · rfl
  · split
    · rfl
    · split
      · rfl
      · first | rw [if_pos h0] | rfl
def nextL (s : List S88 × List Int × Int) : List S88 × List Int × Int :=
  (s.1 ++ [⟨(textS s.2.1 s.2.2).1, (textS (textS s.2.1 s.2.2).2.1 (textS s.2.1 s.2.2).2.2).1⟩], (textS (textS s.2.1 s.2.2).2.1 (textS s.2.1 s.2.2).2.2).2.1, (textS (textS s.2.1 s.2.2).2.1 (textS s.2.1 s.2.2).2.2).2.2)
def labsTo (l : List Int) (e : Int) : Nat → List S88 × List Int × Int
  | 0 => ([], l, e)
  | i + 1 => nextL (labsTo l e i)
theorem labsTo_len (l : List Int) (e : Int) : ∀ i, (labsTo l e i).1.length = i
  | 0 => rfl
  | i + 1 => by simp [labsTo, nextL, labsTo_len l e i]
theorem labsTo_ok {l : List Int} (hl : bytesOK l) (e : Int) : ∀ i, bytesOK (labsTo l e i).2.1 ∧ (labsTo l e i).2.1.length ≤ l.length
  | 0 => ⟨hl, Nat.le_refl _⟩
  | i + 1 => by
    have h := labsTo_ok hl e i
    have h1 := textS_ok h.1 (labsTo l e i).2.2
    have h2 := textS_ok h1.1 (textS (labsTo l e i).2.1 (labsTo l e i).2.2).2.2
    exact ⟨h2.1, by show (textS _ _).2.1.length ≤ _; omega⟩
def labsN (l : List Int) : Nat := min (numS l 0).1.toNat 17
def labsS (l : List Int) : List S88 × List Int × Int := labsTo (numS l 0).2.1 (numS l 0).2.2 (labsN l)
def readS (l : List Int) : List S88 × Int := if doneR (labsS l).2.1 (labsS l).2.2 ≠ 0 ∨ labelsR (labsS l).1 = false then ([], 21) else ((labsS l).1, 0)
end Go.Proofs.YtkbmmgpdnienfaaDoor.P
namespace Go.Proofs.YtkbmmgpdnienfaaDoor.P
open Go.RowKit Go.Proofs.YtkbmmgpdnienfaaDoorW.PrintWords Go.Proofs.YtkbmmgpdnienfaaDoorW.PrintLast Go.Proofs.YtkbmmgpdnienfaaDoorW.PrintMore
attribute [local go_sem] Oper.semAt_some min_two min2_int
theorem numS_calls (lo g : Nat) (l : List Int) (e : Int) (w : World) (hD : Dec w lo g l e) (hl : bytesOK l) (hn : l.length ≤ 140737488355328) :
    Calls Tryd.prog 70 #[.pointer (some ⟨g, 0, none⟩)] w fun en w' => en = .returned (.int .i64 (numS l e).1) ∧ Dec w' lo g (numS l e).2.1 (numS l e).2.2 ∧ Kp1 g w w' := number_calls lo g l e _ _ _ w hD (numD_is hl hn e)
theorem textS_calls (lo g : Nat) (l : List Int) (e : Int) (w : World) (hD : Dec w lo g l e) (hl : bytesOK l) (hn : l.length ≤ 140737488355328) :
    Calls Tryd.prog 69 #[.pointer (some ⟨g, 0, none⟩)] w fun en w' => en = .returned (.string (textS l e).1) ∧ Dec w' lo g (textS l e).2.1 (textS l e).2.2 ∧ Kp1 g w w' := text_calls lo g l e _ _ _ w hD (textD_is hl hn e)
structure LRd (w : World) (g : Nat) (v : Value) (out : List S88) (l : List Int) (e : Int) (W : World) : Prop where
  dec : Dec W w.heap.size g l e
  row : Kd.R k88 88 W w.heap.size (fun k => g < k) v out
  below : Below w.heap.size w W
theorem LRd.kp {w : World} {g : Nat} {v : Value} {out : List S88} {l l2 : List Int} {e e2 : Int} {W W1 : World} (h : LRd w g v out l e W) (hd : Dec W1 w.heap.size g l2 e2) (hk : Kp1 g W W1) : LRd w g v out l2 e2 W1 :=
  ⟨hd, Kd.R_step h.row (fun k h1 h2 => hk.block k h2 (Nat.ne_of_gt h1)), KpW.below h.below h.below.size hk (fun i hi => by obtain ⟨_, _, _, hlo, _⟩ := h.dec; rw [hi]; exact hlo)⟩
theorem LRd.step {w : World} {g : Nat} {v : Value} {out : List S88} {l : List Int} {e : Int} {W W1 : World} (h : LRd w g v out l e W) (hb : Below W.heap.size W W1) : LRd w g v out l e W1 := ⟨h.dec.below hb h.dec.lt, Kd.R_below h.row hb, below_step h.below hb⟩
set_option maxHeartbeats 4000000 in
set_option maxRecDepth 100000 in
theorem read_calls (A0 : Option Addr) (c0 : Nat) (l0 : List Int) (w : World) (hr : Kd.C (Kd.int .u8) w A0 l0.length l0) (hc : l0.length ≤ c0) (hok : bytesOK l0) (hn : l0.length < 140737488355328) (hG : Laid w) :
    Calls Tryd.prog 68 #[.slice A0 l0.length c0] w fun en w' => ∃ v, en = .returned (.tuple #[v, .int .i64 (readS l0).2]) ∧ Kd.R k88 88 w' w.heap.size (fun _ => True) v (readS l0).1 ∧ Below w.heap.size w w' := by
  have HR := Aside0.mk hr
  have HC := Aside0.mk hc
  have HOK := Aside0.mk hok
  have HN := Aside0.mk hn
  have HGL := Aside0.mk hG
  have HCL : Aside0 (slices_Clone_byte_byte.f l0 = some l0) := ⟨by unfold slices_Clone_byte_byte.f; rw [if_pos hn]⟩
  obtain ⟨s0, hs0⟩ : ∃ s, numS l0 0 = s := ⟨_, rfl⟩
  obtain ⟨n, l1, e1⟩ := s0
  have h01 := numS_ok hok 0
  have hN := numS_in hok 0
  obtain ⟨N, hNN⟩ : ∃ N, labsN l0 = N := ⟨_, rfl⟩
  have hN17 : N ≤ 17 := by rw [← hNN]; unfold labsN; omega
  have hmin : (if (17 : Int) < n then 17 else n) = (N : Int) := by rw [← hNN]; unfold labsN; rw [hs0] at hN ⊢; dsimp only at hN ⊢; split <;> omega
  rw [hs0] at h01
  dsimp only at h01
  have HB1 := Aside0.mk h01.1
  have HL1 : Aside0 (l1.length ≤ l0.length) := ⟨h01.2⟩
  have HS0 := Aside0.mk hs0
  have HNN := Aside0.mk hNN
  have HN17 := Aside0.mk hN17
  clear hr hc hok hn hG hs0 h01 hN hNN hN17
  obtain ⟨⟨rl, re⟩, hres⟩ : ∃ r, readS l0 = r := ⟨_, rfl⟩
  rw [hres]
  have HRES := Aside0.mk hres
  clear hres
  go_enter Tryd.func68, Tryd.ntmps68
  go_wp2_with (first
    | (go_at_call 67; refine (new_calls A0 c0 l0 _ HR.out HC.out HCL.out).mono ?_; rintro en w1 ⟨g, rfl, hd, hb⟩; have HI := Aside0.mk (LRd.mk hd (Kd.R_nil k88 88 _ _ _) hb); clear hd hb)
    | (go_at_call 70; refine (numS_calls w.heap.size g l0 0 _ HI.out.dec HOK.out (Nat.le_of_lt HN.out)).mono ?_; rw [HS0.out]; rintro en w2 ⟨rfl, hd, hk⟩; have n0_ := Aside0.mk (HI.out.kp hd hk); clear HI hd hk; have HI := n0_; clear n0_))
  clear hmin
  go_loopg [5, 11] N (fun kq v5 v11 w' => ∃ i : Nat, kq + i = N ∧ v11 = .int .i64 i ∧ Aside0 (LRd w g v5 (labsTo l1 e1 i).1 (labsTo l1 e1 i).2.1 (labsTo l1 e1 i).2.2 w'))
  case atStart => exact ⟨0, rfl, rfl, HI⟩
  case round =>
    clear HI
    obtain ⟨i, hi, rfl, HI⟩ := hrel
    have HIN : Aside0 (i ≤ N) := ⟨by omega⟩
    have HLO := Aside0.mk (labsTo_ok HB1.out e1 i)
    have HLL := Aside0.mk (labsTo_len l1 e1 i)
    by_cases hlt : i < N
    · obtain ⟨k1, rfl⟩ : ∃ k1, gk = k1 + 1 := ⟨gk - 1, by omega⟩
      have hq : (i : Int) < (N : Int) := by omega
      have hw1 : wrap64 ((i : Int) + 1) = ((i + 1 : Nat) : Int) := by have := HN17.out; rw [wrap_in (by omega) (by omega)]; omega
      have HSUC : Aside0 (labsTo l1 e1 (i + 1) = nextL (labsTo l1 e1 i)) := ⟨rfl⟩
      generalize labsTo l1 e1 i = s at HI HLO HLL HSUC
      obtain ⟨ls, lr, er⟩ := s
      dsimp only at HI HLO HLL
      have HT1 := Aside0.mk (textS_ok HLO.out.1 er)
      have HT2 := Aside0.mk (textS_ok HT1.out.1 (textS lr er).2.2)
      generalize hta : textS lr er = ta at HT1 HT2
      obtain ⟨sa, la, ea⟩ := ta
      have HTA := Aside0.mk hta
      clear hta
      dsimp only at HT1 HT2
      generalize htb : textS la ea = tb at HT2
      obtain ⟨sb, lb, eb⟩ := tb
      have HTB := Aside0.mk htb
      clear htb
      dsimp only at HT2
      have HSUC2 : Aside0 (labsTo l1 e1 (i + 1) = (ls ++ [(⟨sa, sb⟩ : S88)], lb, eb)) := ⟨by rw [HSUC.out]; simp only [nextL, HTA.out, HTB.out]⟩
      go_wp2_with fail
      refine (textS_calls w.heap.size g lr er _ HI.out.dec HLO.out.1 (by have := HLO.out.2; have := HL1.out; have := HN.out; omega)).mono ?_
      rw [HTA.out]
      rintro en w3 ⟨rfl, hd, hk⟩
      have n0_ := Aside0.mk (HI.out.kp hd hk)
      clear HI hd hk
      have HI := n0_
      clear n0_
      go_wp2_with fail
      refine (textS_calls w.heap.size g la ea _ HI.out.dec HT1.out.1 (by have := HT1.out.2; have := HLO.out.2; have := HL1.out; have := HN.out; omega)).mono ?_
      rw [HTB.out]
      rintro en w4 ⟨rfl, hd, hk⟩
      have n0_ := Aside0.mk (HI.out.kp hd hk)
      clear HI hd hk
      have HI := n0_
      clear n0_
      go_wp2_with ((with_reducible refine gate_builtin (b := .append) (xs := #[.tmp 13, .tmp 19]) rfl ?_); at_builtin; refine Kd.R_append k88 (w0 := w) w.heap.size rfl (.tmp 13) (.tmp 19) 22 88 (.agg #[(.string ⟨#[]⟩), (.string ⟨#[]⟩)]) 32 rfl Tryd.underlying22 info88 rfl (by decide) (by omega) u5 ls (⟨sa, sb⟩ : S88) [.string sa, .string sb] (fun k => g < k) (fun _ => False) rfl rfl (k88_mkM _ _ _ _) (fun _ h => h.elim) ?aF ?aO ?aB ?aS ?aL ?_; (case aF => exact fun k hk => Nat.lt_of_lt_of_le HI.out.dec.lt hk); (case aO => exact HI.out.row); (case aB => exact HI.out.below); (case aS => exact HI.out.below.size); (case aL => have := HLL.out; have := HIN.out; have := HN17.out; omega); intro v5 w5 ho hb hg hat; have n0_ : Aside0 (LRd w g v5 (ls ++ [(⟨sa, sb⟩ : S88)]) lb eb w5) := ⟨⟨HI.out.dec.step (fun k h1 h2 h3 => hg.block k h1 (fun e => by have := HI.out.row.1 k e.symm; omega)), ho, hb⟩⟩; clear HI ho hb hg hat; have HI := n0_; clear n0_)
      go_roundg k1
      case rel => exact ⟨i + 1, by omega, by first | rfl | (simp [*]; done), by rw [HSUC2.out]; exact HI⟩
      case measure => omega
    · have hq : ¬ (i : Int) < (N : Int) := by omega
      have hiN : i = N := by omega
      subst hiN
      have HLS : Aside0 (labsS l0 = labsTo l1 e1 i) := ⟨by unfold labsS; rw [HNN.out, HS0.out]⟩
      have hres := HRES.out
      unfold readS at hres
      rw [HLS.out] at hres
      generalize labsTo l1 e1 i = s at HI HLO HLL hres
      obtain ⟨ls, lr, er⟩ := s
      dsimp only at HI HLO HLL hres
      obtain ⟨A5, c5, rfl⟩ := Kd.R_slice HI.out.row
      by_cases hd : doneR lr er = 0
      · have hll : ls.length ≤ 17 := by have := HLL.out; have := HN17.out; omega
        cases hlab : labelsR ls with
        | false =>
          have HRT : Aside0 (label_Right.f 18 ls = some false) := ⟨by rw [labels_is ls (by omega) 18 (by omega), hlab]⟩
          rw [if_pos (.inr hlab)] at hres
          obtain ⟨rfl, rfl⟩ := Prod.mk.inj hres
          clear hlab hres hll
          go_wp2_with (first
            | (go_at_call 73; refine (done_calls w.heap.size g lr er _ HI.out.dec).mono ?_; rw [hd]; rintro en w' ⟨rfl, rfl⟩)
            | (go_at_call 85; refine (label_Right.calls 18 A5 c5 ls false _ (Kd.R_reads' HI.out.row).2.2 (Kd.R_reads' HI.out.row).2.1 (laid_below HGL.out HI.out.below) HRT.out).mono ?_; rintro en w6 ⟨rfl, hb⟩; have n0_ := Aside0.mk (HI.out.step hb); clear HI hb; have HI := n0_; clear n0_))
          go_ret2
          exact ⟨_, rfl, Kd.R_nil _ _ _ _ _, HI.out.below⟩
        | true =>
          have HRT : Aside0 (label_Right.f 18 ls = some true) := ⟨by rw [labels_is ls (by omega) 18 (by omega), hlab]⟩
          rw [if_neg (by rw [hd, hlab]; simp)] at hres
          obtain ⟨rfl, rfl⟩ := Prod.mk.inj hres
          clear hlab hres hll
          go_wp2_with (first
            | (go_at_call 73; refine (done_calls w.heap.size g lr er _ HI.out.dec).mono ?_; rw [hd]; rintro en w' ⟨rfl, rfl⟩)
            | (go_at_call 85; refine (label_Right.calls 18 A5 c5 ls true _ (Kd.R_reads' HI.out.row).2.2 (Kd.R_reads' HI.out.row).2.1 (laid_below HGL.out HI.out.below) HRT.out).mono ?_; rintro en w6 ⟨rfl, hb⟩; have n0_ := Aside0.mk (HI.out.step hb); clear HI hb; have HI := n0_; clear n0_))
          go_ret2
          exact ⟨_, rfl, Kd.R_mono HI.out.row (fun _ _ => trivial), HI.out.below⟩
      · rw [if_pos (.inl hd)] at hres
        obtain ⟨rfl, rfl⟩ := Prod.mk.inj hres
        clear hres
        generalize hdd : doneR lr er = dd at hd
        have HDD := Aside0.mk hdd
        clear hdd
        go_wp2_with (first
          | (go_at_call 73; refine (done_calls w.heap.size g lr er _ HI.out.dec).mono ?_; rw [HDD.out]; rintro en w' ⟨rfl, rfl⟩))
        go_ret2
        exact ⟨_, rfl, Kd.R_nil _ _ _ _ _, HI.out.below⟩
end Go.Proofs.YtkbmmgpdnienfaaDoor.P
