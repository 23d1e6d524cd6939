/- Part 12 of the proof of chunkBack_card: its words, walks and plain laws, one text behind the other. -/
import Derived.RangeFuncNested
import Derived.RangeFuncBound
import Derived.RangeFuncCalls
import Derived.RangeFuncLeaves
import Derived.OwnWalkIn
import Derived.TacticsInMore
import Derived.LoopNIn
import Derived.LoopIn
import Derived.Test.YtkbmmgpdnienfaaDoorK96
set_option linter.unusedVariables false
set_option linter.unusedSimpArgs false
namespace Go.Proofs.YtkbmmgpdnienfaaDoor.P
open Go.RowKit Go.Proofs.YtkbmmgpdnienfaaDoorW.PrintWords Go.Proofs.YtkbmmgpdnienfaaDoorW.PrintLast Go.Proofs.YtkbmmgpdnienfaaDoorW.PrintMore
section
variable {P : Program} {ops : Array Oper} {Q : Exit → Act → World → Prop} {md : Region.Mode} {l n : Nat}
abbrev Fr (l : Nat) : Fence := Fence.wide.inRound l
theorem rows_wide {row : String} {args : Array Value} {w : World} {R : Value → World → Prop} (h : Rows P row args w R) : RowsIn (Fr l) n P row args w R :=
  fun c cs _ => let ⟨v, w', r, s⟩ := h c cs; ⟨v, w', r, stepsIn_wide.2 s⟩
theorem calls_round {f : FuncId} {args : Array Value} {w : World} {R : Ending → World → Prop} (h : Calls P f args w R) : CallsIn (Fr l) n P f args w R := callsIn_wide.2 h
theorem upon_in {o : Oper} {a : Act} {K K' : Act → World → Prop} (hK : ∀ a w, K a w → K' a w) {r : Result Next} (h : o.upon P a K Q r) : o.uponIn (Fr l) n P a K' Q r := by
  cases r with
  | ok x w' =>
    cases x <;> simp only [Oper.upon, Oper.uponIn] at h ⊢ <;>
      first
        | exact hK _ _ h
        | exact ⟨fun e => (by cases e), calls_round (h.mono fun e w2 he => by cases e <;> first | exact hK _ _ he | exact he)⟩
        | exact ⟨fun e => (by cases e), rows_wide (h.mono fun _ _ he => hK _ _ he)⟩
  | halt x w' => cases x <;> simp only [Oper.upon, Oper.uponIn] at h ⊢ <;> exact h
theorem wpOp_in {i : Nat} (hnd : ∀ o, ops[i]? = some o → ∀ c, o.op ≠ .defer c) (hno : ¬ LetsOut Q) {a : Act} {w : World} {K K' : Act → World → Prop} (hK : ∀ a w, K a w → K' a w) (h : wpOp P ops Q i K a w) : wpOpIn (Fr l) n P ops Q i K' a w := by
  unfold wpOp at h
  unfold wpOpIn
  cases ho : ops[i]? with
  | none => rw [ho] at h; exact hK _ _ h
  | some o =>
    rw [ho] at h
    simp only at h ⊢
    by_cases hw : Region.wanted o (yielded ops a.tmps) = true
    · rw [if_pos hw] at h ⊢
      rcases h with h | ⟨_, h⟩
      · refine ⟨fun _ _ => trivial, ?_⟩
        rw [Oper.semAt_eq _ _ _ (hnd o ho)]
        exact upon_in hK h
      · exact absurd h hno
    · rw [if_neg hw] at h ⊢
      exact ⟨fun _ _ => trivial, hK _ _ h⟩
theorem wpAny_in (hnd : ∀ (i : Nat) o, ops[i]? = some o → ∀ c, o.op ≠ .defer c) (hno : ¬ LetsOut Q) : ∀ (fuel : Nat) (listed : Array Bool) (a : Act) (w : World), wpAny P md ops Q fuel listed a w → wpAnyIn (Fr l) n P md ops Q fuel listed a w
  | 0, _, _, _, h => h
  | fuel + 1, _, _, _, h => ⟨h.1, fun i hi => wpOp_in (hnd i) hno (fun a w => wpAny_in hnd hno fuel _ a w) (h.2 i hi)⟩
def noDefer (ops : Array Oper) : Bool := ops.all fun o => match o.op with | .defer _ => false | _ => true
theorem noDefer_spec (h : noDefer ops = true) : ∀ (i : Nat) o, ops[i]? = some o → ∀ c, o.op ≠ .defer c := by
  intro i o ho c hc
  have := Array.all_eq_true'.1 h o (Array.mem_of_getElem? ho)
  rw [hc] at this
  cases this
theorem start_in {S : World → Prop} {ds : List Nat} {id m : Nat} {a : Act} {w : World} (lst : Array Bool) (hm : P.follows .mixedOrders = true) (hn : ops.size = m) (hl : Array.replicate m false = lst) (hd : noDefer ops = true) (hno : ¬ LetsOut Q) (hS : S w.drew)
    (h : S w.drew → wpAnyLast P .any ops Q S ds m lst a w.drew) : (Code.region id ops true).wpIn (Fr l) n P Q a w := by
  subst hn
  subst hl
  exact wpIn_region_any hm (wpAny_in (noDefer_spec hd) hno _ _ _ _ (wpAny_of_last _ _ _ _ (h hS)))
theorem wpOps_in (hnd : ∀ (i : Nat) o, ops[i]? = some o → ∀ c, o.op ≠ .defer c) (hno : ¬ LetsOut Q) : ∀ (is : List Nat) (a : Act) (w : World), wpOps P ops Q is a w → wpOpsIn (Fr l) n P ops Q is a w
  | [], _, _, h => h
  | i :: is, a, w, h => by
    rw [wpOps_cons] at h
    rw [wpOpsIn_cons]
    exact wpOp_in (hnd i) hno (fun a w => wpOps_in hnd hno is a w) h
theorem seq_in {id : Nat} {os : List Oper} {a : Act} {w : World} (hd : noDefer os.toArray = true) (hno : ¬ LetsOut Q) (h : wpList P os.toArray Q os a w) : (Code.region id os.toArray false).wpIn (Fr l) n P Q a w := by
  refine wpIn_region (wpOps_in (noDefer_spec hd) hno _ _ _ ?_)
  rw [List.range_eq_range', show os.toArray.size = os.length from rfl, wpOps_eq_wpList os 0 (by simp)]
  exact h
end
structure KpW (S : Nat → Prop) (A B : World) : Prop where
  os : B.os = A.os
  tape : B.tape = A.tape
  output : B.output = A.output
  size : A.heap.size ≤ B.heap.size
  block : ∀ i, i < A.heap.size → ¬ S i → B.heap[i]? = A.heap[i]?
theorem KpW.refl (S : Nat → Prop) (A : World) : KpW S A A := ⟨rfl, rfl, rfl, Nat.le_refl _, fun _ _ _ => rfl⟩
theorem KpW.trans {S : Nat → Prop} {A B C : World} (h : KpW S A B) (k : KpW S B C) : KpW S A C := ⟨k.os.trans h.os, k.tape.trans h.tape, k.output.trans h.output, Nat.le_trans h.size k.size, fun i hi hS => (k.block i (Nat.lt_of_lt_of_le hi h.size) hS).trans (h.block i hi hS)⟩
theorem KpW.of_grown {S : Nat → Prop} {A B : World} {row : Option Nat} (h : A.grownBy B row) (hr : ∀ r, row = some r → S r) : KpW S A B := ⟨h.os, h.tape, h.output, h.size, fun i hi hS => h.block i hi (fun e => hS (hr i e.symm))⟩
theorem KpW.of_below {S : Nat → Prop} {A B : World} (h : Below A.heap.size A B) : KpW S A B := ⟨h.os, h.tape, h.output, h.size, fun i hi _ => h.block i hi⟩
theorem KpW.at_ {S : Nat → Prop} {A B : World} {i : Nat} {o : Obj} (h : KpW S A B) (hS : ¬ S i) (ho : A.heap[i]? = some o) : B.heap[i]? = some o := (h.block i (Array.getElem?_eq_some_iff.1 ho).1 hS).trans ho
theorem KpW.below {S : Nat → Prop} {A B C : World} {m : Nat} (h : Below m A B) (hm : m ≤ B.heap.size) (k : KpW S B C) (hS : ∀ i, S i → m ≤ i) : Below m A C :=
  h.trans ⟨k.os, k.tape, k.output, k.size, fun i hi => k.block i (by omega) (fun hi' => by have := hS i hi'; omega)⟩
theorem grown_set (w : World) (b i : Nat) (v : Value) : w.grownBy (w.setCell ⟨b, i, none⟩ v) (some b) :=
  ⟨rfl, rfl, rfl, by simp, fun k _ hk => Below.heap_setCell w _ v k (fun e => hk (by rw [e]))⟩
theorem KpW.far {S : Nat → Prop} {A B : World} (h : KpW S A B) {b : Nat} (hb : A.heap.size ≤ b) (i : Nat) (v : Value) : KpW S A (B.setCell ⟨b, i, none⟩ v) :=
  ⟨h.os, h.tape, h.output, Nat.le_trans h.size (grown_set B b i v).size, fun k hk hS => ((grown_set B b i v).block k (Nat.lt_of_lt_of_le hk h.size) (fun e => by cases e; omega)).trans (h.block k hk hS)⟩
theorem KpW.drewN {S : Nat → Prop} {A B : World} (h : KpW S A B) (n : Nat) : KpW S A (B.drewN n) := ⟨h.os, h.tape, h.output, h.size, h.block⟩
def roundQ (S : Nat → Prop) (I : World → Prop) (Ix : World → Prop) (W : World) : Exit → Act → World → Prop
  | .normal, _, W' => KpW S W W' ∧ I W'
  | .ret, _, W' => KpW S W W' ∧ Ix W'
  | _, _, _ => False
@[reducible] def ownAt : Nat → Nat → Option Nat
  | 0, _ => none
  | _ + 1, b => some b
theorem ownAt_some {d b r : Nat} (h : ownAt d b = some r) : r = b ∧ 1 ≤ d := by
  cases d with
  | zero => cases h
  | succ d => cases h; omega
def IterOK (P : Program) (gf : Nat) (lb : Array Value) (N : Nat) (encs : Nat → Array Value) (S : Nat → Prop) (own : Option Nat) (W : World) : Prop :=
  ∀ (n l : Nat) (J : Nat → World → Prop) (Jx : World → Prop),
    (∀ k A B, J k A → A.grownBy B own → J k B) →
    (∀ k W1, k < N → J k W1 → W.heap.size ≤ W1.heap.size → YieldAt Fence.wide (n - 1) P l (encs k) W1 fun e W' => (e = .returned (.bool true) ∧ J (k + 1) W' ∧ KpW S W1 W') ∨ (e = .returned (.bool false) ∧ Jx W')) →
    J 0 W → CallsIn Fence.wide n P gf (#[.func (.yield l) #[] #[]] ++ lb) W fun e W' => (∃ v, e = .returned v) ∧ (J N W' ∨ Jx W')
theorem range_own {d : Nat} {P : Program} {n : Nat} {g : Operand} {ps : Array Tmp} {assign body : Code} {Q : Exit → Act → World → Prop} {a : Act} {w : World} {gf : Nat} {lb : Array Value}
    (hg : a.eval g = .func (.func gf) #[] lb) (eg : ∀ args w, (callFunc gf args).run P w = .ok (.enter gf args) w) {N : Nat} {encs : Nat → Array Value} {S : Nat → Prop}
    (hS : ∀ i, S i → i ≠ w.heap.size ∧ i ≠ w.heap.size + 1) (hit : ∀ W, W.heap.size = w.heap.size + 2 → Below w.heap.size w W → IterOK P gf lb N encs S (ownAt d W.heap.size) W) (hps : ∀ k, (encs k).size = ps.size)
    (I : Nat → World → Prop) (Ix : World → Prop)
    (hI : ∀ k A B row, I k A → A.grownBy B row → (∀ r, row = some r → w.heap.size ≤ r ∧ r < w.heap.size + 2 + d) → I k B)
    (hIx : ∀ A B row, Ix A → A.grownBy B row → (∀ r, row = some r → w.heap.size ≤ r ∧ r < w.heap.size + 2 + d) → Ix B)
    (h0 : I 0 w)
    (hround : ∀ k W, k < N → I k W → w.heap.size + 2 ≤ W.heap.size →
      assign.wpIn (Fr (w.heap.size + 1)) (n - 1 - 1) P (Exit.then (fun a1 W1 => KpW S W W1 ∧ ∀ W2, W1.grownBy W2 (some (w.heap.size + 1)) → body.wpIn (Fr (w.heap.size + 1)) (n - 1 - 1) P (roundQ S (I (k + 1)) Ix W2) a1 W2) (fun _ _ _ => False))
        { tmps := (ps.zip (encs k)).foldl (fun t (p, v) => t.setIfInBounds p v) a.tmps, defers := [] } W)
    (hdone : ∀ W, I N W → W.heap[w.heap.size]? = some (.deferred (some [])) → Q .normal { a with defers := { target := .collected w.heap.size, args := #[] } :: a.defers } W)
    (hstop : ∀ W, Ix W → W.heap[w.heap.size]? = some (.deferred (some [])) → Code.ret.wpIn Fence.wide n P Q { a with defers := { target := .collected w.heap.size, args := #[] } :: a.defers } W) :
    (Code.rangeFunc g ps assign body).wpIn Fence.wide n P Q a w := by
  refine wpIn_rangeFunc ?_
  intro fn _
  obtain ⟨rec, hrec⟩ : ∃ rec : LoopState → Option Code → Loop, rec = fun st pe => { state := st, pending := pe, fn, tmps := a.tmps, params := ps, assign, body, defers := w.heap.size } := ⟨_, rfl⟩
  obtain ⟨W1, hW1⟩ : ∃ W1, (w.alloc (.deferred (some []))).alloc (.loop (rec .ready none)) = W1 := ⟨_, rfl⟩
  have hL1 : W1.heap[w.heap.size + 1]? = some (.loop (rec .ready none)) := by
    rw [← hW1]; have := World.alloc_heap_new (w.alloc (.deferred (some []))) (.loop (rec .ready none)); rwa [World.size_alloc] at this
  have hK1 : W1.heap[w.heap.size]? = some (.deferred (some [])) := by
    rw [← hW1]; exact (Below.heap_alloc _ _ _ (by simp)).trans (World.alloc_heap_new w _)
  have hsz1 : W1.heap.size = w.heap.size + 2 := by rw [← hW1, World.size_alloc, World.size_alloc]
  have hb1 : Below w.heap.size w W1 := by rw [← hW1]; exact ((Below.refl _ w).alloc (Nat.le_refl _) _).alloc (by simp) _
  have hI1 : I 0 W1 := by
    rw [← hW1]
    exact hI 0 _ _ none (hI 0 _ _ none h0 (World.grownBy_alloc _ _ none) (by simp)) (World.grownBy_alloc _ _ none) (by simp)
  have hSl : ¬ S (w.heap.size + 1) := fun h => by have := hS _ h; omega
  have hSd : ¬ S w.heap.size := fun h => by have := hS _ h; omega
  have grown_put : ∀ (A : World) (o : Obj), A.grownBy (A.putObj (w.heap.size + 1) o) (some (w.heap.size + 1)) := fun A o => grownBy_putObj' A _ o
  refine ⟨w.heap.size + 1, [{ target := .collected w.heap.size, args := #[] }], W1, { target := .fn (.func gf) lb, args := #[.func (.yield (w.heap.size + 1)) #[] #[]] }, W1, gf,
    #[.func (.yield (w.heap.size + 1)) #[] #[]] ++ lb, W1, ?_, ?_, ?_, ?_, fun e => (by cases e), ?_⟩
  · rw [← hW1, hrec]; exact run_enterLoop_outer _ _ _ _ _
  · simp only [resolve, hg]
    simp [go_sem]
  · intro f' _; trivial
  · simp [invoke, go_sem, eg]
  refine (hit W1 hsz1 hb1 (n - 1) (w.heap.size + 1)
    (fun k W => I k W ∧ W.heap[w.heap.size + 1]? = some (.loop (rec .ready none)) ∧ W.heap[w.heap.size]? = some (.deferred (some [])))
    (fun W => Ix W ∧ W.heap[w.heap.size + 1]? = some (.loop (rec .done (some .ret))) ∧ W.heap[w.heap.size]? = some (.deferred (some []))) ?_ ?_ ⟨hI1, hL1, hK1⟩).mono ?_
  · rintro k A B ⟨hi, hl, hk⟩ hgr
    rw [hsz1] at hgr
    exact ⟨hI k A B _ hi hgr (fun r e => by have := ownAt_some e; omega), (hgr.block _ (Array.getElem?_eq_some_iff.1 hl).1 (fun e => by have := ownAt_some e.symm; omega)).trans hl, (hgr.block _ (Array.getElem?_eq_some_iff.1 hk).1 (fun e => by have := ownAt_some e.symm; omega)).trans hk⟩
  · rintro k W hlt ⟨hi, hl, hk⟩ hgt
    rw [hsz1] at hgt
    have hy := run_yield (P := P) (args := encs k) hl (by rw [hrec]; exact hps k)
    rw [hrec] at hy
    refine ⟨fn, _, assign, body, hy, roundIn_of_wpIn trivial (wpIn_mono (hround k W hlt hi hgt) ?_)⟩
    intro e a1 Wa hq
    cases e with
    | normal =>
      obtain ⟨hkp, hb⟩ := hq
      have hl2 := hkp.at_ hSl hl
      have hk2 := hkp.at_ hSd hk
      have hlt2 := (Array.getElem?_eq_some_iff.1 hl2).1
      refine ⟨_, run_beginRound hl2 (by rw [hrec]), ?_⟩
      have hl3 : (Wa.putObj (w.heap.size + 1) (.loop { rec .ready none with state := .busy })).heap[w.heap.size + 1]? = some (.loop { rec .ready none with state := .busy }) := World.putObj_heap_same hlt2
      have hk3 : (Wa.putObj (w.heap.size + 1) (.loop { rec .ready none with state := .busy })).heap[w.heap.size]? = some (.deferred (some [])) := (World.putObj_heap_other (by omega)).trans hk2
      refine wpIn_mono (hb _ (grown_put Wa _)) ?_
      have fin : ∀ (jump : Option Code) (W3 : World), KpW S (Wa.putObj (w.heap.size + 1) (.loop { rec .ready none with state := .busy })) W3 →
          (Instr.endRound (w.heap.size + 1) jump).run P W3 = .ok (.bool jump.isNone) (W3.putObj (w.heap.size + 1) (.loop (rec (if jump.isNone then .ready else .done) jump))) ∧
          (W3.putObj (w.heap.size + 1) (.loop (rec (if jump.isNone then .ready else .done) jump))).heap[w.heap.size + 1]? = some (.loop (rec (if jump.isNone then .ready else .done) jump)) ∧
          (W3.putObj (w.heap.size + 1) (.loop (rec (if jump.isNone then .ready else .done) jump))).heap[w.heap.size]? = some (.deferred (some [])) := fun jump W3 h3 => by
        have hl4 := h3.at_ hSl hl3
        have := run_endRound (P := P) jump hl4
        rw [hrec] at this ⊢
        exact ⟨this, by rw [hrec] at hl4; exact World.putObj_heap_same (Array.getElem?_eq_some_iff.1 hl4).1, (World.putObj_heap_other (by omega)).trans (h3.at_ hSd hk3)⟩
      rintro e a3 W3 hp
      cases e with
      | normal =>
        obtain ⟨h3, hi3⟩ := hp
        obtain ⟨hr, hl4, hk4⟩ := fin none W3 h3
        refine ⟨_, _, hr, .inl ⟨rfl, ⟨hI _ _ _ _ hi3 (grown_put W3 _) (fun r e => by cases e; omega), hl4, hk4⟩, ?_⟩⟩
        -- only the record has been written beside what the round wrote: and that reads as it did
        have hsame : ∀ i, i ≠ w.heap.size + 1 → i < W.heap.size → ¬ S i → (W3.putObj (w.heap.size + 1) (.loop (rec .ready none))).heap[i]? = W.heap[i]? := fun i hne hi' hSi => by
          rw [World.putObj_heap_other hne, h3.block i (by rw [show (Wa.putObj (w.heap.size + 1) (.loop { rec .ready none with state := .busy })).heap.size = Wa.heap.size from (by simp [World.putObj])]; exact Nat.lt_of_lt_of_le hi' hkp.size) hSi, World.putObj_heap_other hne, hkp.block i hi' hSi]
        refine ⟨h3.os.trans hkp.os, h3.tape.trans hkp.tape, h3.output.trans hkp.output, ?_, fun i hi' hSi => ?_⟩
        · have e1 : (W3.putObj (w.heap.size + 1) (.loop (rec .ready none))).heap.size = W3.heap.size := by simp [World.putObj]
          have e2 : (Wa.putObj (w.heap.size + 1) (.loop { rec .ready none with state := .busy })).heap.size = Wa.heap.size := by simp [World.putObj]
          have h4 := h3.size
          rw [e2] at h4
          have := hkp.size
          show _ ≤ (W3.putObj (w.heap.size + 1) (.loop (rec .ready none))).heap.size
          omega
        · by_cases hne : i = w.heap.size + 1
          · subst hne; exact hl4.trans hl.symm
          · exact hsame i hne hi' hSi
      | ret =>
        obtain ⟨h3, hi3⟩ := hp
        obtain ⟨hr, hl4, hk4⟩ := fin (some .ret) W3 h3
        exact ⟨_, _, hr, .inr ⟨rfl, hIx _ _ _ hi3 (grown_put W3 _) (fun r e => by cases e; omega), hl4, hk4⟩⟩
      | exit id => exact hp.elim
      | goto t => exact hp.elim
      | panic ch => exact hp.elim
      | outgrown => exact hp.elim
    | exit id => exact hq.elim
    | goto t => exact hq.elim
    | ret => exact hq.elim
    | panic ch => exact hq.elim
    | outgrown => exact hq.elim
  · rintro e W2 ⟨⟨v, rfl⟩, (⟨hi, hl, hk⟩ | ⟨hi, hl, hk⟩)⟩
    · exact ⟨none, _, by have := run_endLoop (P := P) hl (by rw [hrec]; simp); rw [hrec] at this; exact this, hdone _ (hI _ _ _ _ hi (grownBy_putObj' _ _ _) (fun r e => by cases e; omega)) ((World.putObj_heap_other (by omega)).trans hk)⟩
    · exact ⟨some .ret, _, by have := run_endLoop (P := P) hl (by rw [hrec]; simp); rw [hrec] at this; exact this, hstop _ (hIx _ _ _ hi (grownBy_putObj' _ _ _) (fun r e => by cases e; omega)) ((World.putObj_heap_other (by omega)).trans hk)⟩
end Go.Proofs.YtkbmmgpdnienfaaDoor.P
namespace Go.Proofs.YtkbmmgpdnienfaaDoor.P
open Go.RowKit Go.Proofs.YtkbmmgpdnienfaaDoorW.PrintWords Go.Proofs.YtkbmmgpdnienfaaDoorW.PrintLast Go.Proofs.YtkbmmgpdnienfaaDoorW.PrintMore
attribute [local go_sem] Oper.semAt_some
def rowV (r : S48) : Value := .agg #[.int .i64 r.f0, .int .i64 r.f1, .string r.f2]
def rowC (r : S48) : Array Value := #[.int .i64 r.f0, .int .i64 r.f1, .string r.f2]
def wasAt (xs : List S48) : Nat → S48
  | 0 => z48
  | k + 1 => rd_T48 xs k
set_option maxHeartbeats 1000000 in
theorem pairs_calls (A : Option Addr) (n c : Nat) (w : World) : Calls Tryd.prog 63 #[.slice A n c] w fun e w' => e = .returned (.func (.func 91) #[] #[.pointer (some ⟨w.heap.size, 0, none⟩)]) ∧ w' = w.alloc (.cells #[.slice A n c] 26) := by
  go_enter Tryd.func63, Tryd.ntmps63
  go_wp2
  go_ret
  exact ⟨rfl, rfl⟩
set_option maxHeartbeats 2000000 in
set_option maxRecDepth 100000 in
theorem pairs_iter (xs : List S48) (A : Option Addr) (c Bn : Nat) (S : Nat → Prop) (W : World) (hBn : W.cell? ⟨Bn, 0, none⟩ = some (.slice A xs.length c)) (hlen : xs.length ≤ 9223372036854775807) (hS : ∀ i, S i → i < W.heap.size)
    (hC : ∀ W', KpW S W W' → Kd.C k48 W' A xs.length xs) :
    IterOK Tryd.prog 91 #[.pointer (some ⟨Bn, 0, none⟩)] xs.length (fun k => #[rowV (wasAt xs k), rowV (rd_T48 xs k)]) S (some W.heap.size) W := by
  intro n l J Jx hJ hY h0
  have hlt : Bn < W.heap.size := World.block_lt_of_cell? W _ hBn
  have HC := Aside0.mk hC
  have HS := Aside0.mk hS
  have HJ := Aside0.mk hJ
  have HY := Aside0.mk hY
  have H0 := Aside0.mk h0
  clear hC hJ hY h0 hS
  refine callsIn_of_wp Tryd.func91 rfl trivial ?_ rfl
  simp only [Tryd.ntmps91, List.size_toArray, List.length_cons, List.length_nil, Nat.reduceAdd, Nat.reduceSub, Array.replicate_succ, Array.replicate_zero, List.push_toArray, List.append_toArray, List.nil_append, List.cons_append]
  gi_wp2
  gi_loopw [8] (fun i wr => ∃ k : Nat, k ≤ xs.length ∧ i = .int .i64 k ∧ Aside0 (J k wr) ∧ Aside0 (KpW S W wr) ∧ Aside0 (wr.heap[W.heap.size]? = some (.cells (rowC (wasAt xs k)) 48 (0, 0)))) (fun i wr => xs.length - (intOf i).toNat)
  case atStart =>
    refine ⟨0, Nat.zero_le _, rfl, ⟨HJ.out 0 _ _ H0.out (World.grownBy_alloc _ _ _)⟩, ⟨KpW.of_grown (World.grownBy_alloc _ _ none) (by simp)⟩, ⟨heap_alloc_new _ _⟩⟩
  case round =>
    obtain ⟨k, hk, rfl, HJk, HK, HB⟩ := hrel
    by_cases hkn : k < xs.length
    · obtain ⟨ad, rfl, h0', h1', h2'⟩ := at_T48 (HC.out wr HK.out) k (by omega) (by omega)
      have hp : (0 : Int) ≤ (k : Int) := by omega
      have hq : (k : Int) < (xs.length : Int) := by omega
      simp only [Int.toNat_natCast] at h0' h1' h2'
      have hsz : W.heap.size < wr.heap.size := (Array.getElem?_eq_some_iff.1 HB.out).1
      have hw0 : wr.cell? ⟨W.heap.size, 0, none⟩ = some (.int .i64 (wasAt xs k).f0) := (blk_cell HB.out 0).trans rfl
      have hw1 : wr.cell? ⟨W.heap.size, 1, none⟩ = some (.int .i64 (wasAt xs k).f1) := (blk_cell HB.out 1).trans rfl
      have hw2 : wr.cell? ⟨W.heap.size, 2, none⟩ = some (.string (wasAt xs k).f2) := (blk_cell HB.out 2).trans rfl
      obtain ⟨fn, tmps, assign, body, hy, hR⟩ := HY.out k (wr.alloc (.cells (rowC (rd_T48 xs k)) 48)) hkn (HJ.out k _ _ HJk.out (World.grownBy_alloc _ _ _)) (by rw [World.size_alloc]; omega)
      have HR := Aside0.mk hR
      clear hR
      dsimp only [rowV, rowC] at hy
      gi_wp2
      refine ⟨fun e => (by cases e), HR.out.mono ?_⟩
      rintro e W3 (⟨rfl, hJ3, hk3⟩ | ⟨rfl, hJx3⟩)
      · have hsz3 : W.heap.size < W3.heap.size := Nat.lt_of_lt_of_le (by rw [World.size_alloc]; omega) hk3.size
        have hSg : ¬ S W.heap.size := fun h => by have := HS.out _ h; omega
        have hSr : ¬ S wr.heap.size := fun h => by have := HS.out _ h; omega
        have hB3 : W3.heap[W.heap.size]? = some (.cells (rowC (wasAt xs k)) 48 (0, 0)) := hk3.at_ hSg ((Below.heap_alloc _ _ _ hsz).trans HB.out)
        have hB4 : W3.heap[wr.heap.size]? = some (.cells (rowC (rd_T48 xs k)) 48 (0, 0)) := hk3.at_ hSr (heap_alloc_new _ _)
        have hK3 : KpW S W W3 := (HK.out.trans (KpW.of_grown (World.grownBy_alloc _ _ none) (by simp))).trans hk3
        have hr0 : W3.cell? ⟨wr.heap.size, 0, none⟩ = some (.int .i64 (rd_T48 xs k).f0) := (blk_cell hB4 0).trans rfl
        have hr1 : W3.cell? ⟨wr.heap.size, 1, none⟩ = some (.int .i64 (rd_T48 xs k).f1) := (blk_cell hB4 1).trans rfl
        have hr2 : W3.cell? ⟨wr.heap.size, 2, none⟩ = some (.string (rd_T48 xs k).f2) := (blk_cell hB4 2).trans rfl
        have hv0 : W3.cell? ⟨W.heap.size, 0, none⟩ = some (.int .i64 (wasAt xs k).f0) := (blk_cell hB3 0).trans rfl
        have hv1 : W3.cell? ⟨W.heap.size, 1, none⟩ = some (.int .i64 (wasAt xs k).f1) := (blk_cell hB3 1).trans rfl
        have hv2 : W3.cell? ⟨W.heap.size, 2, none⟩ = some (.string (wasAt xs k).f2) := (blk_cell hB3 2).trans rfl
        have hf0 := blk_frozen hB3 0
        have hf1 := blk_frozen hB3 1
        have hf2 := blk_frozen hB3 2
        have HJ3 := Aside0.mk hJ3
        have HK3 := Aside0.mk hK3
        have HB3 := Aside0.mk hB3
        clear hJ3 hk3 hK3 hB3 hB4 hy
        gi_wp2
        go_roundw
        case rel =>
          refine ⟨k + 1, by omega, by go_num, ⟨?_⟩, ⟨?_⟩, ⟨?_⟩⟩
          · exact HJ.out _ _ _ (HJ.out _ _ _ (HJ.out _ _ _ HJ3.out (grown_set _ _ _ _)) (grown_set _ _ _ _)) (grown_set _ _ _ _)
          · exact ((HK3.out.far (Nat.le_refl _) _ _).far (Nat.le_refl _) _ _).far (Nat.le_refl _) _ _
          · have h1 := blk_put (cs := rowC (wasAt xs k)) HB3.out 0 (.int .i64 (rd_T48 xs k).f0) rfl
            have h2 := blk_put h1 1 (.int .i64 (rd_T48 xs k).f1) rfl
            exact blk_put h2 2 (.string (rd_T48 xs k).f2) rfl
        case measure => simp [intOf]; omega
      · gi_wp2
        refine bodyPost_ret (results_none rfl _ _ _) rfl ?_
        exact ⟨⟨_, rfl⟩, .inr hJx3⟩
    · gi_wp2
      go_end0
      exact ⟨⟨_, rfl⟩, .inl (by rw [show xs.length = k from by omega]; exact HJk.out)⟩
end Go.Proofs.YtkbmmgpdnienfaaDoor.P
