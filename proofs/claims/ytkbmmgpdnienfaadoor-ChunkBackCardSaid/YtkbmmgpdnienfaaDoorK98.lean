/- Part 8 of the proof of chunkBack_card: its words, walks and plain laws, one text behind the other. -/
import Derived.Deep.Slices
import Derived.SizedLaws
import Derived.Lib.SmallJoins
import Derived.Test.YtkbmmgpdnienfaaDoorK96
set_option linter.unusedVariables false
set_option linter.unusedSimpArgs false
namespace Go.Proofs.YtkbmmgpdnienfaaDoor.P
open Go.RowKit Go.Proofs.YtkbmmgpdnienfaaDoorW.PrintWords Go.ChangeShapes Go.WideShapes Go.Deep
def Opn (P : Program) {α : Type} (d : Kd α) (t : TypeId) (S : α → Prop) : Prop :=
  ∀ {H : Type} (enc : TypeId × Value → H) (W : World) (base : Nat) (spare : Nat → Bool) (held : Bool) (fuel : Nat) (cs : List Value) (x : DataW H × List MemPlace),
    DataW.trod enc P W base spare held fuel t cs = some x → (∀ n ∈ x.1.weights P t, n ≤ reachBytes) → ∃ y, d.K W y cs ∧ S y
theorem opn_string {P : Program} {t : TypeId} (ht : P.underlying t = some .string) : Opn P Kd.string t (fun s => s.size ≤ reachBytes) := by
  intro H enc W base spare held fuel cs x h hw
  cases fuel with
  | zero => cases h
  | succ n =>
    unfold DataW.trod at h
    rw [ht] at h
    match cs, h with
    | [.string s], h =>
      simp only at h
      by_cases hs : s.size ≤ maxLen
      · rw [if_pos hs] at h
        obtain rfl := Option.some.inj h
        refine ⟨s, rfl, ?_⟩
        have := hw s.data.toList.length (by simp [DataW.weights])
        simpa using this
      · rw [if_neg hs] at h; cases h
theorem opn_int {P : Program} {t : TypeId} {k : IntKind} (ht : P.underlying t = some (.int k)) : Opn P (Kd.int k) t (fun n => (Lit.int k n).wf = true) := by
  intro H enc W base spare held fuel cs x h hw
  cases fuel with
  | zero => cases h
  | succ n =>
    unfold DataW.trod at h
    rw [ht] at h
    match cs, h with
    | [.int k' n], h =>
      simp only at h
      by_cases hs : k' = k ∧ (Lit.int k n).wf = true
      · rw [if_pos hs] at h
        obtain ⟨rfl, hs⟩ := hs
        exact ⟨n, rfl, hs⟩
      · rw [if_neg hs] at h; cases h
def OpnF (P : Program) {α : Type} (d : Kd α) (fs : List Field) (off : Nat) (S : α → Prop) : Prop :=
  ∀ {H : Type} (enc : TypeId × Value → H) (W : World) (base : Nat) (spare : Nat → Bool) (held : Bool) (fuel : Nat) (cs : List Value) (xs : List (DataW H × List MemPlace)),
    fs.mapM (fun f => DataW.trod enc P W base spare held fuel f.type ((cs.drop f.offset).take (P.cellsOf f.type))) = some xs → (∀ n ∈ DataW.weightsEach P (fs.map (·.type)) (xs.map (·.1)), n ≤ reachBytes) →
      ∃ y, d.K W y ((cs.drop off).take d.sz) ∧ S y
theorem opnF_one {P : Program} {α : Type} {d : Kd α} {f : Field} {off : Nat} {S : α → Prop} (ho : f.offset = off) (hc : P.cellsOf f.type = d.sz) (h : Opn P d f.type S) : OpnF P d [f] off S := by
  intro H enc W base spare held fuel cs xs hx hw
  simp only [List.mapM_cons, List.mapM_nil, Option.pure_def, Option.bind_eq_bind] at hx
  obtain ⟨y, hy, hx⟩ := Option.bind_eq_some_iff.1 hx
  obtain rfl := Option.some.inj hx
  subst ho
  rw [hc] at hy
  exact h enc W base spare held fuel _ y hy (fun n hn => hw n (by simp [DataW.weightsEach, hn]))
theorem opnF_cons {P : Program} {α β : Type} {a : Kd α} {b : Kd β} {f : Field} {r : List Field} {off : Nat} {S : α → Prop} {T : β → Prop} (ho : f.offset = off) (hc : P.cellsOf f.type = a.sz) (h : Opn P a f.type S) (hr : OpnF P b r (off + a.sz) T) :
    OpnF P (Kd.pair a b) (f :: r) off (fun p => S p.1 ∧ T p.2) := by
  intro H enc W base spare held fuel cs xs hx hw
  simp only [List.mapM_cons, Option.pure_def, Option.bind_eq_bind] at hx
  obtain ⟨y, hy, hx⟩ := Option.bind_eq_some_iff.1 hx
  obtain ⟨ys, hys, hx⟩ := Option.bind_eq_some_iff.1 hx
  obtain rfl := Option.some.inj hx
  subst ho
  rw [hc] at hy
  obtain ⟨u, hu, su⟩ := h enc W base spare held fuel _ y hy (fun n hn => hw n (by simp [DataW.weightsEach, hn]))
  obtain ⟨v, hv, sv⟩ := hr enc W base spare held fuel cs ys hys (fun n hn => hw n (by simp only [List.map_cons, DataW.weightsEach, List.mem_append]; exact .inr hn))
  refine ⟨(u, v), ⟨_, _, ?_, hu, hv⟩, su, sv⟩
  show (cs.drop f.offset).take (a.sz + b.sz) = _
  rw [List.take_add, List.drop_drop]
theorem opn_struct {P : Program} {α : Type} {d : Kd α} {t : TypeId} {fs : Array Field} {S : α → Prop} (ht : P.underlying t = some (.struct fs)) (hc : P.cellsOf t = d.sz) (h : OpnF P d fs.toList 0 S) : Opn P d t S := by
  intro H enc W base spare held fuel cs x hx hw
  cases fuel with
  | zero => cases hx
  | succ n =>
    unfold DataW.trod at hx
    rw [ht] at hx
    simp only at hx
    by_cases hl : cs.length = P.cellsOf t
    · rw [if_pos hl] at hx
      obtain ⟨xs, hxs, rfl⟩ := Option.map_eq_some_iff.1 hx
      obtain ⟨y, hy, sy⟩ := h enc W base spare held n cs xs hxs (fun m hm => hw m (by simp only [DataW.weights, ht]; exact hm))
      refine ⟨y, ?_, sy⟩
      rwa [List.drop_zero, List.take_of_length_le (by omega)] at hy
    · rw [if_neg hl] at hx; cases hx
theorem opn_iso {P : Program} {α β : Type} {d : Kd α} {t : TypeId} {S : α → Prop} (f : β → α) (g : α → β) (hfg : ∀ x, f (g x) = x) (h : Opn P d t S) : Opn P (Kd.iso d f) t (fun y => S (f y)) := by
  intro H enc W base spare held fuel cs x hx hw
  obtain ⟨y, hy, sy⟩ := h enc W base spare held fuel cs x hx hw
  refine ⟨g y, ?_, ?_⟩
  · show d.K W (f (g y)) cs
    rw [hfg]; exact hy
  · show S (f (g y))
    rw [hfg]; exact sy
theorem opn_mono {P : Program} {α : Type} {d : Kd α} {t : TypeId} {S T : α → Prop} (h : Opn P d t S) (hST : ∀ y, S y → T y) : Opn P d t T := by
  intro H enc W base spare held fuel cs x hx hw
  obtain ⟨y, hy, sy⟩ := h enc W base spare held fuel cs x hx hw
  exact ⟨y, hy, hST y sy⟩
theorem weightsAll_mem {H : Type} {P : Program} {e : TypeId} : ∀ {l : List (DataW H)} {d : DataW H}, d ∈ l → ∀ n ∈ d.weights P e, n ∈ DataW.weightsAll P e l
  | x :: l, d, hd, n, hn => by
    simp only [DataW.weightsAll, List.mem_append]
    rcases List.mem_cons.1 hd with rfl | hd
    · exact .inl hn
    · exact .inr (weightsAll_mem hd n hn)
theorem opn_slice {P : Program} {α : Type} {d : Kd α} {t e : TypeId} {B : Nat} {S : α → Prop} (ht : P.underlying t = some (.slice e)) (hc : P.cellsOf e = d.sz) (hB : P.bytesOf e = B) (h : Opn P d e S) :
    Opn P (Kd.slice e d) t (fun xs => xs.length * B ≤ reachBytes ∧ ∀ x ∈ xs, S x) := by
  intro H enc W base spare held fuel cs x hx hw
  rcases open_slice ht hx with ⟨rfl, rfl⟩ | ⟨a, len, cap, m, n, D, Pl, rfl, hb, hl, hm, hmm, rfl, hall⟩
  · exact ⟨[], ⟨none, 0, rfl, Nat.le_refl _, Kd.C_nil _ _⟩, by simp, by simp⟩
  · have hlm : len ≤ m := by rw [hmm]; split <;> omega
    have hw1 : ∀ i, i < len → ∀ k ∈ (D i).weights P e, k ≤ reachBytes := fun i hi k hk => hw k (by
      simp only [DataW.weights, ht, List.mem_cons, List.mem_append]
      exact .inr (.inl (weightsAll_mem (List.mem_map.2 ⟨i, List.mem_range.2 hi, rfl⟩) k hk)))
    have hel : ∀ i, i < len → ∃ y : α, ∃ c : List Value, c.length = d.sz ∧ d.K W y c ∧ S y ∧ ∀ j u, c[j]? = some u → W.cell? (a.add (i * d.sz + j)) = some u := by
      intro i hi
      obtain ⟨cs', h1, h2⟩ := hall i (by omega)
      obtain ⟨y, hy, sy⟩ := h enc W base spare held n cs' (D i, Pl i) h2 (hw1 i hi)
      rw [hc] at h1
      obtain ⟨_, hlen, hcell⟩ := World.cells?_some h1
      refine ⟨y, cs', d.K_len hy, hy, sy, fun j u hj => ?_⟩
      have hjl : j < d.sz := by
        have := (List.getElem?_eq_some_iff.1 hj).1
        rw [d.K_len hy] at this
        exact this
      have := hcell j hjl
      rw [hj, Go.Deep.add_add] at this
      exact this
    have hys : ∀ k, k ≤ len → ∃ ys : List α, ys.length = k ∧ ∀ i y, ys[i]? = some y → ∃ c : List Value, c.length = d.sz ∧ d.K W y c ∧ S y ∧ ∀ j u, c[j]? = some u → W.cell? (a.add (i * d.sz + j)) = some u := by
      intro k
      induction k with
      | zero => exact fun _ => ⟨[], rfl, fun i y hy => by simp at hy⟩
      | succ k ih =>
        intro hk
        obtain ⟨ys, hlen, hys⟩ := ih (by omega)
        obtain ⟨y, hy⟩ := hel k (by omega)
        refine ⟨ys ++ [y], by simp [hlen], fun i z hz => ?_⟩
        by_cases hi : i < ys.length
        · rw [List.getElem?_append_left hi] at hz
          exact hys i z hz
        · rw [List.getElem?_append_right (by omega)] at hz
          obtain ⟨hi2, hzy⟩ : i = ys.length ∧ z = y := by
            have hlt := (List.getElem?_eq_some_iff.1 hz).1
            simp at hlt
            have hi0 : i = ys.length := by omega
            subst hi0
            simp at hz
            exact ⟨rfl, hz.symm⟩
          rw [hzy, hi2, hlen]
          exact hy
    obtain ⟨ys, hlen, hys⟩ := hys len (Nat.le_refl _)
    refine ⟨ys, ⟨some a, cap, by rw [hlen], by omega, rfl, by have : maxLen = 9223372036854775807 := rfl; omega, fun _ => ⟨a, rfl, fun j p hp => ?_⟩⟩, ?_, fun y hy => ?_⟩
    · obtain ⟨c, h1, h2, _, h4⟩ := hys j p hp
      exact ⟨c, h1, h2, h4⟩
    · have := hw ((((List.range len).map D).length + ((List.range (m - len)).map fun j => D (len + j)).length) * P.bytesOf e) (by simp only [DataW.weights, ht]; exact List.mem_cons_self ..)
      rw [hB] at this
      rw [hlen]
      simp only [List.length_map, List.length_range] at this
      exact Nat.le_trans (Nat.mul_le_mul_right _ (by omega)) this
    · obtain ⟨i, hi⟩ := List.getElem?_of_mem hy
      obtain ⟨_, _, _, hs, _⟩ := hys i y hi
      exact hs
theorem c9 : Tryd.prog.cellsOf 9 = 1 := by kernel_rfl
theorem c3 : Tryd.prog.cellsOf 3 = 1 := by kernel_rfl
theorem c22 : Tryd.prog.cellsOf 22 = 1 := by kernel_rfl
theorem c88 : Tryd.prog.cellsOf 88 = 2 := by kernel_rfl
theorem c75 : Tryd.prog.cellsOf 75 = 3 := by kernel_rfl
theorem c25 : Tryd.prog.cellsOf 25 = 2 := by kernel_rfl
theorem c23 : Tryd.prog.cellsOf 23 = 1 := by kernel_rfl
theorem b88 : Tryd.prog.bytesOf 88 = 32 := by kernel_rfl
theorem b75 : Tryd.prog.bytesOf 75 = 32 := by kernel_rfl
theorem b5 : Tryd.prog.bytesOf 5 = 1 := by kernel_rfl
theorem wf64 {x : Int} (h : (Lit.int .i64 x).wf = true) : -9223372036854775808 ≤ x ∧ x ≤ 9223372036854775807 := by
  simp only [Lit.wf, Bool.and_eq_true, decide_eq_true_eq] at h
  exact h
theorem opn9 : Opn Tryd.prog Kd.string 9 (fun s => s.size ≤ reachBytes) := opn_string Tryd.underlying9
theorem opn3 : Opn Tryd.prog (Kd.int .i64) 3 (fun n => (Lit.int .i64 n).wf = true) := opn_int Tryd.underlying3
def ok88 (x : S88) : Prop := x.f0.size ≤ reachBytes ∧ x.f1.size ≤ reachBytes
theorem opn88 : Opn Tryd.prog k88 88 ok88 := by
  refine opn_mono (S := fun y => (fun p => (fun s => s.size ≤ reachBytes) p.1 ∧ (fun s => s.size ≤ reachBytes) p.2) ((fun x : S88 => (x.f0, x.f1)) y)) (opn_iso (fun x : S88 => (x.f0, x.f1)) (fun p => ⟨p.1, p.2⟩) (fun _ => rfl) (S := (fun p => (fun s => s.size ≤ reachBytes) p.1 ∧ (fun s => s.size ≤ reachBytes) p.2)) ?_) (fun _ h => ⟨h.1, h.2⟩)
  refine opn_struct (d := (Kd.pair Kd.string Kd.string)) Tryd.underlying88 ?_ ?_
  · exact c88
  · refine opnF_cons (a := Kd.string) (b := Kd.string) (S := (fun s => s.size ≤ reachBytes)) (T := (fun s => s.size ≤ reachBytes)) ?_ ?_ ?_ ?_
    · rfl
    · exact c9
    · exact opn9
    · refine opnF_one (d := Kd.string) (S := (fun s => s.size ≤ reachBytes)) ?_ ?_ ?_
      · rfl
      · exact c9
      · exact opn9
def ok22 (l : List S88) : Prop := l.length * 32 ≤ reachBytes ∧ ∀ x ∈ l, ok88 x
theorem opn22 : Opn Tryd.prog (Kd.slice 88 k88) 22 ok22 := opn_slice Tryd.underlying22 c88 b88 opn88
def ok75 (x : S75) : Prop := (-9223372036854775808 ≤ x.f0 ∧ x.f0 ≤ 9223372036854775807) ∧ (-9223372036854775808 ≤ x.f1 ∧ x.f1 ≤ 9223372036854775807) ∧ x.f2.size ≤ reachBytes
theorem opn75 : Opn Tryd.prog k75 75 ok75 := by
  refine opn_mono (S := fun y => (fun p => (fun n => (Lit.int .i64 n).wf = true) p.1 ∧ (fun p => (fun n => (Lit.int .i64 n).wf = true) p.1 ∧ (fun s => s.size ≤ reachBytes) p.2) p.2) ((fun x : S75 => (x.f0, x.f1, x.f2)) y)) (opn_iso (fun x : S75 => (x.f0, x.f1, x.f2)) (fun p => ⟨p.1, p.2.1, p.2.2⟩) (fun _ => rfl) (S := (fun p => (fun n => (Lit.int .i64 n).wf = true) p.1 ∧ (fun p => (fun n => (Lit.int .i64 n).wf = true) p.1 ∧ (fun s => s.size ≤ reachBytes) p.2) p.2)) ?_) (fun _ h => ⟨wf64 h.1, wf64 h.2.1, h.2.2⟩)
  refine opn_struct (d := (Kd.pair (Kd.int .i64) (Kd.pair (Kd.int .i64) Kd.string))) Tryd.underlying75 ?_ ?_
  · exact c75
  · refine opnF_cons (a := (Kd.int .i64)) (b := (Kd.pair (Kd.int .i64) Kd.string)) (S := (fun n => (Lit.int .i64 n).wf = true)) (T := (fun p => (fun n => (Lit.int .i64 n).wf = true) p.1 ∧ (fun s => s.size ≤ reachBytes) p.2)) ?_ ?_ ?_ ?_
    · rfl
    · exact c3
    · exact opn3
    · refine opnF_cons (a := (Kd.int .i64)) (b := Kd.string) (S := (fun n => (Lit.int .i64 n).wf = true)) (T := (fun s => s.size ≤ reachBytes)) ?_ ?_ ?_ ?_
      · rfl
      · exact c3
      · exact opn3
      · refine opnF_one (d := Kd.string) (S := (fun s => s.size ≤ reachBytes)) ?_ ?_ ?_
        · rfl
        · exact c9
        · exact opn9
def ok23 (l : List S75) : Prop := l.length * 32 ≤ reachBytes ∧ ∀ x ∈ l, ok75 x
theorem opn23 : Opn Tryd.prog (Kd.slice 75 k75) 23 ok23 := opn_slice Tryd.underlying23 c75 b75 opn75
theorem opn25' : Opn Tryd.prog (Kd.pair (Kd.slice 88 k88) (Kd.slice 75 k75)) 25 (fun p => ok22 p.1 ∧ ok23 p.2) := by
  refine opn_struct (d := (Kd.pair (Kd.slice 88 k88) (Kd.slice 75 k75))) Tryd.underlying25 ?_ ?_
  · exact c25
  · refine opnF_cons (a := (Kd.slice 88 k88)) (b := (Kd.slice 75 k75)) (S := ok22) (T := ok23) ?_ ?_ ?_ ?_
    · rfl
    · exact c22
    · exact opn22
    · refine opnF_one (d := (Kd.slice 75 k75)) (S := ok23) ?_ ?_ ?_
      · rfl
      · exact c23
      · exact opn23
theorem opn25 : Opn Tryd.prog k25 25 (fun c : S25 => ok22 c.f0 ∧ ok23 c.f1) := by
  intro H enc W base spare held fuel cs x hx hw
  obtain ⟨y, hy, sy⟩ := opn25' enc W base spare held fuel cs x hx hw
  exact ⟨⟨y.1, y.2⟩, hy, sy⟩
def ok53 (x : S53) : Prop := (-9223372036854775808 ≤ x.f0 ∧ x.f0 ≤ 9223372036854775807) ∧ (-9223372036854775808 ≤ x.f1 ∧ x.f1 ≤ 9223372036854775807) ∧ ok22 x.f2 ∧ x.f3.size ≤ reachBytes
def okI (n : Int) : Prop := (Lit.int .i64 n).wf = true
def okS (s : ByteArray) : Prop := s.size ≤ reachBytes
def okLS (p : List S88 × ByteArray) : Prop := ok22 p.1 ∧ okS p.2
def okILS (p : Int × List S88 × ByteArray) : Prop := okI p.1 ∧ okLS p.2
def okIILS (p : Int × Int × List S88 × ByteArray) : Prop := okI p.1 ∧ okILS p.2
def ok33 (l : List S53) : Prop := l.length * 56 ≤ reachBytes ∧ ∀ x ∈ l, ok53 x
end Go.Proofs.YtkbmmgpdnienfaaDoor.P
