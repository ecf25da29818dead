/- What is known of a wheel that comes in, with a bound on its bulk. -/
import Derived.Test.YthgfiadfpgfjdaaRows
import Derived.Test.YthgfiadfpgfjdaaWhMem
import Derived.Test.YthgfiadfpgfjdaaOpen
import Derived.Deep.Slices
namespace Go.Proofs.Ythgfiadfpgfjdaa
open Go.ChangeShapes Go.WideShapes Go.ChangeAt Go.RowKit

set_option maxRecDepth 100000
section
variable {H : Type} {enc : TypeId × Value → H} {P : Program} {W : World} {base : Nat} {spare : Nat → Bool} {held : Bool}

theorem weightsAll_mem' {e : TypeId} : ∀ {l : List (DataW H)} {d : DataW H}, d ∈ l → ∀ n ∈ d.weights P e, n ∈ DataW.weightsAll P e l := by
  intro l
  induction l with
  | nil => intro d h; cases h
  | cons x r ih =>
    intro d h n hn
    simp only [DataW.weightsAll, List.mem_append]
    rcases List.mem_cons.1 h with rfl | h
    · exact Or.inl hn
    · exact Or.inr (ih h n hn)
theorem bulk_one (d : DataW H) : 1 ≤ Rows.uptoBulk d := by
  cases d with
  | lit l => cases l <;> simp [Rows.uptoBulk]
  | nil => simp [Rows.uptoBulk]
  | ptr d => simp [Rows.uptoBulk]
  | slice elems spare => simp [Rows.uptoBulk]
  | agg parts => simp [Rows.uptoBulk]
  | iface t d => simp [Rows.uptoBulk]
  | map entries => simp [Rows.uptoBulk]
  | held h => simp [Rows.uptoBulk]
theorem bulk_part {d : DataW H} {l : List (DataW H)} (h : d ∈ l) : Rows.uptoBulk d ≤ Rows.uptoBulkAll l := by
  induction l with
  | nil => cases h
  | cons x r ih =>
    simp only [Rows.uptoBulkAll]
    rcases List.mem_cons.1 h with rfl | h
    · omega
    · have := ih h; omega
theorem bulk_app (l r : List (DataW H)) : Rows.uptoBulkAll (l ++ r) = Rows.uptoBulkAll l + Rows.uptoBulkAll r := by
  induction l with
  | nil => simp [Rows.uptoBulkAll]
  | cons x l ih => simp only [List.cons_append, Rows.uptoBulkAll, ih]; omega
theorem bulk_len (l : List (DataW H)) : l.length ≤ Rows.uptoBulkAll l := by
  induction l with
  | nil => simp [Rows.uptoBulkAll]
  | cons x r ih => have := bulk_one x; simp only [Rows.uptoBulkAll, List.length_cons]; omega
theorem bulk_range {α : Type} (X : Nat → List α) (D : Nat → DataW H) : ∀ n, (∀ i, i < n → (X i).length + 1 ≤ Rows.uptoBulk (D i)) → ((List.range n).map X).flatten.length + n ≤ Rows.uptoBulkAll ((List.range n).map D) := by
  intro n
  induction n with
  | zero => simp
  | succ n ih =>
    intro h
    have h1 := ih (fun i hi => h i (by omega))
    have h2 := h n (by omega)
    rw [List.range_succ, List.map_append, List.map_append, bulk_app, List.flatten_append, List.length_append]
    simp only [List.map_cons, List.map_nil, List.flatten_cons, List.flatten_nil, List.append_nil, Rows.uptoBulkAll]
    omega

/-- A slice of slices of flat things, with its bulk. -/
theorem open_lists {α : Type} {f : α → List Value} {ok : α → Prop} {t lt e : TypeId} {ks : List (Option IntKind)} (n : Nat) (ht : P.underlying t = some (.slice lt)) (hc : P.cellsOf lt = 1) (hlt : P.underlying lt = some (.slice e))
    (hk : flatK P n e = some ks) (hce : P.cellsOf e = ks.length) (hk0 : 0 < ks.length) (hf : ∀ cs, FlatC ks cs → ∃ x, cs = f x ∧ ok x)
    {fuel : Nat} {cs : List Value} {x : DataW H × List MemPlace} (h : DataW.trod enc P W base spare held fuel t cs = some x) (hz : ∀ y ∈ x.1.weights P t, y ≤ reachBytes) :
    ∃ v, cs = [v] ∧ ∃ (V : List Value) (LL : List (List α)), V.length = LL.length ∧ RowAt W 1 v (V.map fun x => [x]) ∧ (∀ i, i < LL.length → RowAt W ks.length (V.getD i undef) ((LL.getD i []).map f)) ∧
      (∀ i, i < LL.length → ∀ y ∈ LL.getD i [], ok y) ∧ LL.flatten.length + LL.length + 1 ≤ Rows.uptoBulk x.1 := by
  rcases Go.Deep.open_slice1 ht hc h with ⟨rfl, rfl⟩ | ⟨a, len, cap, m, n', V, D, Pl, rfl, hb, hl, hm, hmm, rfl, hel⟩
  · exact ⟨_, rfl, [], [], rfl, ⟨none, 0, rfl, by simp, by unfold maxLen; omega, fun _ => rfl, fun h => absurd rfl h⟩, by simp, by simp, by simp [Rows.uptoBulk]⟩
  · have hlm : len ≤ m := by rw [hmm]; split <;> omega
    obtain ⟨X, hX⟩ := Go.Deep.choose_lt (α := List α) (n := len) (p := fun i X => RowAt W ks.length (V i) (X.map f) ∧ (∀ y ∈ X, ok y) ∧ X.length + 1 ≤ Rows.uptoBulk (D i)) (by
      intro i hi
      obtain ⟨hc1, ht1⟩ := hel i (by omega)
      obtain ⟨v', L, hv, hL⟩ := open_slflat_cells n hlt hk hce ht1 (fun y hy => hz y (by
        simp only [DataW.weights, ht]
        refine List.mem_cons_of_mem _ (List.mem_append_left _ (weightsAll_mem' (List.mem_map.2 ⟨i, List.mem_range.2 hi, rfl⟩) y hy))))
      simp only [List.cons.injEq, and_true] at hv
      subst hv
      obtain ⟨X, r1, r2, _⟩ := open_rows hk0 hf hL
      refine ⟨X, r1, r2, ?_⟩
      obtain ⟨a1, c1, e1, _⟩ := RowAt_shape r1
      rcases Go.Deep.open_slice hlt ht1 with ⟨e2, e3⟩ | ⟨a2, len2, cap2, m2, n2, D2, P2, e2, _, _, _, _, e3, _⟩
      · simp only [List.cons.injEq, and_true] at e2
        rw [e2] at e1
        injection e1 with _ e4 _
        have e5 : D i = .nil := congrArg Prod.fst e3
        rw [e5, ← e4]; simp [Rows.uptoBulk]
      · simp only [List.cons.injEq, and_true] at e2
        rw [e2] at e1
        injection e1 with _ e4 _
        have e5 : D i = .slice ((List.range len2).map D2) ((List.range (m2 - len2)).map fun j => D2 (len2 + j)) := congrArg Prod.fst e3
        rw [e5, ← e4]
        have := bulk_len ((List.range len2).map D2)
        simp only [List.length_map, List.length_range] at this
        simp only [Rows.uptoBulk]
        omega)
    refine ⟨_, rfl, (List.range len).map V, (List.range len).map X, by simp, ⟨some a, cap, by simp, by simpa using hl, hm, by simp, fun hne => ?_⟩, fun i hi => ?_, fun i hi => ?_, ?_⟩
    · have hpos : 0 < len := by
        rcases Nat.eq_zero_or_pos len with h0 | h0
        · subst h0; simp at hne
        · exact h0
      obtain ⟨b, off, spot⟩ := a
      have h0 := (hel 0 (by omega)).1
      have hsp : spot = none := by simpa [Addr.add] using World.cell?_spot h0
      subst hsp
      refine ⟨b, off, rfl, ?_, fun i j hi hj => ?_⟩
      · exact cell_lt (by simpa [Addr.add] using h0)
      · simp only [List.length_map, List.length_range] at hi
        obtain rfl : j = 0 := by omega
        have := (hel i (by omega)).1
        simp only [Addr.add_lit] at this
        simp [List.getD, hi, this]
    · simp only [List.length_map, List.length_range] at hi
      have := (hX i hi).1
      simpa [List.getD, hi] using this
    · simp only [List.length_map, List.length_range] at hi
      have := (hX i hi).2.1
      simpa [List.getD, hi] using this
    · have h1 := bulk_range X D len (fun i hi => (hX i hi).2.2)
      simp only [Rows.uptoBulk, List.length_map, List.length_range]
      omega
end
section
variable {H : Type} {enc : TypeId × Value → H} {W : World} {base : Nat} {v : Value} {d : DataW H} {p : List MemPlace}
def Is_Wheel (W : World) (v : Value) : Prop := ∃ (now : Int) (s : Value) (LL : List (List Tm)), v = .agg #[.int .i64 now, s] ∧ I64 now ∧ LsAt W s LL ∧ LL.length ≤ 1048576 ∧ LL.flatten.length ≤ 1048576 ∧ ∀ i, i < LL.length → ∀ t ∈ LL.getD i [], t.ok
theorem opn_Wheel (hv : Value.okWide Try.prog W .any base 24 v) (h : DataW.Trod enc Try.prog W 0 (fun _ => true) true 24 v d p) (hz : ∀ y ∈ d.weights Try.prog 24, y ≤ reachBytes) (hb : Rows.uptoBulk d ≤ 1048576) : Is_Wheel W v := by
  have hus := Try.underlying24
  unfold Value.okWide at hv
  rw [hus] at hv
  obtain ⟨cs, rfl, _, _⟩ := hv
  obtain ⟨fuel, hfu⟩ := h
  obtain ⟨xs, n, _, hx, hlen, hxl, hf⟩ := DataW.trod_struct hus hfu
  rw [show Try.prog.cellsOf 24 = 2 from by kernel_rfl] at hlen
  have hd : d = .agg (xs.map (·.1)) := congrArg Prod.fst hx
  obtain ⟨x0, x1, rfl⟩ : ∃ a b, xs = [a, b] := by
    match xs, hxl with
    | [a, b], _ => exact ⟨a, b, rfl⟩
  obtain ⟨l, rfl⟩ : ∃ l : List Value, cs = l.toArray := ⟨cs.toList, by simp⟩
  have hl : l.length = 2 := by simpa [Value.cells] using hlen
  obtain ⟨c0, c1, rfl⟩ : ∃ a b, l = [a, b] := by
    match l, hl with
    | [a, b], _ => exact ⟨a, b, rfl⟩
  have h0 : DataW.trod enc Try.prog W 0 (fun _ => true) true n 3 ((([c0, c1] : List Value).drop 0).take (Try.prog.cellsOf 3)) = some x0 := hf 0 _ rfl
  have h1 : DataW.trod enc Try.prog W 0 (fun _ => true) true n 22 ((([c0, c1] : List Value).drop 1).take (Try.prog.cellsOf 22)) = some x1 := hf 1 _ rfl
  rw [show Try.prog.cellsOf 3 = 1 from by kernel_rfl] at h0
  rw [show Try.prog.cellsOf 22 = 1 from by kernel_rfl] at h1
  simp only [List.drop_succ_cons, List.drop_zero, List.take_succ_cons, List.take_zero] at h0 h1
  have z1 : ∀ y ∈ x1.1.weights Try.prog 22, y ≤ reachBytes := fun y hy => hz y (by
    rw [hd]
    simp only [DataW.weights, hus]
    exact DataW.weights_mem_each (j := 1) (t := 22) rfl rfl y hy)
  obtain ⟨s, hs, V, LL, e1, e2, e3, e4, e5⟩ := open_lists (f := Tm.cells) (ok := Tm.ok) 6 Try.underlying22 (by kernel_rfl : Try.prog.cellsOf 38 = 1) Try.underlying38
    (by kernel_rfl : flatK Try.prog 6 43 = some [some .i64, some .i64]) (by kernel_rfl : Try.prog.cellsOf 43 = 2) (by decide) (fun _ => Tm.of_flat) h1 z1
  simp only [List.cons.injEq, and_true] at hs
  subst hs
  have f0 := flat_of_trod 6 _ _ (by kernel_rfl : flatK Try.prog 6 3 = some [some .i64]) _ _ _ h0
  obtain ⟨now, _, g0, w0, _⟩ := FlatC_int f0
  simp only [List.cons.injEq] at g0
  obtain ⟨rfl, _⟩ := g0
  have hbb : Rows.uptoBulk x1.1 ≤ Rows.uptoBulk d := by
    rw [hd]
    have := bulk_part (d := x1.1) (l := [x0.1, x1.1]) (by simp)
    simp only [Rows.uptoBulk, List.map_cons, List.map_nil]
    omega
  exact ⟨now, _, LL, rfl, I64_of_wf w0, ⟨V, e1, e2, e3⟩, by omega, by omega, e4⟩
end
end Go.Proofs.Ythgfiadfpgfjdaa
