/- The first place in a list; the end of a copy that is one's own. -/
import Derived.Test.YthgfiadfpgfjdaaOwn
namespace Go.Proofs.Ythgfiadfpgfjdaa
open Go.RowKit

/-- The first place where p says yes; -1: there is none. -/
def idxOf {α : Type} (p : α → Bool) (X : List α) : Int := match X.findIdx? p with | some i => (i : Int) | none => -1
theorem idx_step {α : Type} {p : α → Bool} {X : List α} {k : Nat} {d o : α} (hlt : k < X.length) (ho : o = X.getD k d) (hp : p o = false) (h : ∀ x ∈ X.take k, p x = false) : ∀ x ∈ X.take (k + 1), p x = false := by
  intro x hx
  rw [List.take_succ_eq_append_getElem hlt] at hx
  rcases List.mem_append.1 hx with h' | h'
  · exact h x h'
  · simp at h'
    rw [h', ← hp, ho]; simp [List.getD, hlt]
theorem idxOf_hit {α : Type} {p : α → Bool} {X : List α} {k : Nat} {d o : α} (hlt : k < X.length) (ho : o = X.getD k d) (hp : p o = true) (h : ∀ x ∈ X.take k, p x = false) : idxOf p X = k := by
  have e : X.findIdx? p = some k := by
    rw [List.findIdx?_eq_some_iff_getElem]
    refine ⟨hlt, ?_, fun j hj => ?_⟩
    · rw [← hp, ho]; simp [List.getD, hlt]
    · rw [h _ (List.mem_take_iff_getElem.2 ⟨j, by omega, rfl⟩)]; simp
  unfold idxOf; rw [e]
theorem idxOf_none {α : Type} {p : α → Bool} {X : List α} {k : Nat} (hk : X.length = k) (h : ∀ x ∈ X.take k, p x = false) : idxOf p X = -1 := by
  rw [List.take_of_length_le (by omega)] at h
  have e : X.findIdx? p = none := List.findIdx?_eq_none_iff.2 (by simpa using h)
  unfold idxOf; rw [e]
theorem idxOf_any {α : Type} (p : α → Bool) (X : List α) : (X.any p = true ↔ 0 ≤ idxOf p X) ∧ (X.any p = false ↔ idxOf p X < 0) := by
  unfold idxOf
  cases h : X.findIdx? p with
  | none =>
    have := List.findIdx?_eq_none_iff.1 h
    have hf : X.any p = false := by rw [List.any_eq_false]; intro x hx; rw [this x hx]; simp
    rw [hf]; simp
  | some i =>
    obtain ⟨hi, hp, _⟩ := List.findIdx?_eq_some_iff_getElem.1 h
    have ht : X.any p = true := List.any_eq_true.2 ⟨X[i], List.getElem_mem _, hp⟩
    rw [ht]; simp

theorem idxOf_cases {α : Type} (p : α → Bool) (X : List α) (d : α) : (idxOf p X = -1 ∧ ∀ x ∈ X, p x = false) ∨ ∃ i : Nat, i < X.length ∧ idxOf p X = i ∧ p (X.getD i d) = true ∧ ∀ x ∈ X.take i, p x = false := by
  unfold idxOf
  cases h : X.findIdx? p with
  | none => exact Or.inl ⟨rfl, by simpa using List.findIdx?_eq_none_iff.1 h⟩
  | some i =>
    obtain ⟨hi, hp, hn⟩ := List.findIdx?_eq_some_iff_getElem.1 h
    refine Or.inr ⟨i, hi, rfl, by simpa [List.getD, hi] using hp, fun x hx => ?_⟩
    obtain ⟨j, hj, rfl⟩ := List.mem_take_iff_getElem.1 hx
    have := hn j (by omega)
    simpa using this

def ClonePost (w : World) (E : TypeId) (sz n : Nat) (cs : List Value) (e : Ending) (w' : World) : Prop := ∃ v, e = .returned v ∧ w'.ownsRow w.heap.size E sz v n cs ∧ Below w.heap.size w w'
theorem own_empty (w : World) (E : TypeId) (sz : Nat) : (w.alloc (.cells #[] E)).ownsRow w.heap.size E sz (.slice (some ⟨w.heap.size, 0, none⟩) 0 0) 0 [] :=
  ⟨by simp, .inr ⟨w.heap.size, 0, #[], rfl, Nat.le_refl _, heap_at _ rfl, Nat.le_refl _, by unfold maxLen; omega, by simp, by simp⟩⟩
/-- The list with some places laid anew. -/
def putL {α : Type} (F : List α) (n : Nat) (cs : List α) : List α := F.take n ++ cs ++ F.drop (n + cs.length)
theorem putL_nil {α : Type} (F : List α) (n : Nat) : putL F n [] = F := by simp [putL]
theorem putL_set {α : Type} (F : List α) (n j : Nat) (cs : List α) (u : α) (hj : j = n + cs.length) (h : j < F.length) : (putL F n cs).set j u = putL F n (cs ++ [u]) := by
  subst hj
  unfold putL
  have h1 : (F.take n).length = n := by rw [List.length_take]; omega
  rw [List.append_assoc, List.set_append_right _ _ (by omega), List.set_append_right _ _ (by omega), h1, Nat.add_sub_cancel_left, Nat.sub_self]
  rw [List.drop_eq_getElem_cons h]
  simp [List.set]
  rw [Nat.add_assoc]
theorem putL_flat {sz : Nat} : ∀ {L : List (List Value)}, (∀ c ∈ L, c.length = sz) → ∀ {i : Nat} {c : List Value}, c.length = sz → i < L.length → putL L.flatten (i * sz) c = (L.set i c).flatten := by
  intro L
  induction L with
  | nil => intro _ i c _ hi; simp at hi
  | cons d L ih =>
    intro h i c hc hi
    have hd := h d List.mem_cons_self
    cases i with
    | zero => simp [putL, hc, ← hd]
    | succ i =>
      have := ih (fun e he => h e (List.mem_cons_of_mem _ he)) hc (by simpa using hi : i < L.length)
      simp only [List.flatten_cons, List.set_cons_succ, ← this]
      unfold putL
      have e : (i + 1) * sz = d.length + i * sz := by rw [Nat.add_mul, hd]; omega
      rw [e, List.take_append, List.take_of_length_le (by omega), Nat.add_sub_cancel_left, Nat.add_assoc, List.drop_append, List.drop_of_length_le (by omega), Nat.add_sub_cancel_left]
      simp

theorem own_mono {w : World} {base base' : Nat} {e : TypeId} {size : Nat} {v : Value} {n : Nat} {xs : List Value} (h : w.ownsRow base e size v n xs) (hb : base' ≤ base) : w.ownsRow base' e size v n xs := by
  obtain ⟨h1, h2 | ⟨g, cap, cur, h3, h4, h5⟩⟩ := h
  · exact ⟨h1, .inl h2⟩
  · exact ⟨h1, .inr ⟨g, cap, cur, h3, Nat.le_trans hb h4, h5⟩⟩
/-- Some cells laid one behind the other. -/
def setMany (w : World) (g : Nat) : Nat → List Value → World
  | _, [] => w
  | o, c :: cs => setMany (w.setCell ⟨g, o, none⟩ c) g (o + 1) cs
theorem own_setMany' {base e sz g n cap : Nat} : ∀ (cs pre : List Value) (o : Nat) (w : World) (xs : List Value), w.ownsRow base e sz (.slice (some ⟨g, 0, none⟩) n cap) n (putL xs o pre) → o + pre.length + cs.length ≤ xs.length →
    (setMany w g (o + pre.length) cs).ownsRow base e sz (.slice (some ⟨g, 0, none⟩) n cap) n (putL xs o (pre ++ cs)) := by
  intro cs
  induction cs with
  | nil => intro pre o w xs h _; simpa [setMany] using h
  | cons c cs ih =>
    intro pre o w xs h hl
    simp only [List.length_cons] at hl
    have h1 := (h.stored (o + pre.length) c).1
    rw [putL_set _ _ _ _ _ rfl (by omega)] at h1
    have h2 := ih (pre ++ [c]) o _ xs h1 (by simp; omega)
    simp only [List.append_assoc, List.singleton_append, List.length_append, List.length_cons, List.length_nil] at h2
    exact h2
theorem own_setMany {base e sz g n cap : Nat} {w : World} {xs : List Value} (cs : List Value) (o : Nat) (h : w.ownsRow base e sz (.slice (some ⟨g, 0, none⟩) n cap) n xs) (hl : o + cs.length ≤ xs.length) :
    (setMany w g o cs).ownsRow base e sz (.slice (some ⟨g, 0, none⟩) n cap) n (putL xs o cs) := by
  have := own_setMany' (g := g) cs [] o w xs (by rw [putL_nil]; exact h) (by simpa using hl)
  simpa using this

end Go.Proofs.Ythgfiadfpgfjdaa
