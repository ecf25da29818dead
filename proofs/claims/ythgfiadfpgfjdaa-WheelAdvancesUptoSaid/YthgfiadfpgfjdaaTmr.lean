/- The order of timers, in plain words. -/
import Derived.Test.YthgfiadfpgfjdaaOpen
import Derived.Test.YthgfiadfpgfjdaaOwn
namespace Go.Proofs.Ythgfiadfpgfjdaa

/-- Does a stand ahead of b? -/
def tmA (a b : Tm) : Bool := decide (a.at_ < b.at_) || (decide (a.at_ = b.at_) && decide (a.id < b.id))
theorem tmA_iff {a b : Tm} : tmA a b = true ↔ a.at_ < b.at_ ∨ (a.at_ = b.at_ ∧ a.id < b.id) := by simp [tmA]
theorem tmA_no {a b : Tm} : tmA a b = false ↔ ¬ (a.at_ < b.at_ ∨ (a.at_ = b.at_ ∧ a.id < b.id)) := by rw [← tmA_iff]; simp
theorem tmA_irrefl (a : Tm) : tmA a a = false := by rw [tmA_no]; omega
theorem tmA_eq {a b : Tm} (h1 : tmA a b = false) (h2 : tmA b a = false) : a = b := by
  rw [tmA_no] at h1 h2
  obtain ⟨x, y⟩ := a
  obtain ⟨z, u⟩ := b
  simp only at h1 h2
  have : x = z := by omega
  have : y = u := by omega
  simp_all
def tmLe (a b : Tm) : Bool := !tmA b a
theorem tmLe_iff {a b : Tm} : tmLe a b = true ↔ ¬ (b.at_ < a.at_ ∨ (b.at_ = a.at_ ∧ b.id < a.id)) := by unfold tmLe; rw [Bool.not_eq_true', tmA_no]
theorem tmLe_trans (a b c : Tm) (h1 : tmLe a b = true) (h2 : tmLe b c = true) : tmLe a c = true := by rw [tmLe_iff] at *; omega
theorem tmLe_total (a b : Tm) : (tmLe a b || tmLe b a) = true := by
  have : tmLe a b = true ∨ tmLe b a = true := by rw [tmLe_iff, tmLe_iff]; omega
  simpa using this
theorem tmLe_of_A {a b : Tm} (h : tmA a b = true) : tmLe a b = true := by rw [tmLe_iff]; rw [tmA_iff] at h; omega
/-- In order. -/
def OrdT (X : List Tm) : Prop := X.Pairwise fun a b => tmLe a b = true
def srtT (X : List Tm) : List Tm := X.mergeSort tmLe
theorem srtT_ord (X : List Tm) : OrdT (srtT X) := List.pairwise_mergeSort tmLe_trans tmLe_total X
theorem srtT_perm (X : List Tm) : (srtT X).Perm X := List.mergeSort_perm X tmLe
theorem ordT_one : ∀ {X Y : List Tm}, OrdT X → OrdT Y → X.Perm Y → X = Y := by
  intro X
  induction X with
  | nil => intro Y _ _ h; exact (List.nil_perm.1 h).symm
  | cons a X ih =>
    intro Y hx hy h
    cases Y with
    | nil => exact absurd h.length_eq (by simp)
    | cons b Y =>
      have hx1 := List.pairwise_cons.1 hx
      have hy1 := List.pairwise_cons.1 hy
      have e : a = b := by
        have ha : a ∈ b :: Y := h.mem_iff.1 List.mem_cons_self
        have hb : b ∈ a :: X := h.mem_iff.2 List.mem_cons_self
        rcases List.mem_cons.1 ha with e | ha
        · exact e
        rcases List.mem_cons.1 hb with e | hb
        · exact e.symm
        have h1 := hy1.1 a ha
        have h2 := hx1.1 b hb
        exact tmA_eq (by unfold tmLe at h1; simpa using h1) (by unfold tmLe at h2; simpa using h2)
      subst e
      rw [ih hx1.2 hy1.2 (List.Perm.cons_inv h)]
theorem srtT_one {X Y : List Tm} (ho : OrdT Y) (hp : Y.Perm X) : Y = srtT X := ordT_one ho (srtT_ord X) (hp.trans (srtT_perm X).symm)
theorem srtT_congr {X Y : List Tm} (h : X.Perm Y) : srtT X = srtT Y := srtT_one (srtT_ord X) ((srtT_perm X).trans h)
theorem srtT_id {X : List Tm} (h : OrdT X) : srtT X = X := (srtT_one h (List.Perm.refl X)).symm
/-- One more, put where it belongs. -/
theorem srtT_put {A C : List Tm} {x : Tm} {X : List Tm} (h : A ++ C = srtT X) (h1 : A = [] ∨ tmA x (A.getD (A.length - 1) Tm.zero) = false) (h2 : ∀ y ∈ C, tmA x y = true) : A ++ x :: C = srtT (X ++ [x]) := by
  refine srtT_one ?_ ?_
  · have ho : OrdT (A ++ C) := by rw [h]; exact srtT_ord X
    unfold OrdT at ho ⊢
    rw [List.pairwise_append] at ho ⊢
    obtain ⟨hA, hC, hAC⟩ := ho
    have hAx : ∀ a ∈ A, tmLe a x = true := by
      intro a ha
      rcases h1 with rfl | h1
      · cases ha
      · have hne : A ≠ [] := by rintro rfl; cases ha
        have hl : A.getD (A.length - 1) Tm.zero = A.getLast hne := by
          rw [List.getLast_eq_getElem]
          have : A.length - 1 < A.length := by have := List.length_pos_iff.2 hne; omega
          simp [List.getD, this]
        have h3 : tmLe (A.getLast hne) x = true := by unfold tmLe; rw [← hl, h1]; rfl
        rcases List.mem_iff_getElem.1 ha with ⟨i, hi, rfl⟩
        by_cases hil : i = A.length - 1
        · subst hil; rw [← List.getLast_eq_getElem hne]; exact h3
        · refine tmLe_trans _ _ _ ?_ h3
          rw [List.getLast_eq_getElem]
          exact List.pairwise_iff_getElem.1 hA i (A.length - 1) hi (by omega) (by omega)
    refine ⟨hA, List.pairwise_cons.2 ⟨fun y hy => tmLe_of_A (h2 y hy), hC⟩, fun a ha b hb => ?_⟩
    rcases List.mem_cons.1 hb with rfl | hb
    · exact hAx a ha
    · exact hAC a ha b hb
  · have h3 : (A ++ x :: C).Perm (x :: (A ++ C)) := List.perm_middle
    rw [h] at h3
    exact h3.trans (((srtT_perm X).cons x).trans (List.perm_append_singleton x X).symm)

end Go.Proofs.Ythgfiadfpgfjdaa
