/- The ring in plain words: the one order of spots, what stands on a ring of given weights, when a ring may be. -/
import Derived.Test.YtmhbkpgacdmjpaaOpen
import Derived.Test.YtmhbkpgacdmjpaaOwn
import Derived.Test.YtmhbkpgacdmjpaaHash
namespace Go.Proofs.Ytmhbkpgacdmjpaa

/-- Does a stand ahead of b? -/
def spA (a b : Sp) : Bool := decide (a.hash < b.hash) || (decide (a.hash = b.hash) && decide (a.backend < b.backend))
theorem spA_iff {a b : Sp} : spA a b = true ↔ a.hash < b.hash ∨ (a.hash = b.hash ∧ a.backend < b.backend) := by simp [spA]
theorem spA_no {a b : Sp} : spA a b = false ↔ ¬ (a.hash < b.hash ∨ (a.hash = b.hash ∧ a.backend < b.backend)) := by rw [← spA_iff]; simp
theorem spA_irrefl (a : Sp) : spA a a = false := by rw [spA_no]; omega
theorem spA_eq {a b : Sp} (h1 : spA a b = false) (h2 : spA b a = false) : a = b := by
  rw [spA_no] at h1 h2
  obtain ⟨x, y⟩ := a
  obtain ⟨z, u⟩ := b
  simp only at h1 h2
  have : x = z := by omega
  have : y = u := by omega
  simp_all
def spLe (a b : Sp) : Bool := !spA b a
theorem spLe_iff {a b : Sp} : spLe a b = true ↔ ¬ (b.hash < a.hash ∨ (b.hash = a.hash ∧ b.backend < a.backend)) := by unfold spLe; rw [Bool.not_eq_true', spA_no]
theorem spLe_trans (a b c : Sp) (h1 : spLe a b = true) (h2 : spLe b c = true) : spLe a c = true := by rw [spLe_iff] at *; omega
theorem spLe_total (a b : Sp) : (spLe a b || spLe b a) = true := by
  have : spLe a b = true ∨ spLe b a = true := by rw [spLe_iff, spLe_iff]; omega
  simpa using this
theorem spLe_of_A {a b : Sp} (h : spA a b = true) : spLe a b = true := by rw [spLe_iff]; rw [spA_iff] at h; omega
/-- In order. -/
def Ord (X : List Sp) : Prop := X.Pairwise fun a b => spLe a b = true
def srt (X : List Sp) : List Sp := X.mergeSort spLe
theorem srt_ord (X : List Sp) : Ord (srt X) := List.pairwise_mergeSort spLe_trans spLe_total X
theorem srt_perm (X : List Sp) : (srt X).Perm X := List.mergeSort_perm X spLe
theorem ord_one : ∀ {X Y : List Sp}, Ord X → Ord Y → X.Perm Y → X = Y := by
  intro X
  induction X with
  | nil => intro Y _ _ h; exact (List.nil_perm.1 h).symm
  | cons a X ih =>
    intro Y hx hy h
    cases Y with
    | nil => exact absurd h.length_eq (by simp)
    | cons b Y =>
      have hx1 := List.pairwise_cons.1 hx
      have hy1 := List.pairwise_cons.1 hy
      have e : a = b := by
        have ha : a ∈ b :: Y := h.mem_iff.1 List.mem_cons_self
        have hb : b ∈ a :: X := h.mem_iff.2 List.mem_cons_self
        rcases List.mem_cons.1 ha with e | ha
        · exact e
        rcases List.mem_cons.1 hb with e | hb
        · exact e.symm
        have h1 := hy1.1 a ha
        have h2 := hx1.1 b hb
        exact spA_eq (by unfold spLe at h1; simpa using h1) (by unfold spLe at h2; simpa using h2)
      subst e
      rw [ih hx1.2 hy1.2 (List.Perm.cons_inv h)]
theorem srt_one {X Y : List Sp} (ho : Ord Y) (hp : Y.Perm X) : Y = srt X := ord_one ho (srt_ord X) (hp.trans (srt_perm X).symm)
theorem srt_congr {X Y : List Sp} (h : X.Perm Y) : srt X = srt Y := srt_one (srt_ord X) ((srt_perm X).trans h)
theorem srt_id {X : List Sp} (h : Ord X) : srt X = X := (srt_one h (List.Perm.refl X)).symm
/-- One more, put where it belongs. -/
theorem srt_put {A C : List Sp} {x : Sp} {X : List Sp} (h : A ++ C = srt X) (h1 : A = [] ∨ spA x (A.getD (A.length - 1) Sp.zero) = false) (h2 : ∀ y ∈ C, spA x y = true) : A ++ x :: C = srt (X ++ [x]) := by
  refine srt_one ?_ ?_
  · have ho : Ord (A ++ C) := by rw [h]; exact srt_ord X
    unfold Ord at ho ⊢
    rw [List.pairwise_append] at ho ⊢
    obtain ⟨hA, hC, hAC⟩ := ho
    have hAx : ∀ a ∈ A, spLe a x = true := by
      intro a ha
      rcases h1 with rfl | h1
      · cases ha
      · have hne : A ≠ [] := by rintro rfl; cases ha
        have hl : A.getD (A.length - 1) Sp.zero = A.getLast hne := by
          rw [List.getLast_eq_getElem]
          have : A.length - 1 < A.length := by have := List.length_pos_iff.2 hne; omega
          simp [List.getD, this]
        have h3 : spLe (A.getLast hne) x = true := by unfold spLe; rw [← hl, h1]; rfl
        rcases List.mem_iff_getElem.1 ha with ⟨i, hi, rfl⟩
        by_cases hil : i = A.length - 1
        · subst hil; rw [← List.getLast_eq_getElem hne]; exact h3
        · refine spLe_trans _ _ _ ?_ h3
          rw [List.getLast_eq_getElem]
          exact List.pairwise_iff_getElem.1 hA i (A.length - 1) hi (by omega) (by omega)
    refine ⟨hA, List.pairwise_cons.2 ⟨fun y hy => spLe_of_A (h2 y hy), hC⟩, fun a ha b hb => ?_⟩
    rcases List.mem_cons.1 hb with rfl | hb
    · exact hAx a ha
    · exact hAC a ha b hb
  · have h3 : (A ++ x :: C).Perm (x :: (A ++ C)) := List.perm_middle
    rw [h] at h3
    exact h3.trans (((srt_perm X).cons x).trans (List.perm_append_singleton x X).symm)

def spH (b i : Nat) : Int := (mix4 98 b i 115 : Nat)
def spOf (b i : Nat) : Sp := ⟨spH b i, b⟩
def spotsOf (b n : Nat) : List Sp := (List.range (4 * n)).map (spOf b)
/-- The spots of the first k backends. -/
def wantK (ws : List Nat) (k : Nat) : List Sp := ((List.range k).map fun b => spotsOf b (ws.getD b 0)).flatten
def ringOf (ws : List Nat) : List Sp := srt (wantK ws 12)
theorem wantK_succ (ws : List Nat) (k : Nat) : wantK ws (k + 1) = wantK ws k ++ spotsOf k (ws.getD k 0) := by
  unfold wantK
  rw [List.range_succ, List.map_append, List.flatten_append]
  simp
theorem spotsOf_len (b n : Nat) : (spotsOf b n).length = 4 * n := by simp [spotsOf]
theorem wantK_len (ws : List Nat) (h : ∀ b, ws.getD b 0 ≤ 8) : ∀ k, (wantK ws k).length ≤ 32 * k := by
  intro k
  induction k with
  | zero => simp [wantK]
  | succ k ih => rw [wantK_succ, List.length_append, spotsOf_len]; have := h k; omega
/-- How many spots a backend has. -/
def rct (X : List Sp) (b : Nat) : Nat := X.countP fun s => s.backend == (b : Int)
def rgW (X : List Sp) : List Nat := (List.range 12).map fun b => rct X b / 4
def Rg1 (X : List Sp) : Prop := ∀ s ∈ X, 0 ≤ s.backend ∧ s.backend ≤ 11
def Rg2 (X : List Sp) : Prop := ∀ b, b < 12 → rct X b % 4 = 0 ∧ rct X b ≤ 32
/-- May a ring be (P4.2)? -/
def RgMay (X : List Sp) : Prop := Rg1 X ∧ Rg2 X ∧ X = ringOf (rgW X)
theorem rgW_get (X : List Sp) {b : Nat} (h : b < 12) : (rgW X).getD b 0 = rct X b / 4 := by simp [rgW, List.getD, h]
theorem rgW_le {X : List Sp} (h : Rg2 X) (b : Nat) : (rgW X).getD b 0 ≤ 8 := by
  by_cases hb : b < 12
  · rw [rgW_get X hb]; have := (h b hb).2; omega
  · have : (rgW X)[b]? = none := by simp [rgW]; omega
    simp [List.getD, this]
theorem RgMay.len {X : List Sp} (h : RgMay X) : X.length ≤ 384 := by
  have := wantK_len (rgW X) (rgW_le h.2.1) 12
  have e : X.length = (wantK (rgW X) 12).length := by
    rw [show X.length = (ringOf (rgW X)).length by rw [← h.2.2]]
    exact (srt_perm _).length_eq
  omega
theorem rct_take_succ (X : List Sp) (b : Nat) {k : Nat} (h : k < X.length) : rct (X.take (k + 1)) b = rct (X.take k) b + (if (X.getD k Sp.zero).backend = (b : Int) then 1 else 0) := by
  unfold rct
  rw [List.take_succ_eq_append_getElem h, List.countP_append]
  have e : X.getD k Sp.zero = X[k] := by simp [List.getD, h]
  rw [e]
  by_cases hb : X[k].backend = (b : Int) <;> simp [hb]
theorem rct_le (X : List Sp) (b : Nat) : rct X b ≤ X.length := List.countP_le_length
theorem getD_mem {α : Type} (X : List α) (d : α) {k : Nat} (h : k < X.length) : X.getD k d ∈ X := by
  have e : X.getD k d = X[k] := by simp [List.getD, h]
  rw [e]; exact List.getElem_mem h
end Go.Proofs.Ytmhbkpgacdmjpaa
