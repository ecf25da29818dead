/- Walking along a ring, in plain words. -/
import Derived.Test.YtmhbkpgacdmjpaaRing
import Derived.Test.YtmhbkpgacdmjpaaBsSp
namespace Go.Proofs.Ytmhbkpgacdmjpaa
theorem snoc_ind {α : Type} {p : List α → Prop} (h0 : p []) (h1 : ∀ L s, p L → p (L ++ [s])) : ∀ L, p L := by
  intro L
  rw [← L.reverse_reverse]
  induction L.reverse with
  | nil => exact h0
  | cons s L ih => rw [List.reverse_cons]; exact h1 _ _ ih
def wkStep (out : List Int) (s : Sp) : List Int := if s.backend ∈ out then out else out ++ [s.backend]
/-- All backends of these spots, in the order in which each comes first. -/
def walkL (L : List Sp) : List Int := L.foldl wkStep []
theorem walkL_snoc (L : List Sp) (s : Sp) : walkL (L ++ [s]) = wkStep (walkL L) s := by simp [walkL]
theorem walkL_len (L : List Sp) : (walkL L).length ≤ L.length := by
  refine snoc_ind (p := fun L => (walkL L).length ≤ L.length) ?_ ?_ L
  · simp [walkL]
  · intro L s ih
    rw [walkL_snoc, List.length_append]
    unfold wkStep
    split
    · omega
    · rw [List.length_append]; simp; omega
theorem walkL_mem (L : List Sp) (b : Int) : b ∈ walkL L ↔ ∃ s ∈ L, s.backend = b := by
  refine snoc_ind (p := fun L => b ∈ walkL L ↔ ∃ s ∈ L, s.backend = b) ?_ ?_ L
  · simp [walkL]
  · intro L s ih
    rw [walkL_snoc]
    have h : b ∈ wkStep (walkL L) s ↔ b ∈ walkL L ∨ b = s.backend := by
      unfold wkStep
      split
      · constructor
        · exact Or.inl
        · rintro (h | rfl)
          · exact h
          · assumption
      · simp
    rw [h, ih]
    constructor
    · rintro (⟨t, ht, e⟩ | rfl)
      · exact ⟨t, by simp [ht], e⟩
      · exact ⟨s, by simp, rfl⟩
    · rintro ⟨t, ht, e⟩
      rw [List.mem_append, List.mem_singleton] at ht
      rcases ht with ht | rfl
      · exact Or.inl ⟨t, ht, e⟩
      · exact Or.inr e.symm
def rot (k : Nat) (X : List Sp) : List Sp := X.drop k ++ X.take k
theorem rot_len (k : Nat) (X : List Sp) : (rot k X).length = X.length := by
  unfold rot; rw [List.length_append, List.length_drop, List.length_take]; omega
theorem rot_get {k : Nat} {X : List Sp} (hk : k ≤ X.length) {i : Nat} (h : i < X.length) : (rot k X).getD i Sp.zero = X.getD ((k + i) % X.length) Sp.zero := by
  unfold rot
  simp only [List.getD]
  by_cases h1 : i < X.length - k
  · rw [List.getElem?_append_left (by rw [List.length_drop]; exact h1), List.getElem?_drop, Nat.mod_eq_of_lt (by omega)]
  · rw [List.getElem?_append_right (by rw [List.length_drop]; omega), List.length_drop, List.getElem?_take_of_lt (by omega)]
    have : (k + i) % X.length = i - (X.length - k) := by
      rw [Nat.mod_eq_sub_mod (by omega), Nat.mod_eq_of_lt (by omega)]; omega
    rw [this]
/-- The backends behind a place. -/
def walkAt (X : List Sp) (at_ : Int) : List Int := walkL (X.filter (fun s => decide (at_ ≤ s.hash)) ++ X.filter (fun s => decide (s.hash < at_)))
theorem cut_filter {X : List Sp} {at_ : Int} {k : Nat} (h1 : Rg1 X) (h : cutAt X ⟨at_, -1⟩ k) : rot k X = X.filter (fun s => decide (at_ ≤ s.hash)) ++ X.filter (fun s => decide (s.hash < at_)) := by
  obtain ⟨hk, ha, hb⟩ := h
  have e : X = X.take k ++ X.drop k := (List.take_append_drop k X).symm
  have f1 : ∀ s ∈ X.take k, s.hash < at_ := by
    intro s hs
    obtain ⟨i, hi, rfl⟩ := List.mem_iff_getElem.1 hs
    rw [List.length_take] at hi
    have := ha i (by omega)
    rw [spA_iff] at this
    have hm := h1 ((X.take k)[i]'(by rw [List.length_take]; omega)) (List.mem_of_mem_take (List.getElem_mem _))
    have e2 : X.getD i Sp.zero = (X.take k)[i]'(by rw [List.length_take]; omega) := by simp [List.getD, show i < X.length by omega]
    rw [e2] at this
    simp only at this
    omega
  have f2 : ∀ s ∈ X.drop k, at_ ≤ s.hash := by
    intro s hs
    obtain ⟨i, hi, rfl⟩ := List.mem_iff_getElem.1 hs
    rw [List.length_drop] at hi
    have := hb (k + i) (by omega) (by omega)
    rw [spA_no] at this
    have e2 : X.getD (k + i) Sp.zero = (X.drop k)[i]'(by rw [List.length_drop]; omega) := by simp [List.getD, show k + i < X.length by omega]
    rw [e2] at this
    simp only at this
    omega
  have g1 : X.filter (fun s => decide (at_ ≤ s.hash)) = X.drop k := by
    conv => lhs; rw [e]
    rw [List.filter_append, List.filter_eq_nil_iff.2 (fun s hs => by have := f1 s hs; simp; omega), List.filter_eq_self.2 (fun s hs => by simpa using f2 s hs)]; rfl
  have g2 : X.filter (fun s => decide (s.hash < at_)) = X.take k := by
    conv => lhs; rw [e]
    rw [List.filter_append, List.filter_eq_self.2 (fun s hs => by simpa using f1 s hs), List.filter_eq_nil_iff.2 (fun s hs => by have := f2 s hs; simp; omega)]; simp
  rw [g1, g2]; rfl
/-- The key's place on the ring. -/
def keyH (k : Nat) : Int := (mix4 (k % 256) (k / 256 % 256) (k / 65536 % 256) (k / 16777216) : Nat)
/-- What Walk answers. -/
def WalkAns (X : List Sp) (key : Int) (L : List Int) (c : Int) : Prop :=
  (¬ RgMay X ∧ L = [] ∧ c = 6) ∨ (RgMay X ∧ (key < 0 ∨ 4294967295 < key) ∧ L = [] ∧ c = 2) ∨ ∃ k : Nat, RgMay X ∧ key = k ∧ k < 4294967296 ∧ L = walkAt X (keyH k) ∧ c = 0
theorem WalkAns_total (X : List Sp) (key : Int) : ∃ L c, WalkAns X key L c := by
  by_cases h : RgMay X
  · by_cases h2 : key < 0 ∨ 4294967295 < key
    · exact ⟨_, _, Or.inr (Or.inl ⟨h, h2, rfl, rfl⟩)⟩
    · obtain ⟨n, hn⟩ := Int.eq_ofNat_of_zero_le (show 0 ≤ key by omega)
      exact ⟨_, _, Or.inr (Or.inr ⟨n, h, hn, by omega, rfl, rfl⟩)⟩
  · exact ⟨_, _, Or.inl ⟨h, rfl, rfl⟩⟩
theorem RgMay.ord {X : List Sp} (h : RgMay X) : Ord X := by rw [h.2.2]; exact srt_ord _
theorem walkAt_len (X : List Sp) (a : Int) : (walkAt X a).length ≤ X.length + X.length := by
  refine Nat.le_trans (walkL_len _) ?_
  rw [List.length_append]
  exact Nat.add_le_add (List.length_filter_le _ _) (List.length_filter_le _ _)
end Go.Proofs.Ytmhbkpgacdmjpaa
