/- Counting spots: the numbers by backend while they are made, in plain words. -/
import Derived.Test.YtmhbkpgacdmjpaaRing
namespace Go.Proofs.Ytmhbkpgacdmjpaa

/-- The counts of the first k spots. -/
def cntK (X : List Sp) (k : Nat) : List Int := (List.range 12).map fun b => (rct (X.take k) b : Int)
/-- The counts, the first k of them by four. -/
def mixK (X : List Sp) (k : Nat) : List Int := (List.range 12).map fun b => if b < k then ((rct X b / 4 : Nat) : Int) else (rct X b : Int)
theorem cntK_len (X : List Sp) (k : Nat) : (cntK X k).length = 12 := by simp [cntK]
theorem mixK_len (X : List Sp) (k : Nat) : (mixK X k).length = 12 := by simp [mixK]
theorem cntK_get (X : List Sp) (k : Nat) {m : Nat} (h : m < 12) : (cntK X k)[m]? = some (rct (X.take k) m : Int) := by simp [cntK, h]
theorem mixK_get (X : List Sp) (k : Nat) {m : Nat} (h : m < 12) : (mixK X k)[m]? = some (if m < k then ((rct X m / 4 : Nat) : Int) else (rct X m : Int)) := by simp [mixK, h]
theorem cntK_0 (X : List Sp) : (cntK X 0).map (Value.int .i64) = List.replicate 12 (.int .i64 0) := by simp [cntK, rct]; rfl
theorem cntK_all (X : List Sp) {k : Nat} (h : X.length = k) : cntK X k = mixK X 0 := by
  unfold cntK mixK; rw [List.take_of_length_le (by omega)]; simp
theorem cntK_succ {X : List Sp} {k m : Nat} {s : Sp} (hs : s = X.getD k Sp.zero) (hk : k < X.length) (hm : s.backend = (m : Int)) (h12 : m < 12) : cntK X (k + 1) = (cntK X k).set m ((rct (X.take k) m : Int) + 1) := by
  apply List.ext_getElem?
  intro j
  rw [List.getElem?_set]
  by_cases hj : j < 12
  · rw [cntK_get _ _ hj, rct_take_succ X j hk, ← hs, hm]
    by_cases hmj : m = j
    · subst hmj
      rw [if_pos rfl, if_pos rfl, if_pos (by rw [cntK_len]; exact hj)]; rfl
    · rw [if_neg hmj, cntK_get _ _ hj, if_neg (by omega)]; rfl
  · rw [if_neg (by omega), List.getElem?_eq_none (by rw [cntK_len]; omega), List.getElem?_eq_none (by rw [cntK_len]; omega)]
theorem mixK_succ (X : List Sp) {k : Nat} (h : k < 12) : mixK X (k + 1) = (mixK X k).set k ((rct X k / 4 : Nat) : Int) := by
  apply List.ext_getElem?
  intro j
  rw [List.getElem?_set]
  by_cases hj : j < 12
  · rw [mixK_get _ _ hj]
    by_cases hmj : k = j
    · subst hmj
      rw [if_pos (by omega), if_pos rfl, if_pos (by rw [mixK_len]; exact hj)]
    · rw [if_neg hmj, mixK_get _ _ hj]
      by_cases h2 : j < k
      · rw [if_pos h2, if_pos (by omega)]
      · rw [if_neg h2, if_neg (by omega)]
  · rw [if_neg (by omega), List.getElem?_eq_none (by rw [mixK_len]; omega), List.getElem?_eq_none (by rw [mixK_len]; omega)]
theorem mixK_12 (X : List Sp) : mixK X 12 = (rgW X).map (fun n : Nat => (n : Int)) := by
  unfold mixK rgW
  rw [List.map_map]
  refine List.map_congr_left fun b hb => ?_
  rw [if_pos (by simpa using hb)]; rfl
theorem cntK_bad {X : List Sp} {k : Nat} {s : Sp} (hs : s = X.getD k Sp.zero) (hk : k < X.length) (h : s.backend < 0 ∨ 11 < s.backend) : ¬ RgMay X := fun hm => by
  have := hm.1 s (by rw [hs]; exact getD_mem X _ hk); omega
theorem mixK_bad {X : List Sp} {k : Nat} (hk : k < 12) (h : rct X k % 4 ≠ 0 ∨ 32 < rct X k) : ¬ RgMay X := fun hm => by
  have := hm.2.1 k hk; omega
theorem rg1_step {X : List Sp} {k : Nat} (hk : k < X.length) (h : Rg1 (X.take k)) (h1 : 0 ≤ (X.getD k Sp.zero).backend) (h2 : (X.getD k Sp.zero).backend ≤ 11) : Rg1 (X.take (k + 1)) := by
  intro s hs
  rw [List.take_succ_eq_append_getElem hk, List.mem_append, List.mem_singleton] at hs
  rcases hs with hs | rfl
  · exact h s hs
  · have e : X.getD k Sp.zero = X[k] := by simp [List.getD, hk]
    rw [e] at h1 h2; exact ⟨h1, h2⟩
theorem wantK_le {X : List Sp} {k : Nat} (h2 : ∀ b, b < k → rct X b % 4 = 0 ∧ rct X b ≤ 32) (hk : k ≤ 12) : (wantK (rgW X) k).length ≤ 32 * k := by
  induction k with
  | zero => simp [wantK]
  | succ k ih =>
    rw [wantK_succ, List.length_append, spotsOf_len, rgW_get X (by omega)]
    have := ih (fun b hb => h2 b (by omega)) (by omega)
    have := h2 k (by omega)
    omega
end Go.Proofs.Ytmhbkpgacdmjpaa
