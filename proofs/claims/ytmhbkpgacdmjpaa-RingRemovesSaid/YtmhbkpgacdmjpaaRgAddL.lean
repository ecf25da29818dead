/- Adding to a ring, and taking from it, in plain words. -/
import Derived.Test.YtmhbkpgacdmjpaaRing
namespace Go.Proofs.Ytmhbkpgacdmjpaa
theorem getD_set (ws : List Nat) (b c n : Nat) (h : b < ws.length) : (ws.set b n).getD c 0 = if b = c then n else ws.getD c 0 := by
  simp only [List.getD, List.getElem?_set, if_pos h]
  by_cases hb : b = c
  · subst hb; simp
  · simp [hb]
theorem wantK_congr {ws vs : List Nat} {k : Nat} (h : ∀ b, b < k → ws.getD b 0 = vs.getD b 0) : wantK ws k = wantK vs k := by
  induction k with
  | zero => simp [wantK]
  | succ k ih => rw [wantK_succ, wantK_succ, ih (fun b hb => h b (by omega)), h k (by omega)]
theorem wantK_set_perm {ws : List Nat} {b n : Nat} (hb : b < ws.length) (h0 : ws.getD b 0 = 0) : ∀ k, b < k → (wantK (ws.set b n) k).Perm (wantK ws k ++ spotsOf b n) := by
  intro k
  induction k with
  | zero => omega
  | succ k ih =>
    intro h
    rw [wantK_succ, wantK_succ, getD_set ws b k n hb]
    by_cases hk : b = k
    · subst hk
      rw [if_pos rfl, h0, wantK_congr (vs := ws) (fun c hc => by rw [getD_set ws b c n hb, if_neg (by omega)])]
      simp [spotsOf]
    · rw [if_neg hk]
      refine ((ih (by omega)).append_right _).trans ?_
      rw [List.append_assoc, List.append_assoc]
      exact List.Perm.append_left _ List.perm_append_comm
theorem ringOf_set {X : List Sp} {b n : Nat} (hX : RgMay X) (hb : b < 12) (h0 : (rgW X).getD b 0 = 0) : srt (X ++ spotsOf b n) = ringOf ((rgW X).set b n) := by
  unfold ringOf
  refine srt_congr ?_
  have hp := wantK_set_perm (n := n) (show b < (rgW X).length by simp [rgW]; exact hb) h0 12 hb
  refine List.Perm.trans ?_ hp.symm
  refine List.Perm.append_right _ ?_
  have := srt_perm (wantK (rgW X) 12)
  rw [show srt (wantK (rgW X) 12) = ringOf (rgW X) from rfl, ← hX.2.2] at this
  exact this
theorem spotsOf_mem {b n : Nat} {s : Sp} (h : s ∈ spotsOf b n) : s.backend = (b : Int) := by
  simp only [spotsOf, List.mem_map] at h
  obtain ⟨i, _, rfl⟩ := h
  rfl
theorem wantK_filter (ws : List Nat) (b : Nat) (hb : b < ws.length) : ∀ k, (wantK ws k).filter (fun s => !(s.backend == (b : Int))) = wantK (ws.set b 0) k := by
  intro k
  induction k with
  | zero => simp [wantK]
  | succ k ih =>
    rw [wantK_succ, wantK_succ, List.filter_append, ih, getD_set ws b k 0 hb]
    congr 1
    by_cases hk : b = k
    · subst hk
      rw [if_pos rfl, show spotsOf b 0 = [] by simp [spotsOf]]
      refine List.filter_eq_nil_iff.2 fun s hs => ?_
      rw [spotsOf_mem hs]; simp
    · rw [if_neg hk]
      refine List.filter_eq_self.2 fun s hs => ?_
      rw [spotsOf_mem hs]
      simp only [Bool.not_eq_true', beq_eq_false_iff_ne, ne_eq]
      omega
theorem ord_filter {X : List Sp} (h : Ord X) (p : Sp → Bool) : Ord (X.filter p) := List.Pairwise.filter p h
theorem ringOf_unset {X : List Sp} {b : Nat} (hX : RgMay X) (hb : b < 12) : X.filter (fun s => !(s.backend == (b : Int))) = ringOf ((rgW X).set b 0) := by
  unfold ringOf
  refine srt_one (ord_filter (by rw [hX.2.2]; exact srt_ord _) _) ?_
  rw [← wantK_filter (rgW X) b (by simp [rgW]; exact hb) 12]
  refine List.Perm.filter _ ?_
  have := srt_perm (wantK (rgW X) 12)
  rw [show srt (wantK (rgW X) 12) = ringOf (rgW X) from rfl, ← hX.2.2] at this
  exact this
/-- What Add answers: the spots and the code. -/
def AddAns (X : List Sp) (b wt : Int) (L : List Sp) (c : Int) : Prop :=
  (¬ RgMay X ∧ L = [] ∧ c = 6) ∨ (RgMay X ∧ (b < 0 ∨ 11 < b ∨ wt < 1 ∨ 8 < wt) ∧ L = [] ∧ c = 2) ∨
  ∃ n m : Nat, RgMay X ∧ b = n ∧ n < 12 ∧ wt = m ∧ 1 ≤ m ∧ m ≤ 8 ∧ ((0 < (rgW X).getD n 0 ∧ L = [] ∧ c = 7) ∨ ((rgW X).getD n 0 = 0 ∧ L = ringOf ((rgW X).set n m) ∧ c = 0))
theorem AddAns_total (X : List Sp) (b wt : Int) : ∃ L c, AddAns X b wt L c := by
  by_cases h : RgMay X
  · by_cases h2 : b < 0 ∨ 11 < b ∨ wt < 1 ∨ 8 < wt
    · exact ⟨_, _, Or.inr (Or.inl ⟨h, h2, rfl, rfl⟩)⟩
    · obtain ⟨n, hn⟩ := Int.eq_ofNat_of_zero_le (show 0 ≤ b by omega)
      obtain ⟨m, hm⟩ := Int.eq_ofNat_of_zero_le (show 0 ≤ wt by omega)
      by_cases h0 : (rgW X).getD n 0 = 0
      · exact ⟨_, _, Or.inr (Or.inr ⟨n, m, h, hn, by omega, hm, by omega, by omega, Or.inr ⟨h0, rfl, rfl⟩⟩)⟩
      · exact ⟨_, _, Or.inr (Or.inr ⟨n, m, h, hn, by omega, hm, by omega, by omega, Or.inl ⟨by omega, rfl, rfl⟩⟩)⟩
  · exact ⟨_, _, Or.inl ⟨h, rfl, rfl⟩⟩
/-- What Remove answers. -/
def RemAns (X : List Sp) (b : Int) (L : List Sp) (c : Int) : Prop :=
  (¬ RgMay X ∧ L = [] ∧ c = 6) ∨ (RgMay X ∧ (b < 0 ∨ 11 < b) ∧ L = [] ∧ c = 8) ∨
  ∃ n : Nat, RgMay X ∧ b = n ∧ n < 12 ∧ (((rgW X).getD n 0 = 0 ∧ L = [] ∧ c = 8) ∨ (0 < (rgW X).getD n 0 ∧ L = ringOf ((rgW X).set n 0) ∧ c = 0))
theorem RemAns_total (X : List Sp) (b : Int) : ∃ L c, RemAns X b L c := by
  by_cases h : RgMay X
  · by_cases h2 : b < 0 ∨ 11 < b
    · exact ⟨_, _, Or.inr (Or.inl ⟨h, h2, rfl, rfl⟩)⟩
    · obtain ⟨n, hn⟩ := Int.eq_ofNat_of_zero_le (show 0 ≤ b by omega)
      by_cases h0 : (rgW X).getD n 0 = 0
      · exact ⟨_, _, Or.inr (Or.inr ⟨n, h, hn, by omega, Or.inl ⟨h0, rfl, rfl⟩⟩)⟩
      · exact ⟨_, _, Or.inr (Or.inr ⟨n, h, hn, by omega, Or.inr ⟨by omega, rfl, rfl⟩⟩)⟩
  · exact ⟨_, _, Or.inl ⟨h, rfl, rfl⟩⟩
end Go.Proofs.Ytmhbkpgacdmjpaa
