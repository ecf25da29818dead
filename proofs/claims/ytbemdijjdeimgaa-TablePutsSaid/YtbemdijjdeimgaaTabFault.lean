/- usherref.TableFault: its contract. -/
import Derived.Test.YtbemdijjdeimgaaTabCheck
namespace Go.Proofs.Ytbemdijjdeimgaa
open Go.RowKit

set_option maxHeartbeats 4000000 in
set_option maxRecDepth 100000 in
theorem TableFault_row (b0 o0 c0 : Nat) (X : List Sl) (w : World) (hb0 : b0 < w.heap.size) (hn1 : 1 ≤ X.length) (hn : X.length ≤ 40) (h1 : ∀ i j, i < X.length → j < 4 → w.cell? ⟨b0, o0 + i * 4 + j, none⟩ = (X.getD i Sl.zero).cells[j]?) (r : Int) (hr : ((∀ x ∈ X, SlMay x) ∧ r = 0) ∨ ((∃ x ∈ X, ¬ SlMay x) ∧ r = 6)) :
    Calls Try.prog 26 #[.agg #[.slice (some ⟨b0, o0, none⟩) X.length c0]] w fun e w' => e = .returned (.int .i64 r) ∧ Below w.heap.size w w' := by
  have H1 := Lib.hid h1
  have HR := Lib.hid hr
  have g1 : (1 : Int) ≤ (X.length : Int) := by omega
  have g2 : (X.length : Int) ≤ 40 := by omega
  have HN := Lib.hid hn
  clear h1 hr hn hn1
  go_enter Try.func26, Try.ntmps26
  go_wp2_with (go_at_call 27; first | (refine (In_yes _ _ _ _ (by omega) (by omega)).mono ?_; rintro e w' ⟨rfl, rfl⟩) | (refine (In_no _ _ _ _ (by omega)).mono ?_; rintro e w' ⟨rfl, rfl⟩))
  go_loopw [3] (fun i wr => ∃ k : Nat, k ≤ X.length ∧ i = .int .i64 k ∧ Below w.heap.size w wr ∧ w.heap.size < wr.heap.size ∧ wr.cell? ⟨w.heap.size, 0, none⟩ = some (.slice (some ⟨b0, o0, none⟩) X.length c0) ∧ ∀ x ∈ X.take k, SlMay x) (fun i _ => X.length - (intOf i).toNat)
  case atStart => exact ⟨0, Nat.zero_le _, rfl, (Below.refl _ _).alloc (Nat.le_refl _) _, by simp, by go_simp, fun x hx => by simp at hx⟩
  case round =>
    obtain ⟨k, hk, rfl, hbel, hsz, s1, hall⟩ := hrel
    have HA := Lib.hid hall
    clear hall
    rcases (show k < X.length ∨ X.length = k by omega) with hlt | heq
    · have hlt' : (k : Int) < (X.length : Int) := by omega
      obtain ⟨o, ho⟩ : ∃ o, o = X.getD k Sl.zero := ⟨_, rfl⟩
      have hmem : o ∈ X := by rw [ho]; simp only [List.getD, List.getElem?_eq_getElem hlt, Option.getD_some]; exact List.getElem_mem _
      have hold : ∀ j, j < 4 → wr.cell? ⟨b0, o0 + k * 4 + j, none⟩ = o.cells[j]? := fun j hj => by
        rw [hbel.cell (p := ⟨b0, o0 + k * 4 + j, none⟩) hb0, ho]; exact H1.out k j hlt hj
      have hts : X.take (k + 1) = X.take k ++ [o] := by rw [ho, List.take_succ_eq_append_getElem hlt]; simp [List.getD, hlt]
      have HT := Lib.hid hts
      have HM := Lib.hid hmem
      clear ho hts hmem
      have a0 := hold 0 (by omega)
      have a1 := hold 1 (by omega)
      have a2 := hold 2 (by omega)
      have a3 := hold 3 (by omega)
      clear hold
      have HB := Lib.hid hbel
      clear hbel
      by_cases hfo : SlMay o
      · have hall2 : ∀ x ∈ X.take (k + 1), SlMay x := by rw [HT.out]; intro x hx; rcases List.mem_append.1 hx with h | h; exact HA.out x h; simp at h; rw [h]; exact hfo
        have HA2 := Lib.hid hall2
        clear hall2 HA HT HM
        obtain ⟨g, u, ky, b⟩ := o
        simp only [Sl.cells, List.getElem?_cons_zero, List.getElem?_cons_succ, Nat.add_zero] at a0 a1 a2 a3
        cases u with
        | true =>
          obtain ⟨f1, f2, f3, f4, f5, f6⟩ : 0 ≤ g ∧ g ≤ 1048575 ∧ 0 ≤ ky ∧ ky ≤ 4294967295 ∧ 0 ≤ b ∧ b ≤ 11 := by simpa [SlMay] using hfo
          clear hfo
          go_wp2_with (go_at_call 27; first | (refine (In_yes _ _ _ _ (by omega) (by omega)).mono ?_; rintro e w' ⟨rfl, rfl⟩) | (refine (In_no _ _ _ _ (by omega)).mono ?_; rintro e w' ⟨rfl, rfl⟩))
          go_roundw
          case rel => exact ⟨k + 1, by omega, by go_num, HB.out.alloc (by omega) _, by simp; omega, by go_simp, HA2.out⟩
          case measure => simp [intOf]; omega
        | false =>
          obtain ⟨f1, f2, rfl, rfl⟩ : 0 ≤ g ∧ g ≤ 1048576 ∧ ky = 0 ∧ b = 0 := by simpa [SlMay] using hfo
          clear hfo
          go_wp2_with (go_at_call 27; first | (refine (In_yes _ _ _ _ (by omega) (by omega)).mono ?_; rintro e w' ⟨rfl, rfl⟩) | (refine (In_no _ _ _ _ (by omega)).mono ?_; rintro e w' ⟨rfl, rfl⟩))
          go_roundw
          case rel => exact ⟨k + 1, by omega, by go_num, HB.out.alloc (by omega) _, by simp; omega, by go_simp, HA2.out⟩
          case measure => simp [intOf]; omega
      · have hr6 : r = 6 := by
          rcases HR.out with ⟨h, _⟩ | ⟨_, h⟩
          · exact absurd (h o HM.out) hfo
          · exact h
        have HR6 := Lib.hid hr6
        clear hr6 HA HT HM HR
        obtain ⟨g, u, ky, b⟩ := o
        simp only [Sl.cells, List.getElem?_cons_zero, List.getElem?_cons_succ, Nat.add_zero] at a0 a1 a2 a3
        cases u with
        | true =>
          have hcs : g < 0 ∨ (0 ≤ g ∧ 1048575 < g) ∨ (0 ≤ g ∧ g ≤ 1048575 ∧ ky < 0) ∨ (0 ≤ g ∧ g ≤ 1048575 ∧ 0 ≤ ky ∧ 4294967295 < ky) ∨ (0 ≤ g ∧ g ≤ 1048575 ∧ 0 ≤ ky ∧ ky ≤ 4294967295 ∧ b < 0) ∨ (0 ≤ g ∧ g ≤ 1048575 ∧ 0 ≤ ky ∧ ky ≤ 4294967295 ∧ 0 ≤ b ∧ 11 < b) := by
            have : ¬ (0 ≤ g ∧ g ≤ 1048575 ∧ 0 ≤ ky ∧ ky ≤ 4294967295 ∧ 0 ≤ b ∧ b ≤ 11) := by simpa [SlMay] using hfo
            omega
          clear hfo
          rcases hcs with f1 | ⟨f1, f2⟩ | ⟨f1, f2, f3⟩ | ⟨f1, f2, f3, f4⟩ | ⟨f1, f2, f3, f4, f5⟩ | ⟨f1, f2, f3, f4, f5, f6⟩
          all_goals
            go_wp2_with (go_at_call 27; first | (refine (In_yes _ _ _ _ (by omega) (by omega)).mono ?_; rintro e w' ⟨rfl, rfl⟩) | (refine (In_no _ _ _ _ (by omega)).mono ?_; rintro e w' ⟨rfl, rfl⟩))
            all_goals first | (go_ret; exact ⟨rI HR6.out.symm, HB.out.alloc (by omega) _⟩) | (exfalso; first | omega | (simp at *; omega) | (simp at *; done))
        | false =>
          rcases not_SlMay_free hfo with f1 | ⟨f1, f2⟩ | ⟨f1, f2, f3⟩ | ⟨f1, f2, rfl, f4⟩
          · clear hfo
            go_wp2_with (go_at_call 27; first | (refine (In_yes _ _ _ _ (by omega) (by omega)).mono ?_; rintro e w' ⟨rfl, rfl⟩) | (refine (In_no _ _ _ _ (by omega)).mono ?_; rintro e w' ⟨rfl, rfl⟩))
            all_goals first | (go_ret; exact ⟨rI HR6.out.symm, HB.out.alloc (by omega) _⟩) | (exfalso; first | omega | (simp at *; omega) | (simp at *; done))
          · clear hfo
            go_wp2_with (go_at_call 27; first | (refine (In_yes _ _ _ _ (by omega) (by omega)).mono ?_; rintro e w' ⟨rfl, rfl⟩) | (refine (In_no _ _ _ _ (by omega)).mono ?_; rintro e w' ⟨rfl, rfl⟩))
            all_goals first | (go_ret; exact ⟨rI HR6.out.symm, HB.out.alloc (by omega) _⟩) | (exfalso; first | omega | (simp at *; omega) | (simp at *; done))
          · clear hfo
            have hd : (ky == 0) = false := by simpa using f3
            have hd2 : (ky != 0) = true := by simpa using f3
            clear f3
            go_wp2_with (go_at_call 27; first | (refine (In_yes _ _ _ _ (by omega) (by omega)).mono ?_; rintro e w' ⟨rfl, rfl⟩) | (refine (In_no _ _ _ _ (by omega)).mono ?_; rintro e w' ⟨rfl, rfl⟩))
            all_goals first | (go_ret; exact ⟨rI HR6.out.symm, HB.out.alloc (by omega) _⟩) | (exfalso; first | omega | (simp at *; omega) | (simp at *; done))
          · clear hfo
            have hd : (b == 0) = false := by simpa using f4
            have hd2 : (b != 0) = true := by simpa using f4
            clear f4
            go_wp2_with (go_at_call 27; first | (refine (In_yes _ _ _ _ (by omega) (by omega)).mono ?_; rintro e w' ⟨rfl, rfl⟩) | (refine (In_no _ _ _ _ (by omega)).mono ?_; rintro e w' ⟨rfl, rfl⟩))
            all_goals first | (go_ret; exact ⟨rI HR6.out.symm, HB.out.alloc (by omega) _⟩) | (exfalso; first | omega | (simp at *; omega) | (simp at *; done))
    · have hge : ¬ (k : Int) < (X.length : Int) := by omega
      have hr0 : r = 0 := by
        rcases HR.out with ⟨_, h⟩ | ⟨⟨x, hx, hnx⟩, _⟩
        · exact h
        · exact absurd (HA.out x (by rw [List.take_of_length_le (by omega)]; exact hx)) hnx
      have HR0 := Lib.hid hr0
      clear hr0
      go_wp2
      all_goals first | (go_ret; exact ⟨rI HR0.out.symm, hbel⟩) | (exfalso; first | omega | (simp at *; omega) | (simp at *; done))

set_option maxHeartbeats 2000000 in
set_option maxRecDepth 100000 in
theorem TableFault_len (a : Option Addr) (n c : Nat) (w : World) (h : n < 1 ∨ (1 ≤ n ∧ 40 < n)) :
    Calls Try.prog 26 #[.agg #[.slice a n c]] w fun e w' => e = .returned (.int .i64 6) ∧ Below w.heap.size w w' := by
  rcases h with h | ⟨h, h2⟩
  · have g1 : (n : Int) < 1 := by omega
    clear h
    go_enter Try.func26, Try.ntmps26
    go_wp2_with (go_at_call 27; first | (refine (In_yes _ _ _ _ (by omega) (by omega)).mono ?_; rintro e w' ⟨rfl, rfl⟩) | (refine (In_no _ _ _ _ (by omega)).mono ?_; rintro e w' ⟨rfl, rfl⟩))
    all_goals first | (go_ret; exact ⟨rfl, (by repeat (first | (with_reducible exact Below.refl _ _) | (with_reducible assumption) | (with_reducible refine Below.drew ?_) | (with_reducible refine Below_drewN ?_) | (with_reducible refine Below.alloc ?_ (by first | omega | (simp; done) | (simp; omega)) _) | (with_reducible refine Below.setCell ?_ (by first | omega | (simp; done) | (simp; omega)) _) | (with_reducible refine Below.trans ?_ (Below.mono (by assumption) (by first | omega | (simp; done) | (simp; omega))))))⟩) | (exfalso; first | omega | (simp at *; omega) | (simp at *; done))
  · have g1 : (1 : Int) ≤ (n : Int) := by omega
    have g2 : (40 : Int) < (n : Int) := by omega
    clear h h2
    go_enter Try.func26, Try.ntmps26
    go_wp2_with (go_at_call 27; first | (refine (In_yes _ _ _ _ (by omega) (by omega)).mono ?_; rintro e w' ⟨rfl, rfl⟩) | (refine (In_no _ _ _ _ (by omega)).mono ?_; rintro e w' ⟨rfl, rfl⟩))
    all_goals first | (go_ret; exact ⟨rfl, (by repeat (first | (with_reducible exact Below.refl _ _) | (with_reducible assumption) | (with_reducible refine Below.drew ?_) | (with_reducible refine Below_drewN ?_) | (with_reducible refine Below.alloc ?_ (by first | omega | (simp; done) | (simp; omega)) _) | (with_reducible refine Below.setCell ?_ (by first | omega | (simp; done) | (simp; omega)) _) | (with_reducible refine Below.trans ?_ (Below.mono (by assumption) (by first | omega | (simp; done) | (simp; omega))))))⟩) | (exfalso; first | omega | (simp at *; omega) | (simp at *; done))

theorem tabFault_ok (v : Value) (X : List Sl) (w : World) (r : RowAt w 4 v (X.map Sl.cells)) (h : TabMay X) :
    Calls Try.prog 26 #[.agg #[v]] w fun e w' => e = .returned (.int .i64 0) ∧ Below w.heap.size w w' := by
  obtain ⟨h1, h2, h3⟩ := h
  obtain ⟨a, c, rfl, l, m, n, p⟩ := RowAt_fn Sl.zero r
  obtain ⟨b, o, rfl, hb, q⟩ := p (by intro hX; rw [hX] at h1; simp at h1)
  exact TableFault_row b o c X w hb h1 h2 q 0 (Or.inl ⟨h3, rfl⟩)
theorem tabFault_bad (v : Value) (X : List Sl) (w : World) (r : RowAt w 4 v (X.map Sl.cells)) (h : ¬ TabMay X) :
    Calls Try.prog 26 #[.agg #[v]] w fun e w' => e = .returned (.int .i64 6) ∧ Below w.heap.size w w' := by
  obtain ⟨a, c, rfl, l, m, n, p⟩ := RowAt_fn Sl.zero r
  rcases not_TabMay h with h1 | ⟨h1, h2⟩ | ⟨h1, h2, h3⟩
  · exact TableFault_len a _ c w (Or.inl h1)
  · exact TableFault_len a _ c w (Or.inr ⟨h1, h2⟩)
  · obtain ⟨b, o, rfl, hb, q⟩ := p (by intro hX; rw [hX] at h1; simp at h1)
    exact TableFault_row b o c X w hb h1 h2 q 6 (Or.inr ⟨h3, rfl⟩)
end Go.Proofs.Ytbemdijjdeimgaa
