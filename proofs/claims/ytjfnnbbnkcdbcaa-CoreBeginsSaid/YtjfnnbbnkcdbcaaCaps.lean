/- bound.may, usherref.LoadsMay: their contracts. -/
import Derived.Test.YtjfnnbbnkcdbcaaBound
import Derived.Test.YtjfnnbbnkcdbcaaOwn
import Derived.Deep.QuietTactic
import Derived.BigQuiet
import Derived.IntWalk
namespace Go.Proofs.Ytjfnnbbnkcdbcaa
open Go.RowKit

/-- The backend ahead of a place; -1: there is none. -/
def lastB (L : List Ld) (i : Nat) : Int := if i = 0 then -1 else (L.getD (i - 1) Ld.zero).backend
/-- P7.2 at a place. -/
def LdAt (L : List Ld) (i : Nat) : Prop := lastB L i < (L.getD i Ld.zero).backend ∧ (L.getD i Ld.zero).backend ≤ 11 ∧ 0 ≤ (L.getD i Ld.zero).weight ∧ (L.getD i Ld.zero).weight ≤ 8 ∧ 0 ≤ (L.getD i Ld.zero).flows ∧ (L.getD i Ld.zero).flows ≤ 40
/-- P7.2: may loads be? -/
def LdsMay (L : List Ld) : Prop := L.length ≤ 12 ∧ ∀ i, i < L.length → LdAt L i
theorem lastB_lo {L : List Ld} : ∀ {i : Nat}, (∀ j, j < i → LdAt L j) → -1 ≤ lastB L i
  | 0, _ => by simp [lastB]
  | i + 1, h => by
    have h1 := lastB_lo (i := i) (fun j hj => h j (by omega))
    have h2 := (h i (by omega)).1
    simp only [lastB, Nat.add_sub_cancel, if_neg (by omega : ¬ i + 1 = 0)]
    omega
theorem lastB_hi {L : List Ld} {i : Nat} (h : ∀ j, j < i → LdAt L j) : lastB L i ≤ 11 := by
  cases i with
  | zero => simp [lastB]
  | succ i =>
    simp only [lastB, Nat.add_sub_cancel, if_neg (by omega : ¬ i + 1 = 0)]
    exact (h i (by omega)).2.1

set_option maxHeartbeats 4000000 in
set_option maxRecDepth 100000 in
theorem prog_may (v : Value) (L : List Ld) (r : Bool) (w : World) (hv : RowAt w 3 v (L.map Ld.cells)) (hr : (LdsMay L ∧ r = true) ∨ (¬ LdsMay L ∧ r = false)) :
    Calls Try.prog 60 #[v] w fun e w' => e = .returned (.bool r) ∧ Below w.heap.size w w' := by
  have HR := Lib.hid hr
  obtain ⟨a, c, rfl, l, m, n, p⟩ := RowAt_fn Ld.zero hv
  have P := Lib.hid p
  clear hv p l m n hr
  by_cases h12 : L.length ≤ 12
  rotate_left
  · have g1 : (12 : Int) < (L.length : Int) := by omega
    obtain rfl : r = false := by rcases HR.out with ⟨h, _⟩ | ⟨_, h⟩; exact absurd h.1 h12; exact h
    clear HR h12
    go_enter Try.func60, Try.ntmps60
    go_wp2
    all_goals first | (go_ret; exact ⟨rfl, (by repeat (first | (with_reducible exact Below.refl _ _) | (with_reducible assumption) | (with_reducible refine Below.drew ?_) | (with_reducible refine Below_drewN ?_) | (with_reducible refine Below.alloc ?_ (by first | omega | (simp; done) | (simp; omega)) _) | (with_reducible refine Below.setCell ?_ (by first | omega | (simp; done) | (simp; omega)) _) | (with_reducible refine Below.trans ?_ (Below.mono (by assumption) (by first | omega | (simp; done) | (simp; omega))))))⟩) | (exfalso; first | omega | (simp at *; omega) | (simp at *; done))
  have g1 : (L.length : Int) ≤ 12 := by omega
  go_enter Try.func60, Try.ntmps60
  go_wp2
  go_loopw [3, 11] (fun la i wr => ∃ k : Nat, k ≤ L.length ∧ i = .int .i64 k ∧ la = .int .i64 (lastB L k) ∧ Below w.heap.size w wr ∧ ∀ j, j < k → LdAt L j) (fun _ i _ => L.length - (intOf i).toNat)
  case atStart => exact ⟨0, Nat.zero_le _, rfl, rfl, Below.refl _ _, fun j hj => by omega⟩
  case round =>
    obtain ⟨k, hk, rfl, rfl, hb, hall⟩ := hrel
    have HA := Lib.hid hall
    have HB := Lib.hid hb
    have lo := lastB_lo hall
    have hi := lastB_hi hall
    clear hall
    rcases (show k < L.length ∨ L.length = k by omega) with hlt | heq
    · have hlt' : (k : Int) < (L.length : Int) := by omega
      obtain ⟨b0, o0, rfl, hb0, q⟩ := P.out (by intro h; rw [h] at hlt; simp at hlt)
      obtain ⟨s, hs⟩ : ∃ s, s = L.getD k Ld.zero := ⟨_, rfl⟩
      have hold : ∀ j, j < 3 → wr.cell? ⟨b0, o0 + k * 3 + j, none⟩ = s.cells[j]? := fun j hj => by
        rw [hb.cell (p := ⟨b0, o0 + k * 3 + j, none⟩) hb0, hs]; exact q k j hlt hj
      have a0 := hold 0 (by omega)
      have a1 := hold 1 (by omega)
      have a2 := hold 2 (by omega)
      have hat : LdAt L k ↔ (lastB L k < s.backend ∧ s.backend ≤ 11 ∧ 0 ≤ s.weight ∧ s.weight ≤ 8 ∧ 0 ≤ s.flows ∧ s.flows ≤ 40) := by rw [hs]; exact Iff.rfl
      have hnx : lastB L (k + 1) = s.backend := by simp only [lastB, Nat.add_sub_cancel, if_neg (by omega : ¬ k + 1 = 0)]; rw [hs]
      obtain ⟨la, hla⟩ : ∃ la, la = lastB L k := ⟨_, rfl⟩
      rw [← hla] at hat lo hi
      have HX := Lib.hid (And.intro hat hnx)
      have HLA := Lib.hid hla
      rw [← hla]
      clear hold hs q hat hnx hla hb
      obtain ⟨bk, wt, fl⟩ := s
      simp only [Ld.cells, List.getElem?_cons_zero, List.getElem?_cons_succ, Nat.add_zero] at a0 a1 a2
      rcases (show ((bk ≤ la)) ∨ ((la < bk) ∧ (12 ≤ bk)) ∨ ((la < bk) ∧ (bk ≤ 11) ∧ (wt < 0)) ∨ ((la < bk) ∧ (bk ≤ 11) ∧ (0 ≤ wt) ∧ (8 < wt)) ∨ ((la < bk) ∧ (bk ≤ 11) ∧ (0 ≤ wt) ∧ (wt ≤ 8) ∧ (fl < 0)) ∨ ((la < bk) ∧ (bk ≤ 11) ∧ (0 ≤ wt) ∧ (wt ≤ 8) ∧ (0 ≤ fl) ∧ (40 < fl)) ∨ ((la < bk) ∧ (bk ≤ 11) ∧ (0 ≤ wt) ∧ (wt ≤ 8) ∧ (0 ≤ fl) ∧ (fl ≤ 40)) by (rcases (show (bk ≤ la) ∨ (la < bk) by omega) with hx0 | hx0; exact Or.inl hx0; (rcases (show (12 ≤ bk) ∨ (bk ≤ 11) by omega) with hx1 | hx1; exact Or.inr (Or.inl ⟨hx0, hx1⟩); (rcases (show (wt < 0) ∨ (0 ≤ wt) by omega) with hx2 | hx2; exact Or.inr (Or.inr (Or.inl ⟨hx0, hx1, hx2⟩)); (rcases (show (8 < wt) ∨ (wt ≤ 8) by omega) with hx3 | hx3; exact Or.inr (Or.inr (Or.inr (Or.inl ⟨hx0, hx1, hx2, hx3⟩))); (rcases (show (fl < 0) ∨ (0 ≤ fl) by omega) with hx4 | hx4; exact Or.inr (Or.inr (Or.inr (Or.inr (Or.inl ⟨hx0, hx1, hx2, hx3, hx4⟩)))); (rcases (show (40 < fl) ∨ (fl ≤ 40) by omega) with hx5 | hx5; exact Or.inr (Or.inr (Or.inr (Or.inr (Or.inr (Or.inl ⟨hx0, hx1, hx2, hx3, hx4, hx5⟩))))); exact Or.inr (Or.inr (Or.inr (Or.inr (Or.inr (Or.inr (⟨hx0, hx1, hx2, hx3, hx4, hx5⟩))))))))))))) with hs0 | ⟨hs0, hs1⟩ | ⟨hs0, hs1, hs2⟩ | ⟨hs0, hs1, hs2, hs3⟩ | ⟨hs0, hs1, hs2, hs3, hs4⟩ | ⟨hs0, hs1, hs2, hs3, hs4, hs5⟩ | ⟨hs0, hs1, hs2, hs3, hs4, hs5⟩
      rotate_right
      · have HN : Hid (∀ j, j < k + 1 → LdAt L j) := fun j hj => by
          rcases (show j < k ∨ j = k by omega) with h | rfl
          · exact HA.out j h
          · exact HX.out.1.2 ⟨hs0, by omega, hs2, hs3, hs4, hs5⟩
        have hs1' : bk < 12 := by omega
        go_wp2
        go_roundw
        case rel => exact ⟨k + 1, by omega, by go_num, by rw [HX.out.2], HB.out.alloc HB.out.size _, HN.out⟩
        case measure => simp [intOf]; omega
      all_goals
        have hrf : Hid (r = false) := by
          rcases HR.out with ⟨h, _⟩ | ⟨_, h⟩
          · have := HX.out.1.1 (h.2 k hlt); simp only at this; omega
          · exact h
        (try have hs1' : bk < 12 := by omega)
        clear HR
        go_wp2
        all_goals first | (go_ret; exact ⟨rB hrf.out.symm, HB.out.alloc HB.out.size _⟩) | (exfalso; first | omega | (simp at *; omega) | (simp at *; done))
    · have hge : ¬ (k : Int) < (L.length : Int) := by omega
      have hrt : Hid (r = true) := by
        rcases HR.out with ⟨_, h⟩ | ⟨h, _⟩
        · exact h
        · exact absurd ⟨h12, fun i hi => HA.out i (by omega)⟩ h
      clear HR hb heq
      go_wp2
      all_goals first | (go_ret; exact ⟨rB hrt.out.symm, HB.out⟩) | (exfalso; first | omega | (simp at *; omega) | (simp at *; done))

set_option maxHeartbeats 4000000 in
set_option maxRecDepth 100000 in
theorem ref_LoadsMay (v : Value) (L : List Ld) (r : Bool) (w : World) (hv : RowAt w 3 v (L.map Ld.cells)) (hr : (LdsMay L ∧ r = true) ∨ (¬ LdsMay L ∧ r = false)) :
    Calls Try.prog 71 #[v] w fun e w' => e = .returned (.bool r) ∧ Below w.heap.size w w' := by
  have HR := Lib.hid hr
  obtain ⟨a, c, rfl, l, m, n, p⟩ := RowAt_fn Ld.zero hv
  have P := Lib.hid p
  clear hv p l m n hr
  by_cases h12 : L.length ≤ 12
  rotate_left
  · have g1 : (12 : Int) < (L.length : Int) := by omega
    obtain rfl : r = false := by rcases HR.out with ⟨h, _⟩ | ⟨_, h⟩; exact absurd h.1 h12; exact h
    clear HR h12
    go_enter Try.func71, Try.ntmps71
    go_wp2
    all_goals first | (go_ret; exact ⟨rfl, (by repeat (first | (with_reducible exact Below.refl _ _) | (with_reducible assumption) | (with_reducible refine Below.drew ?_) | (with_reducible refine Below_drewN ?_) | (with_reducible refine Below.alloc ?_ (by first | omega | (simp; done) | (simp; omega)) _) | (with_reducible refine Below.setCell ?_ (by first | omega | (simp; done) | (simp; omega)) _) | (with_reducible refine Below.trans ?_ (Below.mono (by assumption) (by first | omega | (simp; done) | (simp; omega))))))⟩) | (exfalso; first | omega | (simp at *; omega) | (simp at *; done))
  have g1 : (L.length : Int) ≤ 12 := by omega
  go_enter Try.func71, Try.ntmps71
  go_wp2
  go_loopw [3] (fun i wr => ∃ k : Nat, k ≤ L.length ∧ i = .int .i64 k ∧ Below w.heap.size w wr ∧ ∀ j, j < k → LdAt L j) (fun i _ => L.length - (intOf i).toNat)
  case atStart => exact ⟨0, Nat.zero_le _, rfl, Below.refl _ _, fun j hj => by omega⟩
  case round =>
    obtain ⟨k, hk, rfl, hb, hall⟩ := hrel
    have HA := Lib.hid hall
    have HB := Lib.hid hb
    have lo := lastB_lo hall
    clear hall
    rcases (show k < L.length ∨ L.length = k by omega) with hlt | heq
    · have hlt' : (k : Int) < (L.length : Int) := by omega
      have p0 : (0 : Int) ≤ (k : Int) := by omega
      obtain ⟨b0, o0, rfl, hb0, q⟩ := P.out (by intro h; rw [h] at hlt; simp at hlt)
      obtain ⟨s, hs⟩ : ∃ s, s = L.getD k Ld.zero := ⟨_, rfl⟩
      have hold : ∀ j, j < 3 → wr.cell? ⟨b0, o0 + k * 3 + j, none⟩ = s.cells[j]? := fun j hj => by
        rw [hb.cell (p := ⟨b0, o0 + k * 3 + j, none⟩) hb0, hs]; exact q k j hlt hj
      have a0 := hold 0 (by omega)
      have a1 := hold 1 (by omega)
      have a2 := hold 2 (by omega)
      have hat : LdAt L k ↔ (lastB L k < s.backend ∧ s.backend ≤ 11 ∧ 0 ≤ s.weight ∧ s.weight ≤ 8 ∧ 0 ≤ s.flows ∧ s.flows ≤ 40) := by rw [hs]; exact Iff.rfl
      have hpr : 0 < k → wr.cell? ⟨b0, o0 + (k - 1) * 3, none⟩ = some (.int .i64 (lastB L k)) := fun h => by
        have := q (k - 1) 0 (by omega) (by omega)
        rw [Nat.add_zero] at this
        rw [hb.cell (p := ⟨b0, o0 + (k - 1) * 3, none⟩) hb0, this]
        simp only [lastB, if_neg (by omega : ¬ k = 0)]
        rfl
      have hz : k = 0 → lastB L k = -1 := fun h => by simp [lastB, h]
      obtain ⟨la, hla⟩ : ∃ la, la = lastB L k := ⟨_, rfl⟩
      rw [← hla] at hat lo hpr hz
      have HX := Lib.hid hat
      have HP := Lib.hid hpr
      have HZ := Lib.hid hz
      clear hold hs q hat hla hb hpr hz
      obtain ⟨bk, wt, fl⟩ := s
      simp only [Ld.cells, List.getElem?_cons_zero, List.getElem?_cons_succ, Nat.add_zero] at a0 a1 a2
      rcases (show (bk < 0 ∨ 11 < bk ∨ wt < 0 ∨ 8 < wt ∨ fl < 0 ∨ 40 < fl) ∨ (0 ≤ bk ∧ bk ≤ 11 ∧ 0 ≤ wt ∧ wt ≤ 8 ∧ 0 ≤ fl ∧ fl ≤ 40) by omega) with hbad | ⟨k1, k2, k3, k4, k5, k6⟩
      · have hrf : Hid (r = false) := by
          rcases HR.out with ⟨h, _⟩ | ⟨_, h⟩
          · have := HX.out.1 (h.2 k hlt); simp only at this; omega
          · exact h
        clear HR
        rcases (show ((bk < 0)) ∨ ((0 ≤ bk) ∧ (11 < bk)) ∨ ((0 ≤ bk) ∧ (bk ≤ 11) ∧ (wt < 0)) ∨ ((0 ≤ bk) ∧ (bk ≤ 11) ∧ (0 ≤ wt) ∧ (8 < wt)) ∨ ((0 ≤ bk) ∧ (bk ≤ 11) ∧ (0 ≤ wt) ∧ (wt ≤ 8) ∧ (fl < 0)) ∨ ((0 ≤ bk) ∧ (bk ≤ 11) ∧ (0 ≤ wt) ∧ (wt ≤ 8) ∧ (0 ≤ fl) ∧ (40 < fl)) ∨ ((0 ≤ bk) ∧ (bk ≤ 11) ∧ (0 ≤ wt) ∧ (wt ≤ 8) ∧ (0 ≤ fl) ∧ (fl ≤ 40)) by (rcases (show (bk < 0) ∨ (0 ≤ bk) by omega) with hx0 | hx0; exact Or.inl hx0; (rcases (show (11 < bk) ∨ (bk ≤ 11) by omega) with hx1 | hx1; exact Or.inr (Or.inl ⟨hx0, hx1⟩); (rcases (show (wt < 0) ∨ (0 ≤ wt) by omega) with hx2 | hx2; exact Or.inr (Or.inr (Or.inl ⟨hx0, hx1, hx2⟩)); (rcases (show (8 < wt) ∨ (wt ≤ 8) by omega) with hx3 | hx3; exact Or.inr (Or.inr (Or.inr (Or.inl ⟨hx0, hx1, hx2, hx3⟩))); (rcases (show (fl < 0) ∨ (0 ≤ fl) by omega) with hx4 | hx4; exact Or.inr (Or.inr (Or.inr (Or.inr (Or.inl ⟨hx0, hx1, hx2, hx3, hx4⟩)))); (rcases (show (40 < fl) ∨ (fl ≤ 40) by omega) with hx5 | hx5; exact Or.inr (Or.inr (Or.inr (Or.inr (Or.inr (Or.inl ⟨hx0, hx1, hx2, hx3, hx4, hx5⟩))))); exact Or.inr (Or.inr (Or.inr (Or.inr (Or.inr (Or.inr (⟨hx0, hx1, hx2, hx3, hx4, hx5⟩))))))))))))) with hs0 | ⟨hs0, hs1⟩ | ⟨hs0, hs1, hs2⟩ | ⟨hs0, hs1, hs2, hs3⟩ | ⟨hs0, hs1, hs2, hs3, hs4⟩ | ⟨hs0, hs1, hs2, hs3, hs4, hs5⟩ | ⟨hs0, hs1, hs2, hs3, hs4, hs5⟩
        rotate_right
        · exfalso; omega
        all_goals
          clear hbad
          go_wp2_with (go_at_call 31; first | (refine (In_yes _ _ _ _ (by omega) (by omega)).mono ?_; rintro e w' ⟨rfl, rfl⟩) | (refine (In_no _ _ _ _ (by omega)).mono ?_; rintro e w' ⟨rfl, rfl⟩))
          all_goals first | (go_ret; exact ⟨rB hrf.out.symm, HB.out⟩) | (exfalso; first | omega | (simp at *; omega) | (simp at *; done))
      · rcases (show k = 0 ∨ (0 < k ∧ bk ≤ la) ∨ (0 < k ∧ la < bk) by omega) with rfl | ⟨hk0, hle⟩ | ⟨hk0, hle⟩
        · have HN : Hid (∀ j, j < 0 + 1 → LdAt L j) := fun j hj => by
            obtain rfl : j = 0 := by omega
            exact HX.out.2 ⟨by have := HZ.out rfl; simp only; omega, k2, k3, k4, k5, k6⟩
          simp only [Nat.zero_mul, Nat.add_zero] at a0 a1 a2
          go_wp2_with (go_at_call 31; first | (refine (In_yes _ _ _ _ (by omega) (by omega)).mono ?_; rintro e w' ⟨rfl, rfl⟩) | (refine (In_no _ _ _ _ (by omega)).mono ?_; rintro e w' ⟨rfl, rfl⟩))
          go_quiet (fail)
          go_wp2
          go_roundw
          case rel => exact ⟨0 + 1, by omega, by go_num, Below_drewN HB.out, HN.out⟩
          case measure => simp [intOf]; omega
        · have a9 := HP.out hk0
          have hk0' : (0 : Int) < (k : Int) := by omega
          have hrf : Hid (r = false) := by
            rcases HR.out with ⟨h, _⟩ | ⟨_, h⟩
            · have := HX.out.1 (h.2 k hlt); simp only at this; omega
            · exact h
          have hsub : IntKind.i64.wrap ((k : Int) - 1) = (k : Int) - 1 := IntWalk.i64_in _ (by omega)
          have hnn : (0 : Int) ≤ (k : Int) - 1 := by omega
          have hnt : ((k : Int) - 1).toNat = k - 1 := by omega
          have hl1 : (k : Int) - 1 < (L.length : Int) := by omega
          clear HR
          go_wp2_with (go_at_call 31; first | (refine (In_yes _ _ _ _ (by omega) (by omega)).mono ?_; rintro e w' ⟨rfl, rfl⟩) | (refine (In_no _ _ _ _ (by omega)).mono ?_; rintro e w' ⟨rfl, rfl⟩))
          go_quiet (fail)
          go_wp2
          all_goals first | (go_ret; exact ⟨rB hrf.out.symm, Below_drewN HB.out⟩) | (exfalso; first | omega | (simp at *; omega) | (simp at *; done))
        · have a9 := HP.out hk0
          have hk0' : (0 : Int) < (k : Int) := by omega
          have HN : Hid (∀ j, j < k + 1 → LdAt L j) := fun j hj => by
            rcases (show j < k ∨ j = k by omega) with h | rfl
            · exact HA.out j h
            · exact HX.out.2 ⟨hle, k2, k3, k4, k5, k6⟩
          have hsub : IntKind.i64.wrap ((k : Int) - 1) = (k : Int) - 1 := IntWalk.i64_in _ (by omega)
          have hnn : (0 : Int) ≤ (k : Int) - 1 := by omega
          have hnt : ((k : Int) - 1).toNat = k - 1 := by omega
          have hl1 : (k : Int) - 1 < (L.length : Int) := by omega
          go_wp2_with (go_at_call 31; first | (refine (In_yes _ _ _ _ (by omega) (by omega)).mono ?_; rintro e w' ⟨rfl, rfl⟩) | (refine (In_no _ _ _ _ (by omega)).mono ?_; rintro e w' ⟨rfl, rfl⟩))
          go_quiet (fail)
          go_wp2
          go_roundw
          case rel => exact ⟨k + 1, by omega, by go_num, Below_drewN HB.out, HN.out⟩
          case measure => simp [intOf]; omega
    · have hge : ¬ (k : Int) < (L.length : Int) := by omega
      have hrt : Hid (r = true) := by
        rcases HR.out with ⟨_, h⟩ | ⟨h, _⟩
        · exact h
        · exact absurd ⟨h12, fun i hi => HA.out i (by omega)⟩ h
      clear HR hb heq
      go_wp2
      all_goals first | (go_ret; exact ⟨rB hrt.out.symm, HB.out⟩) | (exfalso; first | omega | (simp at *; omega) | (simp at *; done))
end Go.Proofs.Ytjfnnbbnkcdbcaa
