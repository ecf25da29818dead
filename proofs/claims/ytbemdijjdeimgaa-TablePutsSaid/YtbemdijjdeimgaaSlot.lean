/- table.slot: its contract; the closure of table.Check. -/
import Derived.Test.YtbemdijjdeimgaaOpen
namespace Go.Proofs.Ytbemdijjdeimgaa
open Go.RowKit

/-- P5.1: may a slot be? -/
def SlMay (x : Sl) : Prop := if x.used = true then 0 ≤ x.gen ∧ x.gen ≤ 1048575 ∧ 0 ≤ x.key ∧ x.key ≤ 4294967295 ∧ 0 ≤ x.backend ∧ x.backend ≤ 11 else 0 ≤ x.gen ∧ x.gen ≤ 1048576 ∧ x.key = 0 ∧ x.backend = 0

set_option maxHeartbeats 4000000 in
set_option maxRecDepth 100000 in
theorem slot_yes (g : Int) (u : Bool) (k b : Int) (w : World) (h : SlMay ⟨g, u, k, b⟩) : Calls Try.prog 34 #[.agg #[.int .i64 g, .bool u, .int .i64 k, .int .i64 b]] w fun e w' => e = .returned (.bool true) ∧ Below w.heap.size w w' := by
  cases u with
  | true =>
    obtain ⟨h1, h2, h3, h4, h5, h6⟩ : 0 ≤ g ∧ g ≤ 1048575 ∧ 0 ≤ k ∧ k ≤ 4294967295 ∧ 0 ≤ b ∧ b ≤ 11 := by simpa [SlMay] using h
    clear h
    have hd : decide (b < 12) = true := by simp; omega
    go_enter Try.func34, Try.ntmps34
    go_wp2
    all_goals first | (go_ret; exact ⟨rfl, (by repeat (first | (with_reducible exact Below.refl _ _) | (with_reducible assumption) | (with_reducible refine Below.drew ?_) | (with_reducible refine Below_drewN ?_) | (with_reducible refine Below.alloc ?_ (by first | omega | (simp; done) | (simp; omega)) _) | (with_reducible refine Below.setCell ?_ (by first | omega | (simp; done) | (simp; omega)) _) | (with_reducible refine Below.trans ?_ (Below.mono (by assumption) (by first | omega | (simp; done) | (simp; omega))))))⟩) | (exfalso; first | omega | (simp at *; omega) | (simp at *; done))
  | false =>
    obtain ⟨h1, h2, rfl, rfl⟩ : 0 ≤ g ∧ g ≤ 1048576 ∧ k = 0 ∧ b = 0 := by simpa [SlMay] using h
    clear h
    go_enter Try.func34, Try.ntmps34
    go_wp2
    all_goals first | (go_ret; exact ⟨rfl, (by repeat (first | (with_reducible exact Below.refl _ _) | (with_reducible assumption) | (with_reducible refine Below.drew ?_) | (with_reducible refine Below_drewN ?_) | (with_reducible refine Below.alloc ?_ (by first | omega | (simp; done) | (simp; omega)) _) | (with_reducible refine Below.setCell ?_ (by first | omega | (simp; done) | (simp; omega)) _) | (with_reducible refine Below.trans ?_ (Below.mono (by assumption) (by first | omega | (simp; done) | (simp; omega))))))⟩) | (exfalso; first | omega | (simp at *; omega) | (simp at *; done))

theorem not_SlMay_used {g k b : Int} (h : ¬ SlMay ⟨g, true, k, b⟩) : g < 0 ∨ (0 ≤ g ∧ 1048576 < g) ∨ (0 ≤ g ∧ g = 1048576) ∨ (0 ≤ g ∧ g < 1048576 ∧ k < 0) ∨ (0 ≤ g ∧ g < 1048576 ∧ 0 ≤ k ∧ 4294967295 < k) ∨ (0 ≤ g ∧ g < 1048576 ∧ 0 ≤ k ∧ k ≤ 4294967295 ∧ b < 0) ∨ (0 ≤ g ∧ g < 1048576 ∧ 0 ≤ k ∧ k ≤ 4294967295 ∧ 0 ≤ b ∧ 11 < b) := by
  have : ¬ (0 ≤ g ∧ g ≤ 1048575 ∧ 0 ≤ k ∧ k ≤ 4294967295 ∧ 0 ≤ b ∧ b ≤ 11) := by simpa [SlMay] using h
  omega
theorem not_SlMay_free {g k b : Int} (h : ¬ SlMay ⟨g, false, k, b⟩) : g < 0 ∨ (0 ≤ g ∧ 1048576 < g) ∨ (0 ≤ g ∧ g ≤ 1048576 ∧ k ≠ 0) ∨ (0 ≤ g ∧ g ≤ 1048576 ∧ k = 0 ∧ b ≠ 0) := by
  have : ¬ (0 ≤ g ∧ g ≤ 1048576 ∧ k = 0 ∧ b = 0) := by simpa [SlMay] using h
  omega

set_option maxHeartbeats 4000000 in
set_option maxRecDepth 100000 in
theorem slot_no (g : Int) (u : Bool) (k b : Int) (w : World) (h : ¬ SlMay ⟨g, u, k, b⟩) : Calls Try.prog 34 #[.agg #[.int .i64 g, .bool u, .int .i64 k, .int .i64 b]] w fun e w' => e = .returned (.bool false) ∧ Below w.heap.size w w' := by
  cases u with
  | true =>
    rcases not_SlMay_used h with h1 | ⟨h1, h2⟩ | ⟨h1, rfl⟩ | ⟨h1, h2, h3⟩ | ⟨h1, h2, h3, h4⟩ | ⟨h1, h2, h3, h4, h5⟩ | ⟨h1, h2, h3, h4, h5, h6⟩
    · clear h
      go_enter Try.func34, Try.ntmps34
      go_wp2
      all_goals first | (go_ret; exact ⟨rfl, (by repeat (first | (with_reducible exact Below.refl _ _) | (with_reducible assumption) | (with_reducible refine Below.drew ?_) | (with_reducible refine Below_drewN ?_) | (with_reducible refine Below.alloc ?_ (by first | omega | (simp; done) | (simp; omega)) _) | (with_reducible refine Below.setCell ?_ (by first | omega | (simp; done) | (simp; omega)) _) | (with_reducible refine Below.trans ?_ (Below.mono (by assumption) (by first | omega | (simp; done) | (simp; omega))))))⟩) | (exfalso; first | omega | (simp at *; omega) | (simp at *; done))
    · clear h
      go_enter Try.func34, Try.ntmps34
      go_wp2
      all_goals first | (go_ret; exact ⟨rfl, (by repeat (first | (with_reducible exact Below.refl _ _) | (with_reducible assumption) | (with_reducible refine Below.drew ?_) | (with_reducible refine Below_drewN ?_) | (with_reducible refine Below.alloc ?_ (by first | omega | (simp; done) | (simp; omega)) _) | (with_reducible refine Below.setCell ?_ (by first | omega | (simp; done) | (simp; omega)) _) | (with_reducible refine Below.trans ?_ (Below.mono (by assumption) (by first | omega | (simp; done) | (simp; omega))))))⟩) | (exfalso; first | omega | (simp at *; omega) | (simp at *; done))
    · clear h
      go_enter Try.func34, Try.ntmps34
      go_wp2
      all_goals first | (go_ret; exact ⟨rfl, (by repeat (first | (with_reducible exact Below.refl _ _) | (with_reducible assumption) | (with_reducible refine Below.drew ?_) | (with_reducible refine Below_drewN ?_) | (with_reducible refine Below.alloc ?_ (by first | omega | (simp; done) | (simp; omega)) _) | (with_reducible refine Below.setCell ?_ (by first | omega | (simp; done) | (simp; omega)) _) | (with_reducible refine Below.trans ?_ (Below.mono (by assumption) (by first | omega | (simp; done) | (simp; omega))))))⟩) | (exfalso; first | omega | (simp at *; omega) | (simp at *; done))
    · clear h
      have hd : decide (0 ≤ k) = false := by simp; omega
      go_enter Try.func34, Try.ntmps34
      go_wp2
      all_goals first | (go_ret; exact ⟨rfl, (by repeat (first | (with_reducible exact Below.refl _ _) | (with_reducible assumption) | (with_reducible refine Below.drew ?_) | (with_reducible refine Below_drewN ?_) | (with_reducible refine Below.alloc ?_ (by first | omega | (simp; done) | (simp; omega)) _) | (with_reducible refine Below.setCell ?_ (by first | omega | (simp; done) | (simp; omega)) _) | (with_reducible refine Below.trans ?_ (Below.mono (by assumption) (by first | omega | (simp; done) | (simp; omega))))))⟩) | (exfalso; first | omega | (simp at *; omega) | (simp at *; done))
    · clear h
      have hd : decide (k ≤ 4294967295) = false := by simp; omega
      go_enter Try.func34, Try.ntmps34
      go_wp2
      all_goals first | (go_ret; exact ⟨rfl, (by repeat (first | (with_reducible exact Below.refl _ _) | (with_reducible assumption) | (with_reducible refine Below.drew ?_) | (with_reducible refine Below_drewN ?_) | (with_reducible refine Below.alloc ?_ (by first | omega | (simp; done) | (simp; omega)) _) | (with_reducible refine Below.setCell ?_ (by first | omega | (simp; done) | (simp; omega)) _) | (with_reducible refine Below.trans ?_ (Below.mono (by assumption) (by first | omega | (simp; done) | (simp; omega))))))⟩) | (exfalso; first | omega | (simp at *; omega) | (simp at *; done))
    · clear h
      have hd : decide (0 ≤ b) = false := by simp; omega
      go_enter Try.func34, Try.ntmps34
      go_wp2
      all_goals first | (go_ret; exact ⟨rfl, (by repeat (first | (with_reducible exact Below.refl _ _) | (with_reducible assumption) | (with_reducible refine Below.drew ?_) | (with_reducible refine Below_drewN ?_) | (with_reducible refine Below.alloc ?_ (by first | omega | (simp; done) | (simp; omega)) _) | (with_reducible refine Below.setCell ?_ (by first | omega | (simp; done) | (simp; omega)) _) | (with_reducible refine Below.trans ?_ (Below.mono (by assumption) (by first | omega | (simp; done) | (simp; omega))))))⟩) | (exfalso; first | omega | (simp at *; omega) | (simp at *; done))
    · clear h
      have hd : decide (b < 12) = false := by simp; omega
      go_enter Try.func34, Try.ntmps34
      go_wp2
      all_goals first | (go_ret; exact ⟨rfl, (by repeat (first | (with_reducible exact Below.refl _ _) | (with_reducible assumption) | (with_reducible refine Below.drew ?_) | (with_reducible refine Below_drewN ?_) | (with_reducible refine Below.alloc ?_ (by first | omega | (simp; done) | (simp; omega)) _) | (with_reducible refine Below.setCell ?_ (by first | omega | (simp; done) | (simp; omega)) _) | (with_reducible refine Below.trans ?_ (Below.mono (by assumption) (by first | omega | (simp; done) | (simp; omega))))))⟩) | (exfalso; first | omega | (simp at *; omega) | (simp at *; done))
  | false =>
    rcases not_SlMay_free h with h1 | ⟨h1, h2⟩ | ⟨h1, h2, h3⟩ | ⟨h1, h2, rfl, h4⟩
    · clear h
      go_enter Try.func34, Try.ntmps34
      go_wp2
      all_goals first | (go_ret; exact ⟨rfl, (by repeat (first | (with_reducible exact Below.refl _ _) | (with_reducible assumption) | (with_reducible refine Below.drew ?_) | (with_reducible refine Below_drewN ?_) | (with_reducible refine Below.alloc ?_ (by first | omega | (simp; done) | (simp; omega)) _) | (with_reducible refine Below.setCell ?_ (by first | omega | (simp; done) | (simp; omega)) _) | (with_reducible refine Below.trans ?_ (Below.mono (by assumption) (by first | omega | (simp; done) | (simp; omega))))))⟩) | (exfalso; first | omega | (simp at *; omega) | (simp at *; done))
    · clear h
      go_enter Try.func34, Try.ntmps34
      go_wp2
      all_goals first | (go_ret; exact ⟨rfl, (by repeat (first | (with_reducible exact Below.refl _ _) | (with_reducible assumption) | (with_reducible refine Below.drew ?_) | (with_reducible refine Below_drewN ?_) | (with_reducible refine Below.alloc ?_ (by first | omega | (simp; done) | (simp; omega)) _) | (with_reducible refine Below.setCell ?_ (by first | omega | (simp; done) | (simp; omega)) _) | (with_reducible refine Below.trans ?_ (Below.mono (by assumption) (by first | omega | (simp; done) | (simp; omega))))))⟩) | (exfalso; first | omega | (simp at *; omega) | (simp at *; done))
    · clear h
      have hd : (k == 0) = false := by simpa using h3
      clear h3
      go_enter Try.func34, Try.ntmps34
      go_wp2
      all_goals first | (go_ret; exact ⟨rfl, (by repeat (first | (with_reducible exact Below.refl _ _) | (with_reducible assumption) | (with_reducible refine Below.drew ?_) | (with_reducible refine Below_drewN ?_) | (with_reducible refine Below.alloc ?_ (by first | omega | (simp; done) | (simp; omega)) _) | (with_reducible refine Below.setCell ?_ (by first | omega | (simp; done) | (simp; omega)) _) | (with_reducible refine Below.trans ?_ (Below.mono (by assumption) (by first | omega | (simp; done) | (simp; omega))))))⟩) | (exfalso; first | omega | (simp at *; omega) | (simp at *; done))
    · clear h
      have hd : (b == 0) = false := by simpa using h4
      clear h4
      go_enter Try.func34, Try.ntmps34
      go_wp2
      all_goals first | (go_ret; exact ⟨rfl, (by repeat (first | (with_reducible exact Below.refl _ _) | (with_reducible assumption) | (with_reducible refine Below.drew ?_) | (with_reducible refine Below_drewN ?_) | (with_reducible refine Below.alloc ?_ (by first | omega | (simp; done) | (simp; omega)) _) | (with_reducible refine Below.setCell ?_ (by first | omega | (simp; done) | (simp; omega)) _) | (with_reducible refine Below.trans ?_ (Below.mono (by assumption) (by first | omega | (simp; done) | (simp; omega))))))⟩) | (exfalso; first | omega | (simp at *; omega) | (simp at *; done))

set_option maxHeartbeats 1000000 in
set_option maxRecDepth 100000 in
theorem Check1_yes (g : Int) (u : Bool) (k b : Int) (w : World) (h : SlMay ⟨g, u, k, b⟩) : Calls Try.prog 33 #[.agg #[.int .i64 g, .bool u, .int .i64 k, .int .i64 b]] w fun e w' => e = .returned (.bool false) ∧ Below w.heap.size w w' := by
  have H := Lib.hid h
  clear h
  go_enter Try.func33, Try.ntmps33
  go_wp2_with (go_at_call 34; refine (slot_yes _ _ _ _ _ H.out).mono ?_; rintro e w1 ⟨rfl, hb1⟩; obtain ⟨hc1, hf1⟩ := bcell hb1; have hz1 := blt hb1; have hy1 := hb1.size; (try simp at hy1))
  all_goals first | (go_ret; exact ⟨rfl, (by repeat (first | (with_reducible exact Below.refl _ _) | (with_reducible assumption) | (with_reducible refine Below.drew ?_) | (with_reducible refine Below_drewN ?_) | (with_reducible refine Below.alloc ?_ (by first | omega | (simp; done) | (simp; omega)) _) | (with_reducible refine Below.setCell ?_ (by first | omega | (simp; done) | (simp; omega)) _) | (with_reducible refine Below.trans ?_ (Below.mono (by assumption) (by first | omega | (simp; done) | (simp; omega))))))⟩) | (exfalso; first | omega | (simp at *; omega) | (simp at *; done))
set_option maxHeartbeats 1000000 in
set_option maxRecDepth 100000 in
theorem Check1_no (g : Int) (u : Bool) (k b : Int) (w : World) (h : ¬ SlMay ⟨g, u, k, b⟩) : Calls Try.prog 33 #[.agg #[.int .i64 g, .bool u, .int .i64 k, .int .i64 b]] w fun e w' => e = .returned (.bool true) ∧ Below w.heap.size w w' := by
  have H := Lib.hid h
  clear h
  go_enter Try.func33, Try.ntmps33
  go_wp2_with (go_at_call 34; refine (slot_no _ _ _ _ _ H.out).mono ?_; rintro e w1 ⟨rfl, hb1⟩; obtain ⟨hc1, hf1⟩ := bcell hb1; have hz1 := blt hb1; have hy1 := hb1.size; (try simp at hy1))
  all_goals first | (go_ret; exact ⟨rfl, (by repeat (first | (with_reducible exact Below.refl _ _) | (with_reducible assumption) | (with_reducible refine Below.drew ?_) | (with_reducible refine Below_drewN ?_) | (with_reducible refine Below.alloc ?_ (by first | omega | (simp; done) | (simp; omega)) _) | (with_reducible refine Below.setCell ?_ (by first | omega | (simp; done) | (simp; omega)) _) | (with_reducible refine Below.trans ?_ (Below.mono (by assumption) (by first | omega | (simp; done) | (simp; omega))))))⟩) | (exfalso; first | omega | (simp at *; omega) | (simp at *; done))
end Go.Proofs.Ytbemdijjdeimgaa
