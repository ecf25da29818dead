/- health.fails, usherref.HoldOf, health.Note: their contracts. -/
import Derived.Test.YtjnfnmbkmgjdlaaBack
import Derived.Deep.RegionLaw
namespace Go.Proofs.Ytjnfnmbkmgjdlaa
open Go.RowKit

/-- How many failed. -/
def nfail (M : List Bool) : Nat := M.countP id
theorem nfail_snoc {M : List Bool} {k : Nat} (hk : k < M.length) : nfail (M.take (k + 1)) = nfail (M.take k) + if M.getD k false then 1 else 0 := by
  unfold nfail
  rw [List.take_succ_eq_append_getElem hk, List.countP_append, List.countP_singleton]
  simp [List.getD, hk]
theorem nfail_le (M : List Bool) : nfail M ≤ M.length := List.countP_le_length

set_option maxHeartbeats 2000000 in
set_option maxRecDepth 100000 in
theorem prog_fails (v : Value) (M : List Bool) (w : World) (r : RowAt w 1 v (bcells M)) (hn : M.length ≤ 140737488351232) :
    Calls Try.prog 32 #[v] w fun e w' => e = .returned (.int .i64 (nfail M)) ∧ w = w' := by
  obtain ⟨a, c, rfl, l, m, n, p⟩ := RowAt_fn (f := fun b => [Value.bool b]) false r
  have P := Lib.hid p
  clear r p l m n
  go_enter Try.func32, Try.ntmps32
  go_wp2
  go_loop [3, 5, 8] (fun q _ i => ∃ k : Nat, k ≤ M.length ∧ i = .int .i64 k ∧ q = .int .i64 (nfail (M.take k))) (fun _ _ i => M.length - (intOf i).toNat)
  case atStart => exact ⟨0, Nat.zero_le _, rfl, rfl⟩
  case round =>
    obtain ⟨k, hk, rfl, rfl⟩ := hrel
    have hle := nfail_le (M.take k)
    have hle2 : (M.take k).length ≤ k := by simp; omega
    rcases (show k < M.length ∨ M.length = k by omega) with hlt | heq
    · have hlt' : (k : Int) < (M.length : Int) := by omega
      obtain ⟨b0, o0, rfl, hb0, q⟩ := P.out (by intro h; rw [h] at hlt; simp at hlt)
      have a0 := q k 0 hlt (by omega)
      have hs := Lib.hid (nfail_snoc hlt)
      obtain ⟨x, hx⟩ : ∃ x, x = M.getD k false := ⟨_, rfl⟩
      rw [← hx] at hs a0
      simp only [List.getElem?_cons_zero, Nat.mul_one, Nat.add_zero] at a0
      clear hx q
      cases x with
      | true =>
        go_wp2
        go_round
        case rel => exact ⟨k + 1, by omega, by go_num, by rw [hs.out]; simp⟩
        case measure => simp [intOf]; omega
      | false =>
        go_wp2
        go_round
        case rel => exact ⟨k + 1, by omega, by go_num, by rw [hs.out]; simp⟩
        case measure => simp [intOf]; omega
    · have hge : ¬ (k : Int) < (M.length : Int) := by omega
      have HE : Hid (nfail M = nfail (M.take k)) := by rw [List.take_of_length_le (by omega)]; rfl
      clear heq
      go_wp2
      all_goals first | (go_ret; exact ⟨rI (by rw [HE.out]), rfl⟩) | (exfalso; first | omega | (simp at *; omega) | (simp at *; done))

theorem pow_up {c : Int} {j n : Nat} (hc : 0 ≤ c) (h : j ≤ n) : c * 2 ^ j ≤ c * 2 ^ n := by
  obtain ⟨m, rfl⟩ : ∃ m, n = j + m := ⟨n - j, by omega⟩
  rw [Int.pow_add, ← Int.mul_assoc]
  have h1 : (1 : Int) ≤ 2 ^ m := by
    have := Nat.one_le_two_pow (n := m)
    exact_mod_cast this
  have h0 : 0 ≤ c * 2 ^ j := Int.mul_nonneg hc (Int.pow_nonneg (by omega))
  have := Int.mul_le_mul_of_nonneg_left h1 h0
  omega
/-- P10.3: the hold. -/
def holdV (c t : Int) : Int := min (c * 2 ^ t.toNat) 500
set_option maxHeartbeats 2000000 in
set_option maxRecDepth 100000 in
theorem ref_HoldOf (c : Int) (n : Nat) (w : World) (h1 : 1 ≤ c) (h2 : c ≤ 500) (hn : n ≤ 10) : Calls Try.prog 34 #[.int .i64 c, .int .i64 n] w fun e w' => e = .returned (.int .i64 (holdV c n)) ∧ w = w' := by
  have hn' : (n : Int) ≤ 10 := by omega
  go_enter Try.func34, Try.ntmps34
  go_wp2
  go_loop [0, 5] (fun q i => ∃ k : Nat, k ≤ n ∧ i = .int .i64 k ∧ q = .int .i64 (c * 2 ^ k) ∧ c * 2 ^ k ≤ 500) (fun _ i => n - (intOf i).toNat)
  case atStart => exact ⟨0, Nat.zero_le _, rfl, by simp, by simpa using h2⟩
  case round =>
    obtain ⟨k, hk, rfl, rfl, hq⟩ := hrel
    obtain ⟨q, hq2⟩ : ∃ q, q = c * 2 ^ k := ⟨_, rfl⟩
    have hq0 : 0 ≤ q := by rw [hq2]; exact Int.mul_nonneg (by omega) (Int.pow_nonneg (by omega))
    rw [← hq2] at hq ⊢
    have HQ := Lib.hid hq2
    have e2 : Hid (c * 2 ^ (k + 1) = 2 * q) := by rw [hq2, Int.pow_succ, ← Int.mul_assoc]; simp [Hid]; omega
    clear hq2
    rcases (show k < n ∨ n = k by omega) with hlt | heq
    · have hlt' : (k : Int) < (n : Int) := by omega
      by_cases hb : 500 < 2 * q
      · have HV : Hid (holdV c n = 500) := by
          have h3 : c * 2 ^ (k + 1) ≤ c * 2 ^ n := pow_up (by omega) (by omega)
          rw [e2.out] at h3
          simp only [Hid, holdV, Int.toNat_natCast]; omega
        go_wp2
        all_goals first | (go_ret; exact ⟨rI HV.out.symm, rfl⟩) | (exfalso; first | omega | (simp at *; omega) | (simp at *; done))
      · have hb' : 2 * q ≤ 500 := by omega
        go_wp2
        go_round
        case rel => exact ⟨k + 1, by omega, by go_num, by rw [e2.out], by rw [e2.out]; omega⟩
        case measure => simp [intOf]; omega
    · have hge : ¬ (k : Int) < (n : Int) := by omega
      have HV : Hid (holdV c n = q) := by
        simp only [Hid, holdV, Int.toNat_natCast]
        rw [heq, ← HQ.out]; omega
      clear heq
      go_wp2
      all_goals first | (go_ret; exact ⟨rI HV.out.symm, rfl⟩) | (exfalso; first | omega | (simp at *; omega) | (simp at *; done))

/-- The marks behind one more outcome: the last so many. -/
def marksL (M : List Bool) (failed : Bool) (a : Int) : List Bool := (M ++ [failed]).drop ((M.length + 1 : Nat) - a.toNat)
/-- What Note answers. -/
def NoteAns (a b c : Int) (M : List Bool) (out : Bool) (u t : Int) (failed : Bool) (now : Int) (may : Bool) (M' : List Bool) (out' : Bool) (u' t' : Int) (came : Bool) (code : Int) : Prop :=
  HtCode a b c M.length out u t now code ∧ ((code ≠ 0 ∧ M' = [] ∧ out' = false ∧ u' = 0 ∧ t' = 0 ∧ came = false) ∨
    (code = 0 ∧ out = false ∧ may = true ∧ b ≤ nfail (marksL M failed a) ∧ M' = [] ∧ out' = true ∧ u' = now + holdV c t ∧ t' = min (t + 1) 10 ∧ came = true) ∨
    (code = 0 ∧ (out = true ∨ (out = false ∧ may = false) ∨ (out = false ∧ may = true ∧ (nfail (marksL M failed a) : Int) < b)) ∧ M' = marksL M failed a ∧ out' = out ∧ u' = u ∧ t' = t ∧ came = false))
theorem NoteAns_total (a b c : Int) (M : List Bool) (out : Bool) (u t : Int) (failed : Bool) (now : Int) (may : Bool) : ∃ M' out' u' t' came code, NoteAns a b c M out u t failed now may M' out' u' t' came code := by
  obtain ⟨code, h⟩ := HtCode_total a b c M.length out u t now
  by_cases hc : code = 0
  · cases out with
    | true => exact ⟨_, _, _, _, _, code, h, Or.inr (Or.inr ⟨hc, Or.inl rfl, rfl, rfl, rfl, rfl, rfl⟩)⟩
    | false =>
      cases may with
      | false => exact ⟨_, _, _, _, _, code, h, Or.inr (Or.inr ⟨hc, Or.inr (Or.inl ⟨rfl, rfl⟩), rfl, rfl, rfl, rfl, rfl⟩)⟩
      | true =>
        by_cases hb : b ≤ nfail (marksL M failed a)
        · exact ⟨_, _, _, _, _, code, h, Or.inr (Or.inl ⟨hc, rfl, rfl, hb, rfl, rfl, rfl, rfl, rfl⟩)⟩
        · exact ⟨_, _, _, _, _, code, h, Or.inr (Or.inr ⟨hc, Or.inr (Or.inr ⟨rfl, rfl, by omega⟩), rfl, rfl, rfl, rfl, rfl⟩)⟩
  · exact ⟨_, _, _, _, _, code, h, Or.inl ⟨hc, rfl, rfl, rfl, rfl, rfl⟩⟩
theorem HtCode_ok {a b c : Int} {n : Nat} {out : Bool} {u t now : Int} (h : HtCode a b c n out u t now 0) : WatMay a b c ∧ 0 ≤ now ∧ now ≤ 1099511627776 ∧ HtOk a n out u t := by
  rcases h with ⟨_, h⟩ | ⟨_, _, h⟩ | ⟨_, _, _, _, h⟩ | ⟨h1, h2, h3, h4, _⟩
  · omega
  · omega
  · omega
  · exact ⟨h1, h2, h3, h4⟩
end Go.Proofs.Ytjnfnmbkmgjdlaa
