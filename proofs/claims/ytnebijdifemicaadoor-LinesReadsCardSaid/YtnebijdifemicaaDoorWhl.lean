/- usherref.whole: what it answers. -/
import Derived.Test.YtnebijdifemicaaDoorRpe
namespace Go.Proofs.YtnebijdifemicaaDoor
open Go.RowKit
/-- A number's digits, ten at most; -1: none. -/
def whlV (s : List UInt8) : Int := if s = [] ∨ 10 < s.length ∨ (s.getD 0 0 = 48 ∧ 1 < s.length) then -1 else match Lib.decFrom 0 s with
  | none => -1
  | some n => (n : Int)
theorem run_index_str {s : List UInt8} {k : Nat} {c : UInt8} (hk : k < s.length) (hc : c = s.getD k 0) : ∀ W, (Instr.index 9 (.string ⟨s.toArray⟩) (.int .i64 (k : Int))).run Tryd.prog W = .ok (.int .u8 (c.toNat : Int)) W := by
  intro W
  have hs : (⟨s.toArray⟩ : ByteArray).size = s.length := List.size_toArray ..
  rw [run_index_string (P := Tryd.prog) (w := W) 9 ⟨s.toArray⟩ .i64 k Tryd.underlying9, dif_pos ⟨by omega, by omega⟩]
  have : (⟨s.toArray⟩ : ByteArray)[((k : Int)).toNat]'(by rw [hs]; omega) = c := by
    show s.toArray[((k : Int)).toNat]'_ = c
    rw [hc]
    simp [List.getD, hk]
  rw [this]
theorem decFrom_none_app {a b : List UInt8} {acc : Nat} (h : Lib.decFrom acc a = none) : Lib.decFrom acc (a ++ b) = none := by
  rw [decFrom_app, h]; rfl
theorem take_succ_get {s : List UInt8} {k : Nat} {c : UInt8} (hk : k < s.length) (hc : c = s.getD k 0) : s.take (k + 1) = s.take k ++ [c] := by
  rw [hc, List.take_add_one]
  simp [List.getD, hk]
theorem split_at {s : List UInt8} {k : Nat} {c : UInt8} (hk : k < s.length) (hc : c = s.getD k 0) : s = (s.take k ++ [c]) ++ s.drop (k + 1) := by
  rw [← take_succ_get hk hc, List.take_append_drop]
theorem pow_ten {k : Nat} (h : k ≤ 9) : (10 : Nat) ^ (k + 1) ≤ 10000000000 := Nat.le_trans (Nat.pow_le_pow_right (by decide) (show k + 1 ≤ 10 by omega)) (by decide)
set_option maxHeartbeats 4000000 in
set_option maxRecDepth 100000 in
theorem ref_whole (s : List UInt8) (hs : s.length ≤ 200000) (w : World) : Calls Tryd.prog 36 #[.string ⟨s.toArray⟩] w fun e w' => e = .returned (.int .i64 (whlV s)) ∧ w' = w := by
  rcases (show s.length = 0 ∨ 10 < s.length ∨ (0 < s.length ∧ s.length ≤ 10) by omega) with h0 | h1 | ⟨h1, h2⟩
  · have hv : whlV s = -1 := by unfold whlV; rw [if_pos (Or.inl (List.length_eq_zero_iff.1 h0))]
    have HV := Lib.hid hv
    have hz : ((s.length : Int) == 0) = true := by rw [beq_iff_eq]; omega
    clear hv h0
    go_enter Tryd.func36, Tryd.ntmps36
    go_wp2
    go_ret
    exact ⟨rI HV.out.symm, rfl⟩
  · have hv : whlV s = -1 := by unfold whlV; rw [if_pos (Or.inr (Or.inl h1))]
    have HV := Lib.hid hv
    have hz : ((s.length : Int) == 0) = false := by rw [beq_eq_false_iff_ne]; omega
    have h1' : (10 : Int) < (s.length : Int) := by omega
    clear hv
    go_enter Tryd.func36, Tryd.ntmps36
    go_wp2
    go_ret
    exact ⟨rI HV.out.symm, rfl⟩
  · have hz : ((s.length : Int) == 0) = false := by rw [beq_eq_false_iff_ne]; omega
    have h2' : ¬ (10 : Int) < (s.length : Int) := by omega
    obtain ⟨c0, hc0⟩ : ∃ c, c = s.getD 0 0 := ⟨_, rfl⟩
    have g0 := run_index_str h1 hc0
    simp only [Int.cast_ofNat_Int] at g0
    obtain ⟨d0, hd0⟩ : ∃ d : Int, d = (c0.toNat : Int) := ⟨_, rfl⟩
    rw [← hd0] at g0
    by_cases hb : c0 = 48 ∧ 1 < s.length
    · have hv : whlV s = -1 := by unfold whlV; rw [if_pos (Or.inr (Or.inr ⟨by rw [← hc0]; exact hb.1, hb.2⟩))]
      have HV := Lib.hid hv
      have e0 : (d0 == 48) = true := by rw [hd0, hb.1]; decide
      have h3 : (1 : Int) < (s.length : Int) := by have := hb.2; omega
      clear hv hb hd0 hc0
      go_enter Tryd.func36, Tryd.ntmps36
      go_wp2
      go_ret
      exact ⟨rI HV.out.symm, rfl⟩
    · have hv : whlV s = match Lib.decFrom 0 s with
          | none => -1
          | some n => (n : Int) := by
        unfold whlV; rw [if_neg]
        rintro (h | h | h)
        · rw [h] at h1; simp at h1
        · omega
        · exact hb ⟨by rw [hc0]; exact h.1, h.2⟩
      have HV := Lib.hid hv
      have hor : (d0 == 48) = false ∨ ((d0 == 48) = true ∧ ¬ (1 : Int) < (s.length : Int)) := by
        by_cases h : d0 = 48
        · refine Or.inr ⟨by simp [h], fun h3 => hb ⟨?_, by omega⟩⟩
          rw [hd0] at h
          exact UInt8.toNat_inj.1 (by rw [show (48 : UInt8).toNat = 48 from rfl]; omega)
        · exact Or.inl (by simp [h])
      clear hv hb hd0 hc0
      rcases hor with e0 | ⟨e0, e1⟩
      all_goals (
        go_enter Tryd.func36, Tryd.ntmps36
        go_wp2
        go_loop [3, 4] (fun n i => ∃ k acc : Nat, k ≤ s.length ∧ i = .int .i64 k ∧ n = .int .i64 acc ∧ Lib.decFrom 0 (s.take k) = some acc ∧ acc < 10 ^ k) (fun _ i => s.length - (intOf i).toNat)
        case atStart => exact ⟨0, 0, Nat.zero_le _, rfl, rfl, rfl, by decide⟩
        case round =>
          obtain ⟨k, acc, hk, rfl, rfl, hdf, hac⟩ := hrel
          have HDf := Lib.hid hdf
          have HAc := Lib.hid hac
          clear hdf
          rcases (show k < s.length ∨ k = s.length by omega) with hlt | heq
          · have hlt' : (k : Int) < (s.length : Int) := by omega
            obtain ⟨c, hc⟩ : ∃ c, c = s.getD k 0 := ⟨_, rfl⟩
            have gk := run_index_str hlt hc
            have hsp := split_at hlt hc
            have htk := take_succ_get hlt hc
            have hcl := c.toNat_lt
            have hp := pow_ten (k := k) (by omega)
            have hacb : acc < 10000000000 := Nat.lt_of_lt_of_le hac (Nat.le_trans (Nat.pow_le_pow_right (by decide) (Nat.le_succ k)) hp)
            obtain ⟨d, hd⟩ : ∃ d : Int, d = (c.toNat : Int) := ⟨_, rfl⟩
            rw [← hd] at gk
            have hn : ¬ (48 ≤ c.toNat ∧ c.toNat ≤ 57) → Hid (whlV s = -1) := by
              intro hno
              show whlV s = -1
              rw [HV.out, hsp, decFrom_none_app]
              rw [decFrom_app, HDf.out]
              simp [Lib.decFrom, Lib.digitVal, hno]
            rcases (show c.toNat < 48 ∨ 57 < c.toNat ∨ (48 ≤ c.toNat ∧ c.toNat ≤ 57) by omega) with q | q | q
            · have q1 : d < 48 := by omega
              have HN := hn (by omega)
              clear hn hsp htk hc hd hac
              go_wp2
              go_ret
              exact ⟨rI HN.out.symm, rfl⟩
            · have q1 : ¬ d < 48 := by omega
              have q2 : 57 < d := by omega
              have HN := hn (by omega)
              clear hn hsp htk hc hd hac
              go_wp2
              go_ret
              exact ⟨rI HN.out.symm, rfl⟩
            · have q1 : ¬ d < 48 := by omega
              have q2 : ¬ 57 < d := by omega
              have q3 : IntKind.u8.wrap (d - 48) = d - 48 := by simp [IntKind.wrap, IntKind.bits, IntKind.signed]; omega
              obtain ⟨a2, ha2⟩ : ∃ a, a = acc * 10 + (c.toNat - 48) := ⟨_, rfl⟩
              have HN : Hid (Lib.decFrom 0 (s.take (k + 1)) = some a2) := by
                show _ = _
                rw [htk, decFrom_app, HDf.out, ha2]
                simp [Lib.decFrom, Lib.digitVal, q]
              have HA : Hid (a2 < 10 ^ (k + 1)) := by show _ < _; rw [Nat.pow_succ]; have := HAc.out; omega
              have hw1 : IntKind.i64.wrap (10 * (acc : Int)) = 10 * (acc : Int) := by rw [IntKind.wrap_i64]; omega
              have hw2 : IntKind.i64.wrap (10 * (acc : Int) + (d - 48)) = (a2 : Int) := by rw [IntKind.wrap_i64]; omega
              have hw3 : wrap64 (d - 48) = d - 48 := IntWalk.wrap64_in _ (by omega)
              clear hn hsp htk hc hac hp
              go_wp2
              go_round
              case rel => exact ⟨k + 1, a2, by omega, by go_num, by go_num, HN.out, HA.out⟩
              case measure => simp [intOf]; omega
          · have hge : ¬ (k : Int) < (s.length : Int) := by omega
            have HN : Hid (whlV s = (acc : Int)) := by
              show _ = _
              have h := HDf.out
              rw [heq, List.take_length] at h
              rw [HV.out, h]
            clear heq
            go_wp2
            go_ret
            exact ⟨rI HN.out.symm, rfl⟩)
theorem dec_le10 {n : Nat} (h : n ≤ 4294967295) : (Lib.decDigits n).length ≤ 10 := dec_len 10 n (by omega) (by omega)
theorem decFrom_ge : ∀ (l : List UInt8) (acc n : Nat), Lib.decFrom acc l = some n → acc ≤ n
  | [], acc, n, h => by simp [Lib.decFrom] at h; omega
  | b :: r, acc, n, h => by
    unfold Lib.decFrom at h
    cases hd : Lib.digitVal b with
    | none => rw [hd] at h; cases h
    | some d => rw [hd] at h; have := decFrom_ge r _ _ h; omega
/-- What spells n without noughts ahead is n's digits. -/
theorem decFrom_digits : ∀ (k : Nat) (s : List UInt8) (n : Nat), s.length = k → s ≠ [] → ¬ (s.getD 0 0 = 48 ∧ 1 < s.length) → Lib.decFrom 0 s = some n → s = Lib.decDigits n := by
  intro k
  induction k with
  | zero => intro s n h1 h2; exact absurd (List.length_eq_zero_iff.1 h1) h2
  | succ k ih =>
    intro s n h1 h2 h3 h4
    obtain ⟨t, c, rfl⟩ : ∃ t c, s = t ++ [c] := ⟨s.dropLast, s.getLast h2, (List.dropLast_concat_getLast h2).symm⟩
    rw [decFrom_app] at h4
    rw [List.length_append, List.length_singleton] at h1
    have hc : ∀ m, Lib.decFrom m [c] = some n → ∃ d, d < 10 ∧ n = m * 10 + d ∧ c = UInt8.ofNat (48 + d) := by
      intro m h
      simp only [Lib.decFrom] at h
      unfold Lib.digitVal at h
      split at h
      · rename_i d hd
        split at hd
        · rename_i hq
          cases hd
          cases h
          refine ⟨c.toNat - 48, by omega, rfl, ?_⟩
          apply UInt8.toNat_inj.1
          rw [UInt8.toNat_ofNat', Nat.mod_eq_of_lt (by omega)]; omega
        · cases hd
      · cases h
    by_cases ht : t = []
    · subst ht
      obtain ⟨d, hd, rfl, rfl⟩ := hc 0 (by simpa [Lib.decFrom] using h4)
      rw [Nat.zero_mul, Nat.zero_add, Lib.decDigits_one hd]
      rfl
    · cases hm : Lib.decFrom 0 t with
      | none => rw [hm] at h4; cases h4
      | some m =>
        rw [hm, Option.bind_some] at h4
        obtain ⟨d, hd, rfl, rfl⟩ := hc m h4
        have hl : 0 < t.length := List.length_pos_iff.2 ht
        have h0 : (t ++ [UInt8.ofNat (48 + d)]).getD 0 0 = t.getD 0 0 := by
          rw [List.getD, List.getElem?_append_left hl]; rfl
        have hn0 : ¬ t.getD 0 0 = 48 := fun e => h3 ⟨h0.trans e, by rw [List.length_append, List.length_singleton]; omega⟩
        have hti := ih t m (by omega) ht (fun e => hn0 e.1) hm
        have hm0 : 0 < m := by
          rcases Nat.eq_zero_or_pos m with rfl | h
          · rw [hti] at hn0
            exact absurd (by rw [Lib.decDigits_one (by decide)]; rfl) hn0
          · exact h
        conv => rhs; rw [Lib.decDigits]
        rw [dif_neg (by omega), show (m * 10 + d) / 10 = m by omega, show (m * 10 + d) % 10 = d by omega, ← hti]
theorem whl_some {s : List UInt8} (h : 0 ≤ whlV s) : s = Lib.itoa (whlV s) := by
  unfold whlV at h ⊢
  split
  · rename_i h1; rw [if_pos h1] at h; omega
  · rename_i h1
    rw [if_neg h1] at h
    cases hd : Lib.decFrom 0 s with
    | none => rw [hd] at h; simp at h
    | some n =>
      simp only
      rw [Lib.itoa_nonneg]
      exact decFrom_digits _ s n rfl (fun e => h1 (Or.inl e)) (fun e => h1 (Or.inr (Or.inr e))) hd
theorem dec_head {n : Nat} (h : (Lib.decDigits n).getD 0 0 = 48) : (Lib.decDigits n).length ≤ 1 := by
  induction n using Nat.strongRecOn with
  | _ n ih =>
    rw [Lib.decDigits] at h ⊢
    by_cases hn : n < 10
    · rw [dif_pos hn]; simp
    · rw [dif_neg hn]
      rw [dif_neg hn] at h
      have hl : 0 < (Lib.decDigits (n / 10)).length := List.length_pos_iff.2 (dec_ne _)
      have h' : (Lib.decDigits (n / 10)).getD 0 0 = 48 := by
        rw [List.getD, List.getElem?_append_left hl] at h; exact h
      have h1 := ih (n / 10) (by omega) h'
      have h2 : (Lib.decDigits (n / 10)) = [48] := by
        match hq : Lib.decDigits (n / 10), hl with
        | [b], _ => rw [hq] at h'; simp at h'; rw [h']
        | b :: c :: r, _ => rw [hq] at h1; simp at h1
      have h3 := dec_val (n / 10)
      rw [h2] at h3
      have : (0 : Nat) = n / 10 := by simpa [Lib.decFrom, Lib.digitVal] using h3
      omega
theorem whl_itoa {n : Int} (h : 0 ≤ n ∧ n ≤ 4294967295) : whlV (Lib.itoa n) = n := by
  obtain ⟨m, rfl⟩ := Int.eq_ofNat_of_zero_le h.1
  rw [Lib.itoa_nonneg]
  unfold whlV
  rw [if_neg, dec_val]
  rintro (e | e | e)
  · exact dec_ne _ e
  · have := dec_le10 (n := m) (by omega); omega
  · have := dec_head e.1; omega
end Go.Proofs.YtnebijdifemicaaDoor
