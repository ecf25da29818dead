/- wire.get: its contract. -/
import Derived.Test.YtjfnnbbnkcdbcaaGet
namespace Go.Proofs.Ytjfnnbbnkcdbcaa
open Go.RowKit

theorem end_ge {R : List Int} {k : Nat} (hk : k ≤ endOf R) (h6 : k < 6) (hl : k < R.length) (hc : 128 ≤ R.getD k 0) : k + 1 ≤ endOf R := by
  obtain ⟨h1, h2, h3, h4⟩ := endF_at 6 R
  rcases Nat.lt_or_ge k (endOf R) with h | h
  · exact h
  · have e : endOf R = k := by omega
    unfold endOf at e
    rw [e] at h4
    have := h4 h6 hl
    omega
theorem end_eq {R : List Int} {k : Nat} (hk : k ≤ endOf R) (hc : ¬ 128 ≤ R.getD k 0) : endOf R = k := by
  obtain ⟨h1, h2, h3, h4⟩ := endF_at 6 R
  rcases Nat.lt_or_ge k (endOf R) with h | h
  · exact absurd (h3 k h) hc
  · omega
theorem end_le (R : List Int) : endOf R ≤ 6 ∧ endOf R ≤ R.length := ⟨(endF_at 6 R).1, (endF_at 6 R).2.1⟩
theorem byte_at {w : World} {v : Value} {R : List Int} (h : RowAt w 1 v (byts R)) : ∃ (a : Option Addr) (cap : Nat), v = .slice a R.length cap ∧ R.length ≤ cap ∧ cap ≤ maxLen ∧ (R ≠ [] → ∃ b off, a = some ⟨b, off, none⟩ ∧ b < w.heap.size ∧ ∀ i, i < R.length → w.cell? ⟨b, off + i, none⟩ = some (.int .u8 (R.getD i 0))) := by
  obtain ⟨a, cap, rfl, h1, h2, _, h6⟩ := RowAt_fn (f := fun x : Int => [Value.int .u8 x]) 0 h
  refine ⟨a, cap, rfl, by simpa [byts] using h1, h2, fun hne => ?_⟩
  obtain ⟨b, off, rfl, h7, h8⟩ := h6 hne
  exact ⟨b, off, rfl, h7, fun i hi => by have := h8 i 0 hi (by omega); simpa using this⟩

theorem wrap_sh (c : Int) (k : Nat) (hk : k ≤ 5) : wrap64 (c % 128 * 2 ^ (7 * k)) = 128 ^ k * (c % 128) := by
  have h : 0 ≤ c % 128 ∧ c % 128 < 128 := by omega
  generalize c % 128 = x at h ⊢
  rcases (show k = 0 ∨ k = 1 ∨ k = 2 ∨ k = 3 ∨ k = 4 ∨ k = 5 by omega) with rfl | rfl | rfl | rfl | rfl | rfl <;> simp [wrap64] <;> omega
set_option maxHeartbeats 8000000 in
set_option maxRecDepth 100000 in
theorem prog_get (v : Value) (R : List Int) (w : World) (hB : IsB R) (r : RowAt w 1 v (byts R)) :
    Calls Try.prog 35 #[v] w fun e w' => e = .returned (.tuple #[.int .i64 (if getC R = 0 then getV R else 0), .int .i64 (if getC R = 0 then ((endOf R + 1 : Nat) : Int) else 0), .int .i64 (getC R)]) ∧ Below w.heap.size w w' := by
  obtain ⟨n0, hn0⟩ : ∃ n0, n0 = (if getC R = 0 then getV R else 0) := ⟨_, rfl⟩
  obtain ⟨u0, hu0⟩ : ∃ u0, u0 = (if getC R = 0 then ((endOf R + 1 : Nat) : Int) else 0) := ⟨_, rfl⟩
  obtain ⟨c0, hc0⟩ : ∃ c0, c0 = getC R := ⟨_, rfl⟩
  rw [← hn0, ← hu0, ← hc0]
  have HN0 := Lib.hid hn0
  have HU0 := Lib.hid hu0
  have HC0 := Lib.hid hc0
  obtain ⟨a, cap, rfl, hlc, hcm, p⟩ := byte_at r
  have P := Lib.hid p
  have HIB := Lib.hid hB
  have hlm : (R.length : Int) ≤ 9223372036854775807 := by have := hcm; unfold maxLen at this; omega
  clear hn0 hu0 hc0 r p hB
  go_enter Try.func35, Try.ntmps35
  go_wp2_with fail
  go_loopw [2, 9] (fun n i wr => ∃ k : Nat, k ≤ endOf R ∧ i = .int .i64 k ∧ n = .int .i64 (numV (R.take k)) ∧ Below w.heap.size w wr) (fun _ i _ => R.length - (intOf i).toNat)
  case atStart => exact ⟨0, Nat.zero_le _, rfl, rfl, Below.refl _ _⟩
  case round =>
    obtain ⟨k, hk, rfl, rfl, hb⟩ := hrel
    have HK := Lib.hid hk
    obtain ⟨e6, el⟩ := end_le R
    rcases (show k = R.length ∨ (k < R.length ∧ k = 6) ∨ (k < R.length ∧ k < 6) by omega) with hx | ⟨hlt, h6⟩ | ⟨hlt, h6⟩
    · have hge : ¬ (k : Int) < (R.length : Int) := by omega
      have hc : c0 = 4 := by rw [HC0.out]; unfold getC; rw [if_neg (by omega), if_pos (by omega)]
      have hn : n0 = 0 := by rw [HN0.out, ← HC0.out, hc]; rfl
      have hu : u0 = 0 := by rw [HU0.out, ← HC0.out, hc]; rfl
      subst hc hn hu
      clear hk hx e6 el
      go_wp2
      (refine bodyPost_ret (v := .tuple #[.int .i64 0, .int .i64 0, .int .i64 4]) ?_ rfl ?_; (focus (first | (simp [results, Try.results35, go_sem]; done) | (simp [results, Try.results35, go_sem, *]; done))); exact ⟨rfl, (by repeat (first | (with_reducible exact Below.refl _ _) | (with_reducible assumption) | (with_reducible refine Below.drew ?_) | (with_reducible refine Below_drewN ?_) | (with_reducible refine Below.alloc ?_ (by first | omega | (simp; done) | (simp; omega)) _) | (with_reducible refine Below.setCell ?_ (by first | omega | (simp; done) | (simp; omega)) _) | (with_reducible refine Below.trans ?_ (Below.mono (by assumption) (by first | omega | (simp; done) | (simp; omega))))))⟩)
    · subst h6
      have hlt' : (6 : Int) < (R.length : Int) := by omega
      have hc : c0 = 2 := by rw [HC0.out]; unfold getC; rw [if_pos (by omega)]
      have hn : n0 = 0 := by rw [HN0.out, ← HC0.out, hc]; rfl
      have hu : u0 = 0 := by rw [HU0.out, ← HC0.out, hc]; rfl
      obtain ⟨b, o, rfl, hb0, q⟩ := P.out (by intro h; rw [h] at hlt; simp at hlt)
      have a0 := (hb.cell (p := ⟨b, o + 6, none⟩) hb0).trans (q 6 hlt)
      subst hc hn hu
      clear hk e6 el q
      go_wp2
      (refine bodyPost_ret (v := .tuple #[.int .i64 0, .int .i64 0, .int .i64 2]) ?_ rfl ?_; (focus (first | (simp [results, Try.results35, go_sem]; done) | (simp [results, Try.results35, go_sem, *]; done))); exact ⟨rfl, (by repeat (first | (with_reducible exact Below.refl _ _) | (with_reducible assumption) | (with_reducible refine Below.drew ?_) | (with_reducible refine Below_drewN ?_) | (with_reducible refine Below.alloc ?_ (by first | omega | (simp; done) | (simp; omega)) _) | (with_reducible refine Below.setCell ?_ (by first | omega | (simp; done) | (simp; omega)) _) | (with_reducible refine Below.trans ?_ (Below.mono (by assumption) (by first | omega | (simp; done) | (simp; omega))))))⟩)
    · have hlt' : (k : Int) < (R.length : Int) := by omega
      have h6' : (k == 6) = false := by simp; omega
      have h6i : ((k : Int) == 6) = false := by simp; omega
      obtain ⟨b, o, rfl, hb0, q⟩ := P.out (by intro h; rw [h] at hlt; simp at hlt)
      have a0 := (hb.cell (p := ⟨b, o + k, none⟩) hb0).trans (q k hlt)
      obtain ⟨c, hcR⟩ : ∃ c, c = R.getD k 0 := ⟨_, rfl⟩
      have hcb : 0 ≤ c ∧ c ≤ 255 := by rw [hcR]; exact HIB.out _ (by simp only [List.getD, List.getElem?_eq_getElem hlt, Option.getD_some]; exact List.getElem_mem _)
      rw [← hcR] at a0
      have HCR := Lib.hid hcR
      obtain ⟨V, hV⟩ : ∃ V, V = numV (R.take k) := ⟨_, rfl⟩
      have hVb := numV_bd (R.take k)
      rw [← hV, List.length_take, Nat.min_eq_left (by omega)] at hVb
      have HV : Hid (numV (R.take (k + 1)) = V + 128 ^ k * (c % 128)) := by
        show _ = _
        rw [take_snocI hlt, numV_snoc, ← hV, List.length_take, Nat.min_eq_left (by omega), ← hcR]
      have HVV := Lib.hid hV
      rw [← hV]
      have hand := and_bits c hcb.1 hcb.2
      obtain ⟨V1, hV1⟩ : ∃ V1, V1 = V + 128 ^ k * (c % 128) := ⟨_, rfl⟩
      have hsh : bits BinOp.or IntKind.i64 V (wrap64 (c % 128 * 2 ^ (7 * k))) = V1 := by
        rw [hV1, ← or_add V (c % 128) k (by omega) hVb.1 hVb.2 (by omega) (by omega)]
        congr 1
        exact wrap_sh c k (by omega)
      have HV1 : Hid (numV (R.take (k + 1)) = V1) := by show _ = _; rw [HV.out, hV1]
      clear hcR q hV hk e6 el HV hV1 hVb
      rcases (show 128 ≤ c ∨ (c = 0 ∧ 0 < k) ∨ (c = 0 ∧ k = 0) ∨ (0 < c ∧ c < 128) by omega) with hc | ⟨hc, h0⟩ | ⟨hc, h0⟩ | ⟨hc, h0⟩
      · have hdl : decide (c < 128) = false := by simpa using hc
        have hdl2 : ¬ c < 128 := by omega
        have HN : Hid (k + 1 ≤ endOf R) := end_ge HK.out h6 hlt (by rw [← HCR.out]; exact hc)
        go_wp2
        go_roundw
        case rel => exact ⟨k + 1, HN.out, by go_num, by rw [HV1.out], hb⟩
        case measure => simp [intOf]; omega
      · subst hc
        have hk0 : (0 : Int) < (k : Int) := by omega
        have he : endOf R = k := end_eq HK.out (by rw [← HCR.out]; omega)
        have hc : c0 = 3 := by rw [HC0.out]; unfold getC; rw [if_neg (by omega), if_neg (by omega), he, ← HCR.out, if_pos ⟨rfl, h0⟩]
        have hn : n0 = 0 := by rw [HN0.out, ← HC0.out, hc]; rfl
        have hu : u0 = 0 := by rw [HU0.out, ← HC0.out, hc]; rfl
        subst hc hn hu
        clear he
        go_wp2
        (refine bodyPost_ret (v := .tuple #[.int .i64 0, .int .i64 0, .int .i64 3]) ?_ rfl ?_; (focus (first | (simp [results, Try.results35, go_sem]; done) | (simp [results, Try.results35, go_sem, *]; done))); exact ⟨rfl, (by repeat (first | (with_reducible exact Below.refl _ _) | (with_reducible assumption) | (with_reducible refine Below.drew ?_) | (with_reducible refine Below_drewN ?_) | (with_reducible refine Below.alloc ?_ (by first | omega | (simp; done) | (simp; omega)) _) | (with_reducible refine Below.setCell ?_ (by first | omega | (simp; done) | (simp; omega)) _) | (with_reducible refine Below.trans ?_ (Below.mono (by assumption) (by first | omega | (simp; done) | (simp; omega))))))⟩)
      · subst hc
        have hk0 : ¬ 0 < k := by omega
        have hki : ¬ (0 : Int) < (k : Int) := by omega
        have he : endOf R = k := end_eq HK.out (by rw [← HCR.out]; omega)
        have hc : c0 = 0 := by rw [HC0.out]; unfold getC; rw [if_neg (by omega), if_neg (by omega), if_neg (by omega)]
        have hn : n0 = V1 := by rw [HN0.out, ← HC0.out, hc, if_pos rfl]; unfold getV; rw [he]; exact HV1.out
        have hu : u0 = (k : Int) + 1 := by rw [HU0.out, ← HC0.out, hc, if_pos rfl, he]; rfl
        have hsh' : bits BinOp.or IntKind.i64 V (wrap64 0) = V1 := by simpa using hsh
        have hsh2 : bits BinOp.or IntKind.i64 V 0 = V1 := by simpa [wrap64] using hsh'
        subst hc hn hu
        clear he h0
        go_wp2
        (refine bodyPost_ret (v := .tuple #[.int .i64 n0, .int .i64 ((k : Int) + 1), .int .i64 0]) ?_ rfl ?_; (focus (first | (simp [results, Try.results35, go_sem]; done) | (simp [results, Try.results35, go_sem, *]; done))); exact ⟨rfl, (by repeat (first | (with_reducible exact Below.refl _ _) | (with_reducible assumption) | (with_reducible refine Below.drew ?_) | (with_reducible refine Below_drewN ?_) | (with_reducible refine Below.alloc ?_ (by first | omega | (simp; done) | (simp; omega)) _) | (with_reducible refine Below.setCell ?_ (by first | omega | (simp; done) | (simp; omega)) _) | (with_reducible refine Below.trans ?_ (Below.mono (by assumption) (by first | omega | (simp; done) | (simp; omega))))))⟩)
      · have hdl : decide (c < 128) = true := by simpa using h0
        have hz : (c == 0) = false := by simp; omega
        have he : endOf R = k := end_eq HK.out (by rw [← HCR.out]; omega)
        have hc : c0 = 0 := by rw [HC0.out]; unfold getC; rw [if_neg (by omega), if_neg (by omega), he, ← HCR.out, if_neg (by omega)]
        have hn : n0 = V1 := by rw [HN0.out, ← HC0.out, hc, if_pos rfl]; unfold getV; rw [he]; exact HV1.out
        have hu : u0 = (k : Int) + 1 := by rw [HU0.out, ← HC0.out, hc, if_pos rfl, he]; rfl
        subst hc hn hu
        clear he
        go_wp2
        (refine bodyPost_ret (v := .tuple #[.int .i64 n0, .int .i64 ((k : Int) + 1), .int .i64 0]) ?_ rfl ?_; (focus (first | (simp [results, Try.results35, go_sem]; done) | (simp [results, Try.results35, go_sem, *]; done))); exact ⟨rfl, (by repeat (first | (with_reducible exact Below.refl _ _) | (with_reducible assumption) | (with_reducible refine Below.drew ?_) | (with_reducible refine Below_drewN ?_) | (with_reducible refine Below.alloc ?_ (by first | omega | (simp; done) | (simp; omega)) _) | (with_reducible refine Below.setCell ?_ (by first | omega | (simp; done) | (simp; omega)) _) | (with_reducible refine Below.trans ?_ (Below.mono (by assumption) (by first | omega | (simp; done) | (simp; omega))))))⟩)
end Go.Proofs.Ytjfnnbbnkcdbcaa
