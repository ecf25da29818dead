/- How an event is read (P2.3), in plain words. -/
import Derived.Test.YtjfnnbbnkcdbcaaGetP
namespace Go.Proofs.Ytjfnnbbnkcdbcaa
open Go.RowKit

def FD.lh (f : FD) : Int × Int := (f.lo, f.hi)
def evZ (kd : Int) : Ev := ⟨kd, 0, 0, 0, false, 0, 0, 0⟩
def rd : List (Int × Int) → List Int → List Int → Int × List Int
  | [], R, acc => if R.length = 0 then (0, acc) else (3, acc)
  | (lo, hi) :: F, R, acc => if getC R ≠ 0 then (getC R, acc) else if getV R < lo ∨ hi < getV R then (2, acc) else rd F (R.drop (endOf R + 1)) (acc ++ [getV R])
def evD (kd : Int) (acc : List Int) : Ev :=
  if kd = 1 then ⟨kd, acc.getD 0 0, 0, 0, false, 0, 0, 0⟩
  else if kd = 2 ∨ kd = 3 ∨ kd = 4 then ⟨kd, 0, acc.getD 0 0, acc.getD 1 0, false, 0, 0, 0⟩
  else if kd = 5 ∨ kd = 6 then ⟨kd, 0, 0, 0, false, acc.getD 0 0, acc.getD 1 0, acc.getD 2 0⟩
  else ⟨kd, 0, 0, 0, false, 0, 0, 0⟩
def goodD (kd : Int) (acc : List Int) : Int := if kd = 4 then acc.getD 2 0 else 0
def decX (kd : Int) (acc : List Int) : Ev := { evD kd acc with good := decide (goodD kd acc = 1) }
def bnds (kd : Int) : List (Int × Int) := (evF (evZ kd) 0 0 0).map FD.lh
theorem bnds_any (kd : Int) (be bg : Nat) : (evF (evZ kd) be bg 0).map FD.lh = bnds kd := by
  unfold bnds evF
  repeat' split
  all_goals rfl
def DecAns (L : List Int) (x : Ev) (c : Int) : Prop :=
  (64 < L.length ∧ x = Ev.zero ∧ c = 1) ∨ (L.length = 0 ∧ x = Ev.zero ∧ c = 4) ∨ (0 < L.length ∧ L.length ≤ 64 ∧ ¬ (1 ≤ L.getD 0 0 ∧ L.getD 0 0 ≤ 7) ∧ x = Ev.zero ∧ c = 5) ∨
  (0 < L.length ∧ L.length ≤ 64 ∧ (1 ≤ L.getD 0 0 ∧ L.getD 0 0 ≤ 7) ∧ c = (rd (bnds (L.getD 0 0)) (L.drop 1) []).1 ∧ x = (if c = 0 then decX (L.getD 0 0) (rd (bnds (L.getD 0 0)) (L.drop 1) []).2 else Ev.zero))
theorem DecAns_total (L : List Int) : ∃ x c, DecAns L x c := by
  by_cases h1 : 64 < L.length
  · exact ⟨_, _, Or.inl ⟨h1, rfl, rfl⟩⟩
  · by_cases h2 : L.length = 0
    · exact ⟨_, _, Or.inr (Or.inl ⟨h2, rfl, rfl⟩)⟩
    · by_cases h3 : 1 ≤ L.getD 0 0 ∧ L.getD 0 0 ≤ 7
      · exact ⟨_, _, Or.inr (Or.inr (Or.inr ⟨by omega, by omega, h3, rfl, rfl⟩))⟩
      · exact ⟨_, _, Or.inr (Or.inr (Or.inl ⟨by omega, by omega, h3, rfl, rfl⟩))⟩
theorem acc_0 {acc : List Int} (h : acc.length = 0) : acc = [] := List.length_eq_zero_iff.1 h
theorem acc_1 {acc : List Int} (h : acc.length = 1) : ∃ a, acc = [a] := List.length_eq_one_iff.1 h
theorem acc_2 {acc : List Int} (h : acc.length = 2) : ∃ a b, acc = [a, b] := by
  match acc, h with
  | [a, b], _ => exact ⟨a, b, rfl⟩
theorem evD_put {kd : Int} (h : 1 ≤ kd ∧ kd ≤ 7) {acc : List Int} {k be bg : Nat} {f : FD} (hk : k < (evF (evZ kd) be bg 0).length) (hf : f = (evF (evZ kd) be bg 0).getD k FD.zero) (ha : acc.length = k) (n : Int) :
    (∃ o, f.a = ⟨be, o, none⟩ ∧ o < 8 ∧ (evD kd acc).cells.toArray.setIfInBounds o (.int .i64 n) = (evD kd (acc ++ [n])).cells.toArray ∧ goodD kd (acc ++ [n]) = goodD kd acc) ∨ (f.a = ⟨bg, 0, none⟩ ∧ evD kd (acc ++ [n]) = evD kd acc ∧ goodD kd (acc ++ [n]) = n) := by
  have hc : kd = 1 ∨ kd = 2 ∨ kd = 3 ∨ kd = 4 ∨ kd = 5 ∨ kd = 6 ∨ kd = 7 := by omega
  have hk3 : k = 0 ∨ k = 1 ∨ k = 2 := by have := evF_len (evZ kd) be bg 0; omega
  rcases hk3 with rfl | rfl | rfl
  · obtain rfl := acc_0 ha
    rcases hc with rfl | rfl | rfl | rfl | rfl | rfl | rfl <;> simp [evF, evZ] at hk hf
    all_goals (subst hf; left; exact ⟨_, rfl, by decide, rfl, rfl⟩)
  · obtain ⟨a, rfl⟩ := acc_1 ha
    rcases hc with rfl | rfl | rfl | rfl | rfl | rfl | rfl <;> simp [evF, evZ] at hk hf
    all_goals (subst hf; left; exact ⟨_, rfl, by decide, rfl, rfl⟩)
  · obtain ⟨a, b, rfl⟩ := acc_2 ha
    rcases hc with rfl | rfl | rfl | rfl | rfl | rfl | rfl <;> simp [evF, evZ] at hk hf
    · subst hf; right; exact ⟨rfl, rfl, rfl⟩
    · subst hf; left; exact ⟨_, rfl, by decide, rfl, rfl⟩
theorem bnds_at {kd : Int} {be bg k : Nat} {f : FD} (hk : k < (evF (evZ kd) be bg 0).length) (hf : f = (evF (evZ kd) be bg 0).getD k FD.zero) : (bnds kd).drop k = (f.lo, f.hi) :: (bnds kd).drop (k + 1) := by
  rw [← bnds_any kd be bg, List.drop_eq_getElem_cons (by simpa using hk), hf]
  simp [List.getD, hk, FD.lh]
theorem rd_err {lo hi : Int} {F : List (Int × Int)} {R acc : List Int} (h : getC R ≠ 0) : rd ((lo, hi) :: F) R acc = (getC R, acc) := by simp only [rd]; rw [if_pos h]
theorem rd_out {lo hi : Int} {F : List (Int × Int)} {R acc : List Int} (h : getC R = 0) (h2 : getV R < lo ∨ hi < getV R) : rd ((lo, hi) :: F) R acc = (2, acc) := by simp only [rd]; rw [if_neg (by simpa using h), if_pos h2]
theorem rd_in {lo hi : Int} {F : List (Int × Int)} {R acc : List Int} (h : getC R = 0) (h2 : lo ≤ getV R) (h3 : getV R ≤ hi) : rd ((lo, hi) :: F) R acc = rd F (R.drop (endOf R + 1)) (acc ++ [getV R]) := by simp only [rd]; rw [if_neg (by simpa using h), if_neg (by omega)]
theorem rd_end0 {R acc : List Int} (h : R.length = 0) : rd [] R acc = (0, acc) := by simp only [rd]; rw [if_pos h]
theorem rd_end3 {R acc : List Int} (h : R.length ≠ 0) : rd [] R acc = (3, acc) := by simp only [rd]; rw [if_neg h]
theorem getC_lt {R : List Int} (h : getC R = 0) : endOf R + 1 ≤ R.length := by
  unfold getC at h
  obtain ⟨h1, h2⟩ := end_le R
  split at h
  · omega
  · split at h
    · omega
    · omega
theorem IsB_drop {R : List Int} (h : IsB R) (n : Nat) : IsB (R.drop n) := fun x hx => h x (List.mem_of_mem_drop hx)
/-- A row's rest. -/
theorem byts_drop {w : World} {b off cap n : Nat} {R : List Int} (h : RowAt w 1 (.slice (some ⟨b, off, none⟩) R.length cap) (byts R)) (hn : n < R.length) : RowAt w 1 (.slice (some ⟨b, off + n, none⟩) (R.length - n) (cap - n)) (byts (R.drop n)) := by
  obtain ⟨a, c, hv, h1, h2, h3, h4⟩ := h
  injection hv with e1 e2 e3
  subst e3
  subst e1
  have hl : (byts R).length = R.length := by simp [byts]
  obtain ⟨b', off', e, h5, h6⟩ := h4 (by intro h; rw [h] at hl; simp at hl; omega)
  cases e
  refine ⟨some ⟨b, off + n, none⟩, cap - n, by simp [byts], by simp [byts]; omega, by omega, (fun h => by cases h), fun _ => ⟨b, off + n, rfl, h5, fun i j hi hj => ?_⟩⟩
  obtain rfl : j = 0 := by omega
  have hi' : i < R.length - n := by simpa [byts] using hi
  have := h6 (n + i) 0 (by rw [hl]; omega) (by omega)
  simp only [Nat.mul_one, Nat.add_zero] at this ⊢
  rw [Nat.add_assoc, this]
  simp [byts, List.getD, List.getElem?_map, List.getElem?_drop]
theorem RowAt_none {w : World} {a : Option Addr} {cap : Nat} (h1 : cap ≤ maxLen) (h2 : a = none → cap = 0) : RowAt w 1 (.slice a 0 cap) (byts []) := ⟨a, cap, rfl, Nat.zero_le _, h1, h2, fun h => absurd rfl h⟩
end Go.Proofs.Ytjfnnbbnkcdbcaa
