/- What picker.Pick answers, in plain Lean. -/
import Derived.Test.YtjfnnbbnkcdbcaaCapsP
import Derived.Test.YtjfnnbbnkcdbcaaFind
namespace Go.Proofs.Ytjfnnbbnkcdbcaa
open Go.RowKit

def lwIs (b : Int) (x : Ld) : Bool := x.backend == b && decide (0 < x.weight)
def pkRoom (L : List Ld) (C : List Int) (i : Nat) : Bool := decide ((L.getD i Ld.zero).flows < C.getD i 0)
def alongF (L : List Ld) (C : List Int) : List Int → Int → Int
  | [], _ => -1
  | b :: bs, t => if idxOf (lwIs b) L < 0 then alongF L C bs t else if t = 0 then -1 else if pkRoom L C (idxOf (lwIs b) L).toNat = true then idxOf (lwIs b) L else alongF L C bs (t - 1)
def pkOk (L : List Ld) (C : List Int) (i : Nat) : Prop := 0 < (L.getD i Ld.zero).weight ∧ pkRoom L C i = true
def pkF (L : List Ld) (i : Nat) : Int := (L.getD i Ld.zero).flows
def pkW (L : List Ld) (i : Nat) : Int := (L.getD i Ld.zero).weight
/-- The best of the places from a on and below n. -/
def BestIs (L : List Ld) (C : List Int) (a n : Nat) (b : Int) : Prop := (b = -1 ∧ ∀ i, a ≤ i → i < n → ¬ pkOk L C i) ∨ ∃ m : Nat, b = m ∧ a ≤ m ∧ m < n ∧ pkOk L C m ∧ (∀ i, a ≤ i → i < n → pkOk L C i → pkF L m * pkW L i ≤ pkF L i * pkW L m) ∧ (∀ i, a ≤ i → i < m → pkOk L C i → pkF L m * pkW L i < pkF L i * pkW L m)

theorem cross_lt {fk wk fb wb fi wi : Int} (hk : 0 < wk) (hb : 0 < wb) (hi : 0 < wi) (h1 : fk * wb < fb * wk) (h2 : fb * wi ≤ fi * wb) : fk * wi < fi * wk := by
  have a1 : fk * wb * wi < fb * wk * wi := Int.mul_lt_mul_of_pos_right h1 hi
  have a2 : fb * wi * wk ≤ fi * wb * wk := Int.mul_le_mul_of_nonneg_right h2 (Int.le_of_lt hk)
  have a3 : fk * wi * wb < fi * wk * wb := by
    have e1 : fk * wi * wb = fk * wb * wi := by rw [Int.mul_right_comm]
    have e2 : fb * wk * wi = fb * wi * wk := by rw [Int.mul_right_comm]
    have e3 : fi * wk * wb = fi * wb * wk := by rw [Int.mul_right_comm]
    omega
  exact Int.lt_of_mul_lt_mul_right a3 (Int.le_of_lt hb)
theorem cross_le {fk wk fb wb fi wi : Int} (hk : 0 < wk) (hb : 0 < wb) (hi : 0 < wi) (h1 : fk * wb ≤ fb * wk) (h2 : fb * wi ≤ fi * wb) : fk * wi ≤ fi * wk := by
  have a1 : fk * wb * wi ≤ fb * wk * wi := Int.mul_le_mul_of_nonneg_right h1 (Int.le_of_lt hi)
  have a2 : fb * wi * wk ≤ fi * wb * wk := Int.mul_le_mul_of_nonneg_right h2 (Int.le_of_lt hk)
  have a3 : fk * wi * wb ≤ fi * wk * wb := by
    have e1 : fk * wi * wb = fk * wb * wi := by rw [Int.mul_right_comm]
    have e2 : fb * wk * wi = fb * wi * wk := by rw [Int.mul_right_comm]
    have e3 : fi * wk * wb = fi * wb * wk := by rw [Int.mul_right_comm]
    omega
  exact Int.le_of_mul_le_mul_right a3 hb
section
variable {L : List Ld} {C : List Int}
theorem best_start (n : Nat) : BestIs L C n n (-1) := Or.inl ⟨rfl, fun i h1 h2 => by omega⟩
theorem best_up_no {k : Nat} {b : Int} (h : BestIs L C 0 k b) (hk : ¬ pkOk L C k) : BestIs L C 0 (k + 1) b := by
  rcases h with ⟨rfl, h⟩ | ⟨m, rfl, h1, h2, h3, h4, h5⟩
  · exact Or.inl ⟨rfl, fun i a c => by rcases (show i < k ∨ i = k by omega) with h' | rfl; exact h i a h'; exact hk⟩
  · exact Or.inr ⟨m, rfl, h1, by omega, h3, fun i a c d => by rcases (show i < k ∨ i = k by omega) with h' | rfl; exact h4 i a h' d; exact absurd d hk, h5⟩
theorem best_up_new {k : Nat} {b : Int} (h : BestIs L C 0 k b) (hk : pkOk L C k) (hn : b < 0 ∨ pkF L k * pkW L b.toNat < pkF L b.toNat * pkW L k) : BestIs L C 0 (k + 1) k := by
  rcases h with ⟨rfl, h⟩ | ⟨m, rfl, h1, h2, h3, h4, h5⟩
  · refine Or.inr ⟨k, rfl, by omega, by omega, hk, fun i a c d => ?_, fun i a c d => absurd d (h i a c)⟩
    rcases (show i < k ∨ i = k by omega) with h' | rfl
    · exact absurd d (h i a h')
    · exact Int.le_refl _
  · have hlt : pkF L k * pkW L m < pkF L m * pkW L k := by
      rcases hn with hn | hn
      · omega
      · simpa using hn
    refine Or.inr ⟨k, rfl, by omega, by omega, hk, fun i a c d => ?_, fun i a c d => cross_lt hk.1 h3.1 d.1 hlt (h4 i a c d)⟩
    rcases (show i < k ∨ i = k by omega) with h' | rfl
    · exact Int.le_of_lt (cross_lt hk.1 h3.1 d.1 hlt (h4 i a h' d))
    · exact Int.le_refl _
theorem best_up_keep {k : Nat} {b : Int} (h : BestIs L C 0 k b) (hn : 0 ≤ b) (hn2 : ¬ pkF L k * pkW L b.toNat < pkF L b.toNat * pkW L k) : BestIs L C 0 (k + 1) b := by
  rcases h with ⟨rfl, h⟩ | ⟨m, rfl, h1, h2, h3, h4, h5⟩
  · omega
  · refine Or.inr ⟨m, rfl, h1, by omega, h3, fun i a c d => ?_, h5⟩
    rcases (show i < k ∨ i = k by omega) with h' | rfl
    · exact h4 i a h' d
    · simp at hn2; exact hn2
theorem best_dn_no {k n : Nat} {b : Int} (h : BestIs L C (k + 1) n b) (hk : ¬ pkOk L C k) : BestIs L C k n b := by
  rcases h with ⟨rfl, h⟩ | ⟨m, rfl, h1, h2, h3, h4, h5⟩
  · exact Or.inl ⟨rfl, fun i a c => by rcases (show k + 1 ≤ i ∨ i = k by omega) with h' | rfl; exact h i h' c; exact hk⟩
  · exact Or.inr ⟨m, rfl, by omega, h2, h3, fun i a c d => by rcases (show k + 1 ≤ i ∨ i = k by omega) with h' | rfl; exact h4 i h' c d; exact absurd d hk, fun i a c d => by rcases (show k + 1 ≤ i ∨ i = k by omega) with h' | rfl; exact h5 i h' c d; exact absurd d hk⟩
theorem best_dn_new {k n : Nat} {b : Int} (h : BestIs L C (k + 1) n b) (hkn : k < n) (hk : pkOk L C k) (hn : b < 0 ∨ pkF L k * pkW L b.toNat ≤ pkF L b.toNat * pkW L k) : BestIs L C k n k := by
  rcases h with ⟨rfl, h⟩ | ⟨m, rfl, h1, h2, h3, h4, h5⟩
  · refine Or.inr ⟨k, rfl, by omega, hkn, hk, fun i a c d => ?_, fun i a c d => by omega⟩
    rcases (show k + 1 ≤ i ∨ i = k by omega) with h' | rfl
    · exact absurd d (h i h' c)
    · exact Int.le_refl _
  · have hlt : pkF L k * pkW L m ≤ pkF L m * pkW L k := by
      rcases hn with hn | hn
      · omega
      · simpa using hn
    refine Or.inr ⟨k, rfl, by omega, hkn, hk, fun i a c d => ?_, fun i a c d => by omega⟩
    rcases (show k + 1 ≤ i ∨ i = k by omega) with h' | rfl
    · exact cross_le hk.1 h3.1 d.1 hlt (h4 i h' c d)
    · exact Int.le_refl _
theorem best_dn_keep {k n : Nat} {b : Int} (h : BestIs L C (k + 1) n b) (hn : 0 ≤ b) (hn2 : ¬ pkF L k * pkW L b.toNat ≤ pkF L b.toNat * pkW L k) : BestIs L C k n b := by
  rcases h with ⟨rfl, h⟩ | ⟨m, rfl, h1, h2, h3, h4, h5⟩
  · omega
  · simp at hn2
    refine Or.inr ⟨m, rfl, by omega, h2, h3, fun i a c d => ?_, fun i a c d => ?_⟩
    · rcases (show k + 1 ≤ i ∨ i = k by omega) with h' | rfl
      · exact h4 i h' c d
      · exact Int.le_of_lt hn2
    · rcases (show k + 1 ≤ i ∨ i = k by omega) with h' | rfl
      · exact h5 i h' c d
      · exact hn2
theorem best_one {n : Nat} {b b' : Int} (h : BestIs L C 0 n b) (h' : BestIs L C 0 n b') : b = b' := by
  rcases h with ⟨rfl, h⟩ | ⟨m, rfl, _, h2, h3, h4, h5⟩ <;> rcases h' with ⟨rfl, k⟩ | ⟨m', rfl, _, k2, k3, k4, k5⟩
  · rfl
  · exact absurd k3 (h m' (by omega) k2)
  · exact absurd h3 (k m (by omega) h2)
  · rcases (show m < m' ∨ m = m' ∨ m' < m by omega) with c | c | c
    · have a1 := k5 m (by omega) c h3
      have a2 := h4 m' (by omega) k2 k3
      omega
    · rw [c]
    · have a1 := h5 m' (by omega) c k3
      have a2 := k4 m (by omega) h2 h3
      omega
theorem best_has (n : Nat) : ∃ b, BestIs L C 0 n b := by
  induction n with
  | zero => exact ⟨_, best_start 0⟩
  | succ n ih =>
    obtain ⟨b, hb⟩ := ih
    by_cases hk : pkOk L C n
    · by_cases hn : b < 0 ∨ pkF L n * pkW L b.toNat < pkF L b.toNat * pkW L n
      · exact ⟨_, best_up_new hb hk hn⟩
      · exact ⟨_, best_up_keep hb (by omega) (fun h => hn (Or.inr h))⟩
    · exact ⟨_, best_up_no hb hk⟩
theorem best_lt {n : Nat} {b : Int} (h : BestIs L C 0 n b) : b = -1 ∨ ∃ m : Nat, b = m ∧ m < n := by
  rcases h with ⟨rfl, h⟩ | ⟨m, rfl, _, h2, _⟩
  · exact Or.inl rfl
  · exact Or.inr ⟨m, rfl, h2⟩
theorem along_lt : ∀ (bs : List Int) (t : Int), alongF L C bs t = -1 ∨ ∃ m : Nat, alongF L C bs t = m ∧ m < L.length
  | [], _ => Or.inl rfl
  | b :: bs, t => by
    unfold alongF
    split
    · exact along_lt bs t
    · split
      · exact Or.inl rfl
      · split
        · rcases idxOf_cases (lwIs b) L Ld.zero with ⟨hi, _⟩ | ⟨i, hi, he, _⟩
          · omega
          · exact Or.inr ⟨i, he, hi⟩
        · exact along_lt bs (t - 1)
theorem along_drop {Wk : List Int} {k : Nat} (hk : k < Wk.length) (t : Int) : alongF L C (Wk.drop k) t = if idxOf (lwIs (Wk.getD k 0)) L < 0 then alongF L C (Wk.drop (k + 1)) t else if t = 0 then -1 else if pkRoom L C (idxOf (lwIs (Wk.getD k 0)) L).toNat = true then idxOf (lwIs (Wk.getD k 0)) L else alongF L C (Wk.drop (k + 1)) (t - 1) := by
  have e : Wk.drop k = Wk.getD k 0 :: Wk.drop (k + 1) := by rw [List.drop_eq_getElem_cons hk]; simp [List.getD, hk]
  rw [e]; rfl
end
/-- What Pick answers (P8.1). -/
def PkAns (Wk : List Int) (L : List Ld) (num den flows tries : Int) (b code : Int) : Prop :=
  (∃ Y, CapsAns L num den flows Y code ∧ code ≠ 0 ∧ b = 0) ∨
  (LdsMay L ∧ FacMay num den flows ∧ (tries < 0 ∨ (0 ≤ tries ∧ 12 < tries) ∨ (0 ≤ tries ∧ tries ≤ 12 ∧ 12 < Wk.length)) ∧ b = 0 ∧ code = 2) ∨
  (LdsMay L ∧ FacMay num den flows ∧ 0 ≤ tries ∧ tries ≤ 12 ∧ Wk.length ≤ 12 ∧ (∀ x ∈ L, ¬ 0 < x.weight) ∧ b = 0 ∧ code = 11) ∨
  (LdsMay L ∧ FacMay num den flows ∧ 0 ≤ tries ∧ tries ≤ 12 ∧ Wk.length ≤ 12 ∧ (∃ x ∈ L, 0 < x.weight) ∧
    ((∃ m : Nat, m < L.length ∧ alongF L (capsL L num den flows) Wk tries = m ∧ b = (L.getD m Ld.zero).backend ∧ code = 0) ∨
     (alongF L (capsL L num den flows) Wk tries = -1 ∧ ∃ m : Nat, m < L.length ∧ BestIs L (capsL L num den flows) 0 L.length m ∧ b = (L.getD m Ld.zero).backend ∧ code = 0) ∨
     (alongF L (capsL L num den flows) Wk tries = -1 ∧ BestIs L (capsL L num den flows) 0 L.length (-1) ∧ b = 0 ∧ code = 9)))
theorem PkAns_total (Wk : List Int) (L : List Ld) (num den flows tries : Int) : ∃ b code, PkAns Wk L num den flows tries b code := by
  by_cases h : LdsMay L
  · by_cases h2 : FacMay num den flows
    · by_cases h3 : tries < 0 ∨ (0 ≤ tries ∧ 12 < tries) ∨ (0 ≤ tries ∧ tries ≤ 12 ∧ 12 < Wk.length)
      · exact ⟨_, _, Or.inr (Or.inl ⟨h, h2, h3, rfl, rfl⟩)⟩
      · by_cases h4 : ∃ x ∈ L, 0 < x.weight
        · rcases along_lt (L := L) (C := capsL L num den flows) Wk tries with ha | ⟨m, ha, hm⟩
          · obtain ⟨b, hb⟩ := best_has (L := L) (C := capsL L num den flows) L.length
            rcases best_lt hb with rfl | ⟨m, rfl, hm⟩
            · exact ⟨_, _, Or.inr (Or.inr (Or.inr ⟨h, h2, by omega, by omega, by omega, h4, Or.inr (Or.inr ⟨ha, hb, rfl, rfl⟩)⟩))⟩
            · exact ⟨_, _, Or.inr (Or.inr (Or.inr ⟨h, h2, by omega, by omega, by omega, h4, Or.inr (Or.inl ⟨ha, m, hm, hb, rfl, rfl⟩)⟩))⟩
          · exact ⟨_, _, Or.inr (Or.inr (Or.inr ⟨h, h2, by omega, by omega, by omega, h4, Or.inl ⟨m, hm, ha, rfl, rfl⟩⟩))⟩
        · exact ⟨_, _, Or.inr (Or.inr (Or.inl ⟨h, h2, by omega, by omega, by omega, fun x hx hw => h4 ⟨x, hx, hw⟩, rfl, rfl⟩))⟩
    · exact ⟨0, 2, Or.inl ⟨[], Or.inr (Or.inl ⟨h, h2, rfl, rfl⟩), by decide, rfl⟩⟩
  · exact ⟨0, 6, Or.inl ⟨[], Or.inl ⟨h, rfl, rfl⟩, by decide, rfl⟩⟩
end Go.Proofs.Ytjfnnbbnkcdbcaa
