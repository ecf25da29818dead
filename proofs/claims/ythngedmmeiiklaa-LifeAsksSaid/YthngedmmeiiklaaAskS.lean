/- What a request does to a book (P11.4), in plain words. -/
import Derived.Test.YthngedmmeiiklaaLifeFin
import Derived.Test.YthngedmmeiiklaaInsLf
namespace Go.Proofs.Ythngedmmeiiklaa
open Go.RowKit

theorem BkMay.lt' {L : List Lf} {R : List Rq} (h : BkMay L R) : ∀ (d i : Nat), i + (d + 1) < L.length → (L.getD i Lf.zero).backend < (L.getD (i + (d + 1)) Lf.zero).backend := by
  intro d
  have step : ∀ i, i + 1 < L.length → (L.getD i Lf.zero).backend < (L.getD (i + 1) Lf.zero).backend := fun i hi => by
    have := (h.2.2.1 (i + 1) hi).2
    unfold lastL at this
    rw [if_neg (by omega)] at this
    simpa using this
  induction d with
  | zero => intro i hi; exact step i hi
  | succ d ih =>
    intro i hi
    have h1 := ih i (by omega)
    have h2 := step (i + (d + 1)) (by omega)
    rw [show i + (d + 1 + 1) = i + (d + 1) + 1 by omega]
    omega
theorem BkMay.lt {L : List Lf} {R : List Rq} (h : BkMay L R) {i j : Nat} (hij : i < j) (hj : j < L.length) : (L.getD i Lf.zero).backend < (L.getD j Lf.zero).backend := by
  have := h.lt' (j - i - 1) i (by omega)
  rwa [show i + (j - i - 1 + 1) = j by omega] at this
/-- Where a backend stands, or would stand. -/
def plN (L : List Lf) (b : Int) : Nat := L.findIdx fun x => !decide (x.backend < b)
theorem plN_le (L : List Lf) (b : Int) : plN L b ≤ L.length := List.findIdx_le_length
theorem plN_lt {L : List Lf} {b : Int} {j : Nat} (h : j < plN L b) : (L.getD j Lf.zero).backend < b := by
  have hl := Nat.lt_of_lt_of_le h (plN_le L b)
  have := List.not_of_lt_findIdx h
  simp [List.getD, hl] at this ⊢
  exact this
theorem plN_at {L : List Lf} {b : Int} (h : plN L b < L.length) : ¬ (L.getD (plN L b) Lf.zero).backend < b := by
  have := List.findIdx_getElem (w := h)
  simp [List.getD, h] at this ⊢
  exact this
theorem plN_eq {L : List Lf} {b : Int} {k : Nat} (hk : k ≤ L.length) (h1 : ∀ j, j < k → (L.getD j Lf.zero).backend < b) (h2 : k < L.length → ¬ (L.getD k Lf.zero).backend < b) : plN L b = k := by
  rcases Nat.lt_trichotomy (plN L b) k with h | h | h
  · exact absurd (h1 _ h) (plN_at (by omega))
  · exact h
  · exact absurd (plN_lt h) (h2 (by have := plN_le L b; omega))
theorem plN_hit {L : List Lf} {R : List Rq} (hm : BkMay L R) {b : Int} {i : Nat} (hi : i < L.length) (h : (L.getD i Lf.zero).backend = b) : plN L b = i :=
  plN_eq (by omega) (fun j hj => by have := hm.lt hj hi; omega) (fun _ => by omega)
/-- What joined has laid behind k lives; E: 1 where the backend is there. -/
def jnS (L : List Lf) (x : Lf) (p E k : Nat) : List Lf := if k ≤ p then L.take k else L.take p ++ x :: (L.take k).drop (p + E)
theorem take_snocL {L : List Lf} {k : Nat} (h : k < L.length) : L.take (k + 1) = L.take k ++ [L.getD k Lf.zero] := by
  rw [List.take_succ_eq_append_getElem h]; simp [List.getD, h]
theorem jnS_lt {L : List Lf} {x : Lf} {p E k : Nat} (h : k < p) (hk : k < L.length) : jnS L x p E (k + 1) = jnS L x p E k ++ [L.getD k Lf.zero] := by
  unfold jnS
  rw [if_pos (by omega), if_pos (by omega), take_snocL hk]
theorem jnS_one {L : List Lf} {x : Lf} {p : Nat} (hk : p < L.length) : jnS L x p 1 (p + 1) = jnS L x p 1 p ++ [x] := by
  unfold jnS
  rw [if_neg (by omega), if_pos (by omega), List.drop_of_length_le (by rw [List.length_take]; omega)]
theorem jnS_zero {L : List Lf} {x : Lf} {p : Nat} (hk : p < L.length) : jnS L x p 0 (p + 1) = jnS L x p 0 p ++ [x] ++ [L.getD p Lf.zero] := by
  unfold jnS
  rw [if_neg (by omega), if_pos (by omega), take_snocL hk, Nat.add_zero, List.drop_append, List.drop_of_length_le (by rw [List.length_take]; omega), List.length_take, Nat.min_eq_left (by omega), Nat.sub_self]
  simp
theorem jnS_gt {L : List Lf} {x : Lf} {p E k : Nat} (h : p < k) (hE : E ≤ 1) (hk : k < L.length) : jnS L x p E (k + 1) = jnS L x p E k ++ [L.getD k Lf.zero] := by
  unfold jnS
  rw [if_neg (by omega), if_neg (by omega), take_snocL hk, List.drop_append, List.length_take, Nat.min_eq_left (by omega), show p + E - k = 0 by omega]
  simp
theorem jnS_set {L : List Lf} {x : Lf} {p : Nat} (hk : p < L.length) : jnS L x p 1 L.length = L.set p x := by
  unfold jnS
  rw [if_neg (by omega), List.take_length, List.set_eq_take_append_cons_drop, if_pos hk]
theorem jnS_ins {L : List Lf} {x : Lf} {p : Nat} (hk : p < L.length) : jnS L x p 0 L.length = insL L p x := by
  unfold jnS insL
  rw [if_neg (by omega), List.take_length, Nat.add_zero]
theorem jnS_end {L : List Lf} {x : Lf} {p E : Nat} (hp : p = L.length) : jnS L x p E L.length ++ [x] = insL L p x := by
  subst hp
  unfold jnS insL
  rw [if_pos (Nat.le_refl _), List.take_length, List.drop_length]
theorem insL_map {α β : Type} (f : α → β) (X : List α) (i : Nat) (c : α) : (insL X i c).map f = insL (X.map f) i (f c) := by simp [insL]

def lfNew (r : Rq) : Lf := ⟨r.backend, 1, r.weight, 0, 0, 0⟩
/-- What a request to join answers, and what is left of the lives. -/
def JnAns (L : List Lf) (r : Rq) (L' : List Lf) (ans : Int) : Prop :=
  (¬ ((0 ≤ r.backend ∧ r.backend ≤ 11) ∧ (1 ≤ r.weight ∧ r.weight ≤ 8)) ∧ L' = L ∧ ans = 2) ∨
  (((0 ≤ r.backend ∧ r.backend ≤ 11) ∧ (1 ≤ r.weight ∧ r.weight ≤ 8)) ∧ (∃ i : Nat, i < L.length ∧ idxOf (lfIs r.backend) L = i ∧ (L.getD i Lf.zero).state ≠ 4) ∧ L' = L ∧ ans = 7) ∨
  (((0 ≤ r.backend ∧ r.backend ≤ 11) ∧ (1 ≤ r.weight ∧ r.weight ≤ 8)) ∧ (∃ i : Nat, i < L.length ∧ idxOf (lfIs r.backend) L = i ∧ (L.getD i Lf.zero).state = 4 ∧ L' = L.set i (lfNew r)) ∧ ans = 0) ∨
  (((0 ≤ r.backend ∧ r.backend ≤ 11) ∧ (1 ≤ r.weight ∧ r.weight ≤ 8)) ∧ idxOf (lfIs r.backend) L = -1 ∧ L' = insL L (plN L r.backend) (lfNew r) ∧ ans = 0)
theorem JnAns_total (L : List Lf) (r : Rq) : ∃ L' ans, JnAns L r L' ans := by
  by_cases h : (0 ≤ r.backend ∧ r.backend ≤ 11) ∧ (1 ≤ r.weight ∧ r.weight ≤ 8)
  · rcases idxOf_cases (lfIs r.backend) L Lf.zero with ⟨hi, _⟩ | ⟨i, hi, he, _⟩
    · exact ⟨_, _, Or.inr (Or.inr (Or.inr ⟨h, hi, rfl, rfl⟩))⟩
    · by_cases hs : (L.getD i Lf.zero).state = 4
      · exact ⟨_, _, Or.inr (Or.inr (Or.inl ⟨h, ⟨i, hi, he, hs, rfl⟩, rfl⟩))⟩
      · exact ⟨_, _, Or.inr (Or.inl ⟨h, ⟨i, hi, he, hs⟩, rfl, rfl⟩)⟩
  · exact ⟨_, _, Or.inl ⟨h, rfl, rfl⟩⟩
def lfEnd (x : Lf) (r : Rq) (now drain : Int) : Lf := { x with state := if x.state = 1 then 4 else 3, until_ := now + drain, request := r.id }
/-- What a request to retire answers, and what is left of the lives. -/
def RtAns (L : List Lf) (r : Rq) (now drain : Int) (L' : List Lf) (ans : Int) : Prop :=
  (idxOf (lfIs r.backend) L = -1 ∧ L' = L ∧ ans = 8) ∨
  ((∃ i : Nat, i < L.length ∧ idxOf (lfIs r.backend) L = i ∧ (L.getD i Lf.zero).state = 4) ∧ L' = L ∧ ans = 8) ∨
  ((∃ i : Nat, i < L.length ∧ idxOf (lfIs r.backend) L = i ∧ (L.getD i Lf.zero).state = 3) ∧ L' = L ∧ ans = 12) ∨
  (∃ i : Nat, i < L.length ∧ idxOf (lfIs r.backend) L = i ∧ ((L.getD i Lf.zero).state ≠ 4 ∧ (L.getD i Lf.zero).state ≠ 3) ∧ L' = L.set i (lfEnd (L.getD i Lf.zero) r now drain) ∧ ans = 0)
theorem RtAns_total (L : List Lf) (r : Rq) (now drain : Int) : ∃ L' ans, RtAns L r now drain L' ans := by
  rcases idxOf_cases (lfIs r.backend) L Lf.zero with ⟨hi, _⟩ | ⟨i, hi, he, _⟩
  · exact ⟨_, _, Or.inl ⟨hi, rfl, rfl⟩⟩
  · by_cases h4 : (L.getD i Lf.zero).state = 4
    · exact ⟨_, _, Or.inr (Or.inl ⟨⟨i, hi, he, h4⟩, rfl, rfl⟩)⟩
    · by_cases h3 : (L.getD i Lf.zero).state = 3
      · exact ⟨_, _, Or.inr (Or.inr (Or.inl ⟨⟨i, hi, he, h3⟩, rfl, rfl⟩))⟩
      · exact ⟨_, _, Or.inr (Or.inr (Or.inr ⟨i, hi, he, ⟨h4, h3⟩, rfl, rfl⟩))⟩
end Go.Proofs.Ythngedmmeiiklaa
