/- A wheel goes on by a tick: the plain law. -/
import Derived.Test.YthgfiadfpgfjdaaWhSet
namespace Go.Proofs.Ythgfiadfpgfjdaa
open Go.RowKit
def pinL (n : Int) (M : List (List Tm)) (t : Tm) : List (List Tm) := M.set (plc t n) (srtT (M.getD (plc t n) [] ++ [t]))
theorem pinL_len (n : Int) (M : List (List Tm)) (t : Tm) : (pinL n M t).length = M.length := by simp [pinL]
def pinsL (n : Int) (M : List (List Tm)) (X : List Tm) : List (List Tm) := X.foldl (pinL n) M
theorem pinsL_snoc (n : Int) (M : List (List Tm)) (X : List Tm) (t : Tm) : pinsL n M (X ++ [t]) = pinL n (pinsL n M X) t := by simp [pinsL]
theorem pinsL_get (n : Int) : ∀ (X : List Tm) (M : List (List Tm)), M.length = 25 → (∀ i, i < 25 → OrdT (M.getD i [])) →
    (pinsL n M X).length = 25 ∧ ∀ i, i < 25 → (pinsL n M X).getD i [] = srtT (M.getD i [] ++ X.filter fun t => plc t n == i) := by
  intro X
  induction X with
  | nil => intro M h1 h2; exact ⟨h1, fun i hi => by simp only [pinsL, List.foldl_nil, List.filter_nil, List.append_nil]; exact (srtT_id (h2 i hi)).symm⟩
  | cons t X ih =>
    intro M h1 h2
    have hp : plc t n < 25 := placeN_lt _ _
    have g1 : (pinL n M t).length = 25 := by rw [pinL_len, h1]
    have g2 : ∀ i, i < 25 → (pinL n M t).getD i [] = srtT (M.getD i [] ++ if plc t n = i then [t] else []) := by
      intro i hi
      unfold pinL
      by_cases e : plc t n = i
      · subst e; rw [getD_set_eq (by omega), if_pos rfl]
      · rw [getD_set_ne e, if_neg e, List.append_nil, srtT_id (h2 i hi)]
    obtain ⟨g3, g4⟩ := ih (pinL n M t) g1 (fun i hi => by rw [g2 i hi]; exact srtT_ord _)
    refine ⟨g3, fun i hi => ?_⟩
    show (pinsL n (pinL n M t) X).getD i [] = _
    rw [g4 i hi, g2 i hi]
    refine srtT_congr (((srtT_perm _).append_right _).trans ?_)
    rw [List.append_assoc, List.filter_cons]
    by_cases e : plc t n = i
    · rw [if_pos e, if_pos (by simpa using e)]; exact List.Perm.refl _
    · rw [if_neg e, if_neg (by simpa using e)]; exact List.Perm.refl _
/-- All of a list goes where it belongs now. -/
def movL (n : Int) (j : Nat) (M : List (List Tm)) : List (List Tm) := pinsL n (M.set j []) (M.getD j [])
def Lay (s : Tm → Nat) (E : List Tm) (M : List (List Tm)) : Prop := M.length = 25 ∧ ∀ i, i < 25 → M.getD i [] = srtT (E.filter fun t => s t == i)
theorem Lay.ord {s : Tm → Nat} {E : List Tm} {M : List (List Tm)} (h : Lay s E M) : ∀ i, i < 25 → OrdT (M.getD i []) := fun i hi => by rw [h.2 i hi]; exact srtT_ord _
theorem filter_two {α : Type} (p q r : α → Bool) (E : List α) (h1 : ∀ x, r x = (p x || q x)) (h2 : ∀ x, p x = true → q x = false) : (E.filter p ++ E.filter q).Perm (E.filter r) := by
  have h := List.filter_append_perm p (E.filter r)
  rw [List.filter_filter, List.filter_filter] at h
  rw [show E.filter p = E.filter (fun a => p a && r a) from List.filter_congr (fun x _ => by rw [h1]; cases p x <;> simp),
    show E.filter q = E.filter (fun a => !p a && r a) from List.filter_congr (fun x _ => by
      rw [h1]
      cases hp : p x with
      | false => simp
      | true => simp [h2 x hp])]
  exact h
theorem Lay_mov {s : Tm → Nat} {E : List Tm} {M : List (List Tm)} (h : Lay s E M) (n : Int) {j : Nat} (hj : j < 25) : Lay (fun t => if s t = j then plc t n else s t) E (movL n j M) := by
  have ho : ∀ i, i < 25 → OrdT ((M.set j []).getD i []) := fun i hi => by
    by_cases e : j = i
    · subst e; rw [getD_set_eq (by rw [h.1]; exact hj)]; exact List.Pairwise.nil
    · rw [getD_set_ne e]; exact h.ord i hi
  obtain ⟨g1, g2⟩ := pinsL_get n (M.getD j []) (M.set j []) (by rw [List.length_set]; exact h.1) ho
  refine ⟨g1, fun i hi => ?_⟩
  unfold movL
  rw [g2 i hi]
  refine srtT_congr ?_
  have e1 : ((M.set j []).getD i []).Perm (E.filter fun t => !(s t == j) && (s t == i)) := by
    by_cases e : j = i
    · subst e
      rw [getD_set_eq (by rw [h.1]; exact hj), List.filter_eq_nil_iff.2 (by simp)]
    · rw [getD_set_ne e, h.2 i hi]
      refine (srtT_perm _).trans ?_
      rw [List.filter_congr (q := fun t => !(s t == j) && (s t == i)) (fun x _ => by
        by_cases h1 : s x = i
        · simp [h1, show ¬ i = j from fun h => e (Eq.symm h)]
        · simp [h1])]
  have e2 : ((M.getD j []).filter fun t => plc t n == i).Perm (E.filter fun t => (s t == j) && (plc t n == i)) := by
    rw [h.2 j hj]
    refine ((srtT_perm _).filter _).trans ?_
    rw [List.filter_filter]
    rw [List.filter_congr (q := fun t => (s t == j) && (plc t n == i)) (fun x _ => Bool.and_comm _ _)]
  refine (e1.append e2).trans (filter_two _ _ _ E (fun x => ?_) (fun x hx => ?_))
  · show ((if s x = j then plc x n else s x) == i) = _
    by_cases h1 : s x = j
    · simp [h1]
    · rw [if_neg h1]
      have h2 : (s x == j) = false := by simpa using h1
      simp [h2]
  · simp only [Bool.and_eq_true, Bool.not_eq_true', beq_eq_false_iff_ne, beq_iff_eq] at hx
    simp [hx.1]
/-- The three steps of Advance: to the tick n. -/
def advS (n : Nat) (z j : Nat) (M : List (List Tm)) : List (List Tm) := if n % z = 0 then movL (n : Int) j M else M
def advF (n : Nat) (k : Nat) : Nat × Nat := if k = 0 then (512, 24) else if k = 1 then (64, 16 + n / 64 % 8) else (8, 8 + n / 8 % 8)
def advM (n : Nat) (M : List (List Tm)) : Nat → List (List Tm)
  | 0 => M
  | k + 1 => advS n (advF n k).1 (advF n k).2 (advM n M k)
theorem advF_lt (n k : Nat) : (advF n k).2 < 25 := by unfold advF; split; simp; split <;> (simp; omega)
theorem Lay_congr {s s' : Tm → Nat} {E : List Tm} {M : List (List Tm)} (h : Lay s E M) (hs : ∀ t ∈ E, s t = s' t) : Lay s' E M :=
  ⟨h.1, fun i hi => by rw [h.2 i hi, List.filter_congr (fun t ht => by rw [hs t ht])]⟩
def advP (n : Nat) (k : Nat) (s : Tm → Nat) (t : Tm) : Nat := if n % (advF n k).1 = 0 ∧ s t = (advF n k).2 then plc t n else s t
theorem Lay_step {s : Tm → Nat} {E : List Tm} {M : List (List Tm)} (n k : Nat) (h : Lay s E M) : Lay (advP n k s) E (advS n (advF n k).1 (advF n k).2 M) := by
  unfold advS
  by_cases hz : n % (advF n k).1 = 0
  · rw [if_pos hz]
    refine Lay_congr (Lay_mov h n (advF_lt n k)) (fun t _ => ?_)
    unfold advP
    by_cases e : s t = (advF n k).2 <;> simp [hz, e]
  · rw [if_neg hz]
    refine Lay_congr h (fun t _ => ?_)
    unfold advP; simp [hz]
theorem place_adv {A N : Nat} (h : N < A) :
    (let n := N + 1
     let s0 := placeN A N
     let s1 := if n % 512 = 0 ∧ s0 = 24 then placeN A n else s0
     let s2 := if n % 64 = 0 ∧ s1 = 16 + n / 64 % 8 then placeN A n else s1
     if n % 8 = 0 ∧ s2 = 8 + n / 8 % 8 then placeN A n else s2) = placeN A (N + 1) := by
  have p0 : placeN A N = 24 ∨ placeN A N < 24 := by have := placeN_lt A N; omega
  simp only
  rcases (show (N + 1) % 8 ≠ 0 ∨ (N + 1) % 8 = 0 by omega) with h8 | h8
  · have h64 : ¬ (N + 1) % 64 = 0 := by omega
    have h512 : ¬ (N + 1) % 512 = 0 := by omega
    simp only [h8, h64, h512, false_and, if_false]
    have e1 : (N + 1) / 8 = N / 8 := by omega
    have e2 : (N + 1) / 64 = N / 64 := by omega
    have e3 : (N + 1) / 512 = N / 512 := by omega
    unfold placeN
    rw [e1, e2, e3]
  · rcases (show (N + 1) % 64 ≠ 0 ∨ (N + 1) % 64 = 0 by omega) with h64 | h64
    · have h512 : ¬ (N + 1) % 512 = 0 := by omega
      simp only [h8, h64, h512, false_and, if_false, true_and]
      have e2 : (N + 1) / 64 = N / 64 := by omega
      have e3 : (N + 1) / 512 = N / 512 := by omega
      have e1 : ¬ A / 8 = N / 8 := by omega
      by_cases h : placeN A N = 8 + (N + 1) / 8 % 8
      · rw [if_pos h]
      · rw [if_neg h]
        unfold placeN at h ⊢
        rw [if_neg e1] at h ⊢
        rw [e2, e3]
        by_cases g1 : A / 8 = (N + 1) / 8
        · exfalso
          rw [if_pos (by omega)] at h
          omega
        · rw [if_neg g1]
    · rcases (show (N + 1) % 512 ≠ 0 ∨ (N + 1) % 512 = 0 by omega) with h512 | h512
      · simp only [h8, h64, h512, false_and, if_false, true_and]
        have e3 : (N + 1) / 512 = N / 512 := by omega
        have e1 : ¬ A / 8 = N / 8 := by omega
        have e2 : ¬ A / 64 = N / 64 := by omega
        have hs : placeN A N = if A / 512 = N / 512 then 16 + A / 64 % 8 else 24 := by unfold placeN; rw [if_neg e1, if_neg e2]
        rw [hs]
        by_cases g3 : A / 512 = N / 512
        · rw [if_pos g3]
          by_cases g : 16 + A / 64 % 8 = 16 + (N + 1) / 64 % 8
          · rw [if_pos g, ite_self]
          · rw [if_neg g, if_neg (by omega)]
            unfold placeN
            rw [if_neg (by omega), if_neg (by omega), if_pos (by omega)]
        · have q3 : ¬ A / 512 = (N + 1) / 512 := by omega
          have q2 : ¬ A / 64 = (N + 1) / 64 := by omega
          have q1 : ¬ A / 8 = (N + 1) / 8 := by omega
          have a1 : ¬ 24 = 16 + (N + 1) / 64 % 8 := by omega
          have a2 : ¬ 24 = 8 + (N + 1) / 8 % 8 := by omega
          rw [if_neg g3, if_neg a1, if_neg a2]
          unfold placeN
          rw [if_neg q1, if_neg q2, if_neg q3]
      · simp only [h8, h64, h512, true_and]
        have e1 : ¬ A / 8 = N / 8 := by omega
        have e2 : ¬ A / 64 = N / 64 := by omega
        have e3 : ¬ A / 512 = N / 512 := by omega
        have hs : placeN A N = 24 := by unfold placeN; rw [if_neg e1, if_neg e2, if_neg e3]
        rw [hs, if_pos rfl, ite_self, ite_self]
theorem advM_all {now : Nat} {LL : List (List Tm)} (h : WhMay (now : Int) LL) : advM (now + 1) LL 3 = wheelOf ((now + 1 : Nat) : Int) LL.flatten := by
  have hl := h.2.2.1
  have l0 : Lay (fun t => plc t (now : Int)) LL.flatten LL := ⟨hl, fun i hi => by
    rw [at_place hl (fun i hi t ht => ((h.2.2.2.1 i hi).1 t ht).2) hi]
    exact (srtT_id (h.2.2.2.1 i hi).2).symm⟩
  have l3 := Lay_step (now + 1) 2 (Lay_step (now + 1) 1 (Lay_step (now + 1) 0 l0))
  have l4 : Lay (fun t => plc t ((now + 1 : Nat) : Int)) LL.flatten (advM (now + 1) LL 3) := Lay_congr l3 (fun t ht => by
    obtain ⟨A, hA⟩ := Int.eq_ofNat_of_zero_le (show 0 ≤ t.at_ by have := (h.tm t ht).1; have := h.1; omega)
    have hlt : now < A := by have := (h.tm t ht).1; omega
    have e1 : plc t (now : Int) = placeN A now := by unfold plc; rw [hA]; rfl
    have e2 : plc t ((now + 1 : Nat) : Int) = placeN A (now + 1) := by unfold plc; rw [hA]; rfl
    have := place_adv hlt
    simp only at this
    simp only [advP, e1, e2, advF]
    simpa using this)
  exact lists_ext l4.1 (wheelOf_len _ _) (fun i hi => by rw [l4.2 i hi, wheelOf_get _ _ hi])
theorem advM_0 (n : Nat) (M : List (List Tm)) : advM n M 1 = if n % 512 = 0 then movL (n : Int) 24 (advM n M 0) else advM n M 0 := rfl
theorem advM_1 (n : Nat) (M : List (List Tm)) : advM n M 2 = if n % 64 = 0 then movL (n : Int) (16 + n / 64 % 8) (advM n M 1) else advM n M 1 := rfl
theorem advM_2 (n : Nat) (M : List (List Tm)) : advM n M 3 = if n % 8 = 0 then movL (n : Int) (8 + n / 8 % 8) (advM n M 2) else advM n M 2 := rfl
theorem plc_now {t : Tm} {n : Nat} (h : (n : Int) ≤ t.at_) : plc t (n : Int) = n % 8 ↔ t.at_ = n := by
  obtain ⟨A, hA⟩ := Int.eq_ofNat_of_zero_le (show 0 ≤ t.at_ by omega)
  have e : plc t (n : Int) = placeN A n := by unfold plc; rw [hA]; rfl
  rw [e, hA]
  unfold placeN
  constructor
  · intro h
    split at h
    · omega
    · split at h
      · omega
      · split at h <;> omega
  · intro h
    have : A = n := by omega
    subst this
    simp
theorem advM_lay {now : Nat} {LL : List (List Tm)} (h : WhMay (now : Int) LL) (n : Nat) : ∀ k, ∃ s, Lay s LL.flatten (advM n LL k) := by
  intro k
  induction k with
  | zero => exact ⟨fun t => plc t (now : Int), h.2.2.1, fun i hi => by
      show LL.getD i [] = _
      rw [at_place h.2.2.1 (fun i hi t ht => ((h.2.2.2.1 i hi).1 t ht).2) hi]
      exact (srtT_id (h.2.2.2.1 i hi).2).symm⟩
  | succ k ih => obtain ⟨s, hs⟩ := ih; exact ⟨_, Lay_step n k hs⟩
theorem Lay.mem {s : Tm → Nat} {E : List Tm} {M : List (List Tm)} (h : Lay s E M) {i : Nat} (hi : i < 25) : ∀ t ∈ M.getD i [], t ∈ E := fun t ht => by
  rw [h.2 i hi] at ht
  exact (List.mem_filter.1 ((srtT_perm _).mem_iff.1 ht)).1
theorem Lay.len {s : Tm → Nat} {E : List Tm} {M : List (List Tm)} (h : Lay s E M) {i : Nat} (hi : i < 25) : (M.getD i []).length ≤ E.length := by
  rw [h.2 i hi, (srtT_perm _).length_eq]; exact List.length_filter_le _ _
theorem pins_ok {s : Tm → Nat} {E : List Tm} {M : List (List Tm)} (h : Lay s E M) (n : Int) {j : Nat} (hj : j < 25) (m : Nat) :
    (pinsL n (M.set j []) ((M.getD j []).take m)).length = 25 ∧ ∀ i, i < 25 → OrdT ((pinsL n (M.set j []) ((M.getD j []).take m)).getD i []) ∧ ((pinsL n (M.set j []) ((M.getD j []).take m)).getD i []).length ≤ E.length + E.length := by
  have ho : ∀ i, i < 25 → OrdT ((M.set j []).getD i []) ∧ ((M.set j []).getD i []).length ≤ E.length := fun i hi => by
    by_cases e : j = i
    · subst e; rw [getD_set_eq (by rw [h.1]; exact hj)]; exact ⟨List.Pairwise.nil, by simp⟩
    · rw [getD_set_ne e]; exact ⟨h.ord i hi, h.len hi⟩
  obtain ⟨g1, g2⟩ := pinsL_get n ((M.getD j []).take m) (M.set j []) (by rw [List.length_set]; exact h.1) (fun i hi => (ho i hi).1)
  refine ⟨g1, fun i hi => ?_⟩
  rw [g2 i hi]
  refine ⟨srtT_ord _, ?_⟩
  rw [(srtT_perm _).length_eq, List.length_append]
  have h1 := (ho i hi).2
  have h2 := h.len hj
  have h3 : (((M.getD j []).take m).filter fun t => plc t n == i).length ≤ (M.getD j []).length := Nat.le_trans (List.length_filter_le _ _) (List.length_take_le' _ _)
  omega
/-- What is left, and who goes off, behind a tick. -/
theorem adv_end {now n : Nat} (hn : n = now + 1) {LL : List (List Tm)} (h : WhMay (now : Int) LL) :
    (wheelOf (n : Int) LL.flatten).set (n % 8) [] = wheelOf (n : Int) (LL.flatten.filter fun t => decide ((n : Int) < t.at_)) ∧
    (wheelOf (n : Int) LL.flatten).getD (n % 8) [] = srtT (LL.flatten.filter fun t => t.at_ == (n : Int)) := by
  have hat : ∀ t ∈ LL.flatten, (n : Int) ≤ t.at_ := fun t ht => by have := (h.tm t ht).1; omega
  have hm : n % 8 < 25 := by omega
  clear hn
  refine ⟨lists_ext (by simp [wheelOf_len]) (wheelOf_len _ _) (fun i hi => ?_), ?_⟩
  · rw [wheelOf_get _ _ hi, List.filter_filter]
    by_cases e : n % 8 = i
    · rw [← e, getD_set_eq (by rw [wheelOf_len]; omega), List.filter_eq_nil_iff.2 (fun t ht => by
        have := plc_now (hat t ht)
        simp only [Bool.and_eq_true, beq_iff_eq, decide_eq_true_eq]
        omega)]
      exact (srtT_id List.Pairwise.nil).symm
    · rw [getD_set_ne e, wheelOf_get _ _ hi]
      rw [List.filter_congr (fun t ht => ?_)]
      have h1 := plc_now (hat t ht)
      have h2 := hat t ht
      by_cases g : plc t (n : Int) = i
      · have : (n : Int) < t.at_ := by
          rcases Int.lt_or_eq_of_le h2 with h3 | h3
          · exact h3
          · exact absurd (h1.2 h3.symm) (by omega)
        simp [g, this]
      · simp [g]
  · rw [wheelOf_get _ _ hm, List.filter_congr (fun t ht => ?_)]
    have h1 := plc_now (hat t ht)
    by_cases g : t.at_ = (n : Int)
    · rw [beq_iff_eq.2 (h1.2 g), beq_iff_eq.2 g]
    · rw [beq_eq_false_iff_ne.2 (fun e => g (h1.1 e)), beq_eq_false_iff_ne.2 g]
/- Those who go off, by their numbers. -/
def selK (E : List Tm) (n : Int) (k : Nat) : List Tm := E.filter fun t => t.id == (k : Int) && t.at_ == n
def offR (E : List Tm) (n : Int) (k : Nat) : List Tm := ((List.range k).map fun i => selK E n i).flatten
theorem offR_succ (E : List Tm) (n : Int) (k : Nat) : offR E n (k + 1) = offR E n k ++ selK E n k := by simp [offR, List.range_succ]
theorem offR_perm (E : List Tm) (n : Int) : ∀ k, (offR E n k).Perm (E.filter fun t => (decide (0 ≤ t.id) && decide (t.id < (k : Int))) && t.at_ == n) := by
  intro k
  induction k with
  | zero =>
    rw [List.filter_eq_nil_iff.2 (fun t _ => by simp; omega)]
    exact List.Perm.refl _
  | succ k ih =>
    rw [offR_succ]
    refine (ih.append_right _).trans (filter_two _ _ _ E (fun x => ?_) (fun x hx => ?_))
    · rw [Bool.eq_iff_iff]
      simp only [Bool.and_eq_true, Bool.or_eq_true, decide_eq_true_eq, beq_iff_eq]
      omega
    · simp only [Bool.and_eq_true, decide_eq_true_eq] at hx
      simp; omega
theorem offR_ord (E : List Tm) (n : Int) : ∀ k, OrdT (offR E n k) ∧ ∀ t ∈ offR E n k, t.at_ = n ∧ t.id < (k : Int) := by
  intro k
  induction k with
  | zero => exact ⟨List.Pairwise.nil, fun t ht => by simp [offR] at ht⟩
  | succ k ih =>
    rw [offR_succ]
    have hs : ∀ t ∈ selK E n k, t.at_ = n ∧ t.id = k := fun t ht => by
      have := (List.mem_filter.1 ht).2
      simp at this; exact ⟨this.2, this.1⟩
    refine ⟨List.pairwise_append.2 ⟨ih.1, ?_, fun x hx y hy => ?_⟩, fun t ht => ?_⟩
    · exact List.pairwise_of_forall_mem_list (fun x hx y hy => by rw [tmLe_iff]; have := hs x hx; have := hs y hy; omega)
    · rw [tmLe_iff]; have := ih.2 x hx; have := hs y hy; omega
    · rcases List.mem_append.1 ht with ht | ht
      · have := ih.2 t ht; omega
      · have := hs t ht; omega
theorem off_one {now : Int} {E : List Tm} (h : ∀ t ∈ E, TmMay t now) (n : Int) : offR E n 200 = srtT (E.filter fun t => t.at_ == n) := by
  refine srtT_one (offR_ord E n 200).1 ((offR_perm E n 200).trans ?_)
  rw [List.filter_congr (fun t ht => ?_)]
  have := h t ht
  have h1 : 0 ≤ t.id := this.2.2.2.1
  have h2 : t.id < 200 := this.2.2.2.2
  simp [h1, h2]
end Go.Proofs.Ythgfiadfpgfjdaa
