/- The wheel in plain words: places, timers that may be, wheels that may be. -/
import Derived.Test.YthgfiadfpgfjdaaTmr
namespace Go.Proofs.Ythgfiadfpgfjdaa
/-- The list where a timer belongs (P3.1). -/
def placeN (a now : Nat) : Nat := if a / 8 = now / 8 then a % 8 else if a / 64 = now / 64 then 8 + a / 8 % 8 else if a / 512 = now / 512 then 16 + a / 64 % 8 else 24
theorem placeN_lt (a now : Nat) : placeN a now < 25 := by unfold placeN; split; omega; split; omega; split <;> omega
/-- A timer that may be (P3.2). -/
def TmMay (t : Tm) (now : Int) : Prop := now < t.at_ ∧ t.at_ ≤ now + 500 ∧ t.at_ ≤ 1099511627776 ∧ 0 ≤ t.id ∧ t.id < 200
instance (t : Tm) (now : Int) : Decidable (TmMay t now) := by unfold TmMay; infer_instance
def plc (t : Tm) (now : Int) : Nat := placeN t.at_.toNat now.toNat
def tids (L : List Tm) : List Int := L.map Tm.id
/-- What a list of a wheel must be. -/
def LsMay (now : Int) (i : Nat) (L : List Tm) : Prop := (∀ t ∈ L, TmMay t now ∧ plc t now = i) ∧ OrdT L
/-- A wheel that may be. -/
def WhMay (now : Int) (LL : List (List Tm)) : Prop := 0 ≤ now ∧ now ≤ 1099511627776 ∧ LL.length = 25 ∧ (∀ i, i < 25 → LsMay now i (LL.getD i [])) ∧ (tids LL.flatten).Nodup
/-- The wheel of timers. -/
def wheelOf (now : Int) (L : List Tm) : List (List Tm) := (List.range 25).map fun i => srtT (L.filter fun t => plc t now == i)
theorem wheelOf_len (now : Int) (L : List Tm) : (wheelOf now L).length = 25 := by simp [wheelOf]
theorem wheelOf_get (now : Int) (L : List Tm) {i : Nat} (h : i < 25) : (wheelOf now L).getD i [] = srtT (L.filter fun t => plc t now == i) := by simp [wheelOf, List.getD, h]
theorem flatten_filter {α : Type} (p : α → Bool) : ∀ LL : List (List α), LL.flatten.filter p = (LL.map (·.filter p)).flatten := by
  intro LL
  induction LL with
  | nil => rfl
  | cons L LL ih => simp [List.filter_append, ih]
theorem flatten_one {α : Type} (L : List α) : ∀ (LL : List (List α)) (i : Nat), i < LL.length → LL.getD i [] = L → (∀ j, j < LL.length → j ≠ i → LL.getD j [] = []) → LL.flatten = L := by
  intro LL
  induction LL with
  | nil => intro i h; simp at h
  | cons M LL ih =>
    intro i h he ho
    cases i with
    | zero =>
      simp at he
      subst he
      have : LL.flatten = [] := by
        rw [List.flatten_eq_nil_iff]
        intro N hN
        obtain ⟨j, hj, rfl⟩ := List.mem_iff_getElem.1 hN
        have := ho (j + 1) (by simp; exact hj) (by omega)
        simpa [List.getD, hj] using this
      simp [this]
    | succ i =>
      have h0 := ho 0 (by simp) (by omega)
      simp at h0
      subst h0
      rw [List.flatten_cons, List.nil_append]
      exact ih i (by simpa using h) (by simpa using he) (fun j hj hne => by have := ho (j + 1) (by simpa using hj) (by omega); simpa using this)
/-- The timers of a wheel whose lists are right: those of one place. -/
theorem at_place {now : Int} {LL : List (List Tm)} (hl : LL.length = 25) (h : ∀ i, i < 25 → ∀ t ∈ LL.getD i [], plc t now = i) {i : Nat} (hi : i < 25) : LL.flatten.filter (fun t => plc t now == i) = LL.getD i [] := by
  rw [flatten_filter]
  refine flatten_one _ _ i (by rw [List.length_map]; omega) ?_ (fun j hj hne => ?_)
  · have : (LL.map (·.filter fun t => plc t now == i)).getD i [] = (LL.getD i []).filter fun t => plc t now == i := by
      simp [List.getD, hl, hi]
    rw [this]
    refine List.filter_eq_self.2 fun t ht => by simpa using h i hi t ht
  · rw [List.length_map, hl] at hj
    have : (LL.map (·.filter fun t => plc t now == i)).getD j [] = (LL.getD j []).filter fun t => plc t now == i := by
      simp [List.getD, hl, hj]
    rw [this]
    refine List.filter_eq_nil_iff.2 fun t ht => ?_
    have := h j hj t ht
    simp; omega
theorem lists_ext {LL MM : List (List Tm)} (h1 : LL.length = 25) (h2 : MM.length = 25) (h : ∀ i, i < 25 → LL.getD i [] = MM.getD i []) : LL = MM := by
  apply List.ext_getElem (by omega)
  intro i h3 h4
  have := h i (by omega)
  simpa [List.getD, h3, h4] using this
theorem whMay_of {now : Int} {LL : List (List Tm)} (h : WhMay now LL) : LL = wheelOf now LL.flatten := by
  obtain ⟨_, _, hl, hL, _⟩ := h
  refine lists_ext hl (wheelOf_len _ _) fun i hi => ?_
  rw [wheelOf_get _ _ hi, at_place hl (fun j hj t ht => ((hL j hj).1 t ht).2) hi]
  exact (srtT_id (hL i hi).2).symm
theorem nodup_sub {α : Type} [DecidableEq α] : ∀ {L M : List α}, L.Nodup → (∀ x ∈ L, x ∈ M) → L.length ≤ M.length := by
  intro L
  induction L with
  | nil => intro M _ _; simp
  | cons x L ih =>
    intro M hn hs
    have hx := hs x List.mem_cons_self
    have h1 := List.nodup_cons.1 hn
    have h2 := ih (M := M.erase x) h1.2 (fun y hy => (List.mem_erase_of_ne (by rintro rfl; exact h1.1 hy)).2 (hs y (List.mem_cons_of_mem _ hy)))
    have h3 := List.length_erase_of_mem hx
    have h4 : 0 < M.length := List.length_pos_iff.2 (by rintro rfl; cases hx)
    simp only [List.length_cons]; omega
theorem ids_200 {L : List Tm} {now : Int} (h : ∀ t ∈ L, TmMay t now) (hn : (tids L).Nodup) : L.length ≤ 200 := by
  have h1 : (tids L).length = L.length := by simp [tids]
  rw [← h1]
  have hsub : ∀ x ∈ tids L, x ∈ (List.range 200).map (fun n : Nat => (n : Int)) := by
    intro x hx
    simp only [tids, List.mem_map] at hx
    obtain ⟨t, ht, rfl⟩ := hx
    obtain ⟨_, _, _, h4, h5⟩ := h t ht
    obtain ⟨n, hn⟩ := Int.eq_ofNat_of_zero_le h4
    rw [hn]
    exact List.mem_map.2 ⟨n, by simp; omega, rfl⟩
  have := nodup_sub hn hsub
  simpa using this
theorem mem_flat {LL : List (List Tm)} {t : Tm} : t ∈ LL.flatten ↔ ∃ i, i < LL.length ∧ t ∈ LL.getD i [] := by
  rw [List.mem_flatten]
  constructor
  · rintro ⟨L, hL, ht⟩
    obtain ⟨i, hi, rfl⟩ := List.mem_iff_getElem.1 hL
    exact ⟨i, hi, by simpa [List.getD, hi] using ht⟩
  · rintro ⟨i, hi, ht⟩
    exact ⟨LL[i], List.getElem_mem _, by simpa [List.getD, hi] using ht⟩
theorem WhMay.tm {now : Int} {LL : List (List Tm)} (h : WhMay now LL) : ∀ t ∈ LL.flatten, TmMay t now := by
  intro t ht
  obtain ⟨i, hi, hm⟩ := mem_flat.1 ht
  exact ((h.2.2.2.1 i (by have := h.2.2.1; omega)).1 t hm).1
theorem WhMay.tot {now : Int} {LL : List (List Tm)} (h : WhMay now LL) : LL.flatten.length ≤ 200 := ids_200 h.tm h.2.2.2.2
/-- A wheel of timers that may be, each with a number of its own, may be. -/
theorem whMay_mk {now : Int} {L : List Tm} (h0 : 0 ≤ now) (h1 : now ≤ 1099511627776) (h : ∀ t ∈ L, TmMay t now) (hn : (tids L).Nodup) : WhMay now (wheelOf now L) ∧ (wheelOf now L).flatten.Perm L := by
  have hp : (wheelOf now L).flatten.Perm L := by
    have key : ∀ k, ((List.range k).map fun i => srtT (L.filter fun t => plc t now == i)).flatten.Perm (L.filter fun t => decide (plc t now < k)) := by
      intro k
      induction k with
      | zero => simp
      | succ k ih =>
        rw [List.range_succ, List.map_append, List.flatten_append]
        simp only [List.map_cons, List.map_nil, List.flatten_cons, List.flatten_nil, List.append_nil]
        refine (ih.append (srtT_perm _)).trans ?_
        have : ∀ M : List Tm, (M.filter (fun t => decide (plc t now < k)) ++ M.filter (fun t => plc t now == k)).Perm (M.filter fun t => decide (plc t now < k + 1)) := by
          intro M
          induction M with
          | nil => simp
          | cons t M ihM =>
            have e1 : decide (plc t now < k + 1) = (decide (plc t now < k) || plc t now == k) := by
              rw [Bool.eq_iff_iff]; simp; omega
            cases h2 : decide (plc t now < k) with
            | true =>
              have h3 : (plc t now == k) = false := by simp at h2 ⊢; omega
              simp only [List.filter_cons, e1, h2, h3, Bool.true_or, if_true, Bool.false_eq_true, if_false, List.cons_append]
              exact List.Perm.cons t ihM
            | false =>
              cases h3 : (plc t now == k) with
              | true =>
                simp only [List.filter_cons, e1, h2, h3, Bool.or_true, if_true, Bool.false_eq_true, if_false]
                exact List.perm_middle.trans (List.Perm.cons t ihM)
              | false =>
                simp only [List.filter_cons, e1, h2, h3, Bool.or_false, Bool.false_eq_true, if_false]
                exact ihM
        exact this L
    refine (key 25).trans ?_
    rw [List.filter_eq_self.2]
    intro t _
    have := placeN_lt t.at_.toNat now.toNat
    unfold plc; simpa using this
  refine ⟨⟨h0, h1, wheelOf_len _ _, fun i hi => ?_, ?_⟩, hp⟩
  · rw [wheelOf_get _ _ hi]
    refine ⟨fun t ht => ?_, srtT_ord _⟩
    have ht' := (srtT_perm _).mem_iff.1 ht
    rw [List.mem_filter] at ht'
    exact ⟨h t ht'.1, by simpa using ht'.2⟩
  · exact (hp.map Tm.id).nodup_iff.2 hn
theorem wheelOf_congr {now : Int} {L M : List Tm} (h : L.Perm M) : wheelOf now L = wheelOf now M := by
  unfold wheelOf
  refine List.map_congr_left fun i _ => srtT_congr (h.filter _)
end Go.Proofs.Ythgfiadfpgfjdaa
