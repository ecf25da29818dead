/- How many live flows each backend has (P13.4), in plain words; what the map holds. -/
import Derived.Test.YtjnfnmbkmgjdlaaByK
import Derived.Test.YtjnfnmbkmgjdlaaTallyOf
namespace Go.Proofs.Ytjnfnmbkmgjdlaa
open Go.RowKit Go.ChangeMaps Go.Maps

def tkO (x : Out) : Prop := x.kind = 1 ∨ x.kind = 5
def enO (x : Out) : Prop := x.kind = 6 ∨ x.kind = 7
instance (x : Out) : Decidable (tkO x) := inferInstanceAs (Decidable (_ ∨ _))
instance (x : Out) : Decidable (enO x) := inferInstanceAs (Decidable (_ ∨ _))
theorem tk_en {x : Out} (h : tkO x) : ¬ enO x := by unfold tkO at h; unfold enO; omega
/-- What one output makes of a key's element. -/
def lvS (s g : Int) (a : Option Int) (x : Out) : Option Int := if x.slot = s ∧ x.gen = g then (if tkO x then some x.backend else if enO x then none else a) else a
def lv (l : List Out) (s g : Int) : Option Int := l.foldl (lvS s g) none
theorem lv_snoc (l : List Out) (x : Out) (s g : Int) : lv (l ++ [x]) s g = lvS s g (lv l s g) x := by simp [lv]
theorem lv_nil (s g : Int) : lv [] s g = none := rfl
/-- The map reads as the flows that are live behind l. -/
def MapIs (D : DataW Unit) (l : List Out) : Prop := ∀ s g, I64 s → I64 g → (lv l s g = none → has D (kE s g) = false) ∧ ∀ b, lv l s g = some b → ∀ z, D.atKey (kE s g) z = .lit (.int .i64 b)
theorem MapIs_nil : MapIs (.map []) [] := fun s g _ _ => ⟨fun _ => rfl, fun b h => by cases h⟩
theorem kE_key {s g : Int} (hs : I64 s) (hg : I64 g) : WideAt.IsKeyLit (kE s g) := key_end.key (keyOf_end hs hg)
theorem kE_ne {s g s' g' : Int} (hs : I64 s) (hg : I64 g) (hs' : I64 s') (hg' : I64 g') (h : ¬ (s' = s ∧ g' = g)) : kE s g ≠ kE s' g' := fun e => h (by obtain ⟨a, b⟩ := keyE_inj hs hg hs' hg' e; exact ⟨a.symm, b.symm⟩)
theorem MapIs_put {D : DataW Unit} {l : List Out} {x : Out} (h : MapIs D l) (hD : IsMap D) (hx : x.ok) (ht : tkO x) : MapIs (D.put (kE x.slot x.gen) (.lit (.int .i64 x.backend))) (l ++ [x]) := by
  intro s g hs hg
  rw [lv_snoc]
  unfold lvS
  by_cases he : x.slot = s ∧ x.gen = g
  · rw [if_pos he, if_pos ht]
    obtain ⟨rfl, rfl⟩ := he
    exact ⟨fun e => (by cases e), fun b e z => by cases e; exact atKey_put_same hD (kE_key hx.2.1 hx.2.2.1) _ _⟩
  · rw [if_neg he]
    have hne := kE_ne hs hg hx.2.1 hx.2.2.1 he
    obtain ⟨h1, h2⟩ := h s g hs hg
    exact ⟨fun e => by rw [has_put_other hne]; exact h1 e, fun b e z => by rw [atKey_put_other hne]; exact h2 b e z⟩
theorem MapIs_del {D : DataW Unit} {l : List Out} {x : Out} (h : MapIs D l) (hx : x.ok) (ht : enO x) : MapIs (D.del (kE x.slot x.gen)) (l ++ [x]) := by
  intro s g hs hg
  rw [lv_snoc]
  unfold lvS
  by_cases he : x.slot = s ∧ x.gen = g
  · rw [if_pos he, if_neg (fun h => tk_en h ht), if_pos ht]
    obtain ⟨rfl, rfl⟩ := he
    exact ⟨fun _ => has_del_same, fun b e => by cases e⟩
  · rw [if_neg he]
    have hne := kE_ne hs hg hx.2.1 hx.2.2.1 he
    obtain ⟨h1, h2⟩ := h s g hs hg
    exact ⟨fun e => by rw [has_del_other hne]; exact h1 e, fun b e z => by rw [atKey_del_other hne]; exact h2 b e z⟩
theorem MapIs_skip {D : DataW Unit} {l : List Out} {x : Out} (h : MapIs D l) (h1 : ¬ tkO x) (h2 : ¬ enO x) : MapIs D (l ++ [x]) := by
  intro s g hs hg
  rw [lv_snoc]
  unfold lvS
  rw [if_neg h1, if_neg h2]
  simp only [ite_self]
  exact h s g hs hg

/-- Does the output at k speak of the flow that the one at i took? -/
def clash (X : List Out) (i k : Nat) : Bool := decide (((X.getD k Out.zero).slot = (X.getD i Out.zero).slot ∧ (X.getD k Out.zero).gen = (X.getD i Out.zero).gen) ∧ (tkO (X.getD k Out.zero) ∨ enO (X.getD k Out.zero)))
def lastTo (X : List Out) (i k : Nat) : Bool := (List.range k).all fun j => !(decide (i < j) && clash X i j)
theorem lastTo_start (X : List Out) (i : Nat) : lastTo X i (i + 1) = true := by
  unfold lastTo
  rw [List.all_eq_true]
  intro j hj
  have := List.mem_range.1 hj
  simp [show ¬ i < j by omega]
theorem lastTo_succ (X : List Out) {i k : Nat} (h : i < k) : lastTo X i (k + 1) = (lastTo X i k && !clash X i k) := by
  unfold lastTo
  rw [List.range_succ, List.all_append]
  simp [h]
theorem lastTo_no {X : List Out} {i j k : Nat} (h : lastTo X i k = true) (h1 : i < j) (h2 : j < k) : clash X i j = false := by
  unfold lastTo at h
  rw [List.all_eq_true] at h
  have := h j (List.mem_range.2 h2)
  simpa [h1] using this
def hit (X : List Out) (i : Nat) : Bool := decide (tkO (X.getD i Out.zero)) && lastTo X i X.length
theorem take_snoc' {X : List Out} {k : Nat} (h : k < X.length) : X.take (k + 1) = X.take k ++ [X.getD k Out.zero] := by
  rw [List.take_succ_eq_append_getElem h]; simp [List.getD, h]
theorem lv_some {X : List Out} {s g b : Int} : ∀ {k : Nat}, k ≤ X.length → lv (X.take k) s g = some b → ∃ i, i < k ∧ tkO (X.getD i Out.zero) ∧ (X.getD i Out.zero).slot = s ∧ (X.getD i Out.zero).gen = g ∧ (X.getD i Out.zero).backend = b ∧ lastTo X i k = true := by
  intro k
  induction k with
  | zero => intro _ h; simp [lv] at h
  | succ k ih =>
    intro hk h
    rw [take_snoc' (by omega), lv_snoc] at h
    unfold lvS at h
    have go : lv (X.take k) s g = some b → ¬ (((X.getD k Out.zero).slot = s ∧ (X.getD k Out.zero).gen = g) ∧ (tkO (X.getD k Out.zero) ∨ enO (X.getD k Out.zero))) → ∃ i, i < k + 1 ∧ tkO (X.getD i Out.zero) ∧ (X.getD i Out.zero).slot = s ∧ (X.getD i Out.zero).gen = g ∧ (X.getD i Out.zero).backend = b ∧ lastTo X i (k + 1) = true := by
      intro h1 h2
      obtain ⟨i, hi, a, b1, c, d, e⟩ := ih (by omega) h1
      refine ⟨i, by omega, a, b1, c, d, ?_⟩
      rw [lastTo_succ X hi, e]
      have : clash X i k = false := by unfold clash; rw [b1, c]; simpa using h2
      rw [this]; rfl
    by_cases he : (X.getD k Out.zero).slot = s ∧ (X.getD k Out.zero).gen = g
    · rw [if_pos he] at h
      by_cases ht : tkO (X.getD k Out.zero)
      · rw [if_pos ht] at h
        exact ⟨k, by omega, ht, he.1, he.2, by injection h, lastTo_start X k⟩
      · rw [if_neg ht] at h
        by_cases hn : enO (X.getD k Out.zero)
        · rw [if_pos hn] at h; cases h
        · rw [if_neg hn] at h
          exact go h (by rintro ⟨_, h1 | h1⟩; exact ht h1; exact hn h1)
    · rw [if_neg he] at h
      exact go h (fun h1 => he h1.1)
theorem lv_of {X : List Out} {i : Nat} (ht : tkO (X.getD i Out.zero)) : ∀ {k : Nat}, i < k → k ≤ X.length → lastTo X i k = true → lv (X.take k) (X.getD i Out.zero).slot (X.getD i Out.zero).gen = some (X.getD i Out.zero).backend := by
  intro k
  induction k with
  | zero => intro h; omega
  | succ k ih =>
    intro hi hk h
    rw [take_snoc' (by omega), lv_snoc]
    unfold lvS
    by_cases hik : i = k
    · subst hik
      rw [if_pos ⟨rfl, rfl⟩, if_pos ht]
    · rw [lastTo_succ X (by omega)] at h
      simp only [Bool.and_eq_true, Bool.not_eq_true'] at h
      have h1 := ih (by omega) (by omega) h.1
      have h2 := h.2
      unfold clash at h2
      simp only [decide_eq_false_iff_not] at h2
      by_cases he : (X.getD k Out.zero).slot = (X.getD i Out.zero).slot ∧ (X.getD k Out.zero).gen = (X.getD i Out.zero).gen
      · rw [if_pos he, if_neg (fun h => h2 ⟨he, Or.inl h⟩), if_neg (fun h => h2 ⟨he, Or.inr h⟩)]
        exact h1
      · rw [if_neg he]; exact h1
theorem hit_one {X : List Out} {i j : Nat} (hi : hit X i = true) (hj : hit X j = true) (li : i < X.length) (lj : j < X.length) (h1 : (X.getD i Out.zero).slot = (X.getD j Out.zero).slot) (h2 : (X.getD i Out.zero).gen = (X.getD j Out.zero).gen) : i = j := by
  unfold hit at hi hj
  simp only [Bool.and_eq_true, decide_eq_true_eq] at hi hj
  rcases Nat.lt_trichotomy i j with h | h | h
  · have := lastTo_no hi.2 h lj
    unfold clash at this
    simp only [decide_eq_false_iff_not] at this
    exact absurd ⟨⟨h1.symm, h2.symm⟩, Or.inl hj.1⟩ this
  · exact h
  · have := lastTo_no hj.2 h li
    unfold clash at this
    simp only [decide_eq_false_iff_not] at this
    exact absurd ⟨⟨h1, h2⟩, Or.inl hi.1⟩ this
/-- The reference's count among the first k. -/
def cntB (X : List Out) (k : Nat) (b : Int) : Nat := (List.range k).countP fun i => hit X i && decide ((X.getD i Out.zero).backend = b)
/-- The count of those that are no longer to come. -/
def cntL (X : List Out) (left : Lit → Bool) (b : Int) : Nat := (List.range X.length).countP fun i => hit X i && decide ((X.getD i Out.zero).backend = b) && !left (kE (X.getD i Out.zero).slot (X.getD i Out.zero).gen)
theorem cntB_succ (X : List Out) (k : Nat) (b : Int) : cntB X (k + 1) b = cntB X k b + (if hit X k = true ∧ (X.getD k Out.zero).backend = b then 1 else 0) := by
  unfold cntB
  rw [List.range_succ, List.countP_append]
  simp [List.countP_cons]
theorem countP_one {P Q : Nat → Bool} {i : Nat} : ∀ {n : Nat}, i < n → P i = false → Q i = true → (∀ j, j < n → j ≠ i → Q j = P j) → (List.range n).countP Q = (List.range n).countP P + 1 := by
  intro n
  induction n with
  | zero => intro h; omega
  | succ n ih =>
    intro hi h1 h2 h3
    rw [List.range_succ, List.countP_append, List.countP_append]
    by_cases he : i = n
    · subst he
      have : (List.range i).countP Q = (List.range i).countP P := List.countP_congr (fun j hj => by rw [h3 j (by have := List.mem_range.1 hj; omega) (by have := List.mem_range.1 hj; omega)])
      rw [this]; simp [h1, h2]
    · have := ih (by omega) h1 h2 (fun j hj => h3 j (by omega))
      rw [this]
      simp only [List.countP_cons, List.countP_nil]
      rw [h3 n (by omega) (fun h => he h.symm)]
      omega
theorem cntL_end {X : List Out} {left : Lit → Bool} (h : ∀ kl, left kl = false) (b : Int) : cntL X left b = cntB X X.length b := by
  unfold cntL cntB
  exact List.countP_congr (fun j _ => by simp [h])
theorem cntL_start {X : List Out} {D : DataW Unit} (hok : ∀ x ∈ X, x.ok) (hM : MapIs D X) (b : Int) : cntL X (has D) b = 0 := by
  unfold cntL
  rw [List.countP_eq_zero]
  intro i hi
  have li := List.mem_range.1 hi
  have hx : (X.getD i Out.zero).ok := hok _ (by simp only [List.getD, List.getElem?_eq_getElem li, Option.getD_some]; exact List.getElem_mem _)
  simp only [Bool.and_eq_true, Bool.not_eq_true', decide_eq_true_eq]
  rintro ⟨⟨h1, _⟩, h3⟩
  unfold hit at h1
  simp only [Bool.and_eq_true, decide_eq_true_eq] at h1
  have h4 := lv_of h1.1 li (Nat.le_refl _) h1.2
  rw [List.take_length] at h4
  have h5 := (hM _ _ hx.2.1 hx.2.2.1).2 _ h4
  have h6 := has_true_of_atKey h5
  rw [h6] at h3
  cases h3
theorem cntL_step {X : List Out} {D : DataW Unit} {left : Lit → Bool} {s g c : Int} (hok : ∀ x ∈ X, x.ok) (hM : MapIs D X) (hs : I64 s) (hg : I64 g) (hl : left (kE s g) = true) (hat : ∀ z, D.atKey (kE s g) z = .lit (.int .i64 c)) (b : Int) :
    cntL X (fun z => left z && !z.sameKey (kE s g)) b = cntL X left b + (if c = b then 1 else 0) := by
  have hlv : lv X s g = some c := by
    cases h : lv X s g with
    | none =>
      have h1 := (hM s g hs hg).1 h
      rw [has_true_of_atKey hat] at h1; cases h1
    | some d =>
      have h1 := (hM s g hs hg).2 d h .nil
      rw [hat] at h1
      simp only [DataW.lit.injEq, Lit.int.injEq, true_and] at h1
      rw [h1]
  rw [← List.take_length (l := X)] at hlv
  obtain ⟨i, hi, ht, e1, e2, e3, e4⟩ := lv_some (Nat.le_refl _) hlv
  have hhit : hit X i = true := by unfold hit; rw [e4]; simpa using ht
  have okx : ∀ j, j < X.length → (X.getD j Out.zero).ok := fun j lj => hok _ (by simp only [List.getD, List.getElem?_eq_getElem lj, Option.getD_some]; exact List.getElem_mem _)
  have oth : ∀ j, j < X.length → hit X j = true → j ≠ i → (kE (X.getD j Out.zero).slot (X.getD j Out.zero).gen).sameKey (kE s g) = false := by
    intro j lj hj hne
    refine sameKey_ne (kE_ne (okx j lj).2.1 (okx j lj).2.2.1 hs hg ?_)
    rintro ⟨h1, h2⟩
    exact hne (hit_one hj hhit lj hi (by rw [e1, h1]) (by rw [e2, h2]))
  unfold cntL
  by_cases hc : c = b
  · rw [if_pos hc]
    refine countP_one (i := i) hi ?_ ?_ ?_
    · rw [e1, e2, hl]; simp
    · rw [e1, e2, e3, hhit, hc]; simp [WideAt.sameKey_self (kE_key hs hg)]
    · intro j lj hne
      cases hj : hit X j with
      | false => rfl
      | true => dsimp only; rw [oth j lj hj hne]; simp
  · rw [if_neg hc, Nat.add_zero]
    refine List.countP_congr (fun j hj => ?_)
    have lj := List.mem_range.1 hj
    cases hh : hit X j with
    | false => rfl
    | true =>
      by_cases hne : j = i
      · subst hne
        rw [e3]; simp [hc]
      · dsimp only; rw [oth j lj hh hne]; simp
theorem lv_range {X : List Out} {D : DataW Unit} {s g c : Int} (hM : MapIs D X) (hs : I64 s) (hg : I64 g) (hat : ∀ z, D.atKey (kE s g) z = .lit (.int .i64 c)) : ∃ i, i < X.length ∧ (X.getD i Out.zero).backend = c := by
  cases h : lv X s g with
  | none =>
    have h1 := (hM s g hs hg).1 h
    rw [has_true_of_atKey hat] at h1; cases h1
  | some d =>
    have h1 := (hM s g hs hg).2 d h .nil
    rw [hat] at h1
    simp only [DataW.lit.injEq, Lit.int.injEq, true_and] at h1
    rw [← List.take_length (l := X)] at h
    obtain ⟨i, hi, _, _, _, e, _⟩ := lv_some (Nat.le_refl _) h
    exact ⟨i, hi, by rw [e, h1]⟩
/-- The twelve counts. -/
def outB (f : Int → Nat) : List Int := (List.range 12).map fun b : Nat => (f (b : Int) : Int)
theorem outB_len (f : Int → Nat) : (outB f).length = 12 := by simp [outB]
theorem outB_get (f : Int → Nat) {b : Nat} (h : b < 12) : (outB f).getD b 0 = (f (b : Int) : Int) := by simp [outB, List.getD, h]
theorem outB_congr {f f' : Int → Nat} (h : ∀ b, f b = f' b) : outB f = outB f' := by unfold outB; simp [h]
theorem outB_set {f f' : Int → Nat} {c : Nat} (h : ∀ b, f' b = f b + (if (c : Int) = b then 1 else 0)) : (outB f).set c ((f (c : Int) : Int) + 1) = outB f' := by
  apply List.ext_getElem (by simp [outB])
  intro n h1 h2
  have hn : n < 12 := by simpa [outB] using h2
  rw [List.getElem_set]
  simp only [outB, List.getElem_map, List.getElem_range]
  rw [h]
  by_cases he : c = n
  · subst he; simp
  · rw [if_neg he, if_neg (by omega)]; simp
theorem row_blk12 {w : World} {b : Nat} {acc : List Int} {T : TypeId} (h : w.heap[b]? = some (.cells (acc.map (fun n => Value.int .i64 n)).toArray T (0, 0))) (hl : acc.length = 12) : RowAt w 1 (.slice (some ⟨b, 0, none⟩) 12 12) (acc.map fun v => [Value.int .i64 v]) := by
  refine ⟨some ⟨b, 0, none⟩, 12, by simp [hl], by simp [hl], by unfold maxLen; omega, (fun h => by cases h), fun _ => ⟨b, 0, rfl, lt_of_block h, fun i j hi hj => ?_⟩⟩
  obtain rfl : j = 0 := by omega
  have hi' : i < acc.length := by simpa using hi
  rw [blk_cell h]
  simp [List.getD, hi']
theorem cntB_le (X : List Out) (k : Nat) (b : Int) : cntB X k b ≤ k := by
  unfold cntB
  exact Nat.le_trans List.countP_le_length (by simp)
theorem cntL_le (X : List Out) (left : Lit → Bool) (b : Int) : cntL X left b ≤ X.length := by
  unfold cntL
  exact Nat.le_trans List.countP_le_length (by simp)
end Go.Proofs.Ytjnfnmbkmgjdlaa
