/- A set of ints, kept in a map. -/
import Derived.Test.YthgfiadfpgfjdaaOwn
import Derived.Maps.Own
import Derived.Lib.Hide
namespace Go.Proofs.Ythgfiadfpgfjdaa
open Go.RowKit Go.ChangeMaps Go.Maps

def seenR : Value → Option (DataW Unit × List MemPlace) := fun _ => some (.nil, [])
def kI (i : Int) : Lit := .int .i64 i
theorem same_kI (i j : Int) : (kI i).sameKey (kI j) = decide (i = j) := by simp [kI, Lit.sameKey]
/-- Block b is a map whose keys are the numbers of ids. -/
def Seen (w : World) (b : Nat) (ids : List Int) : Prop := ∃ es : List (Lit × DataW Unit), w.ownsMap Try.prog 3 seenR b ids.length (.map es) ∧ (es.map (·.1)).Nodup ∧ (∀ q, q ∈ es.map (·.1) ↔ ∃ i ∈ ids, q = kI i) ∧ es.length ≤ ids.length ∧ (es.length = ids.length ↔ ids.Nodup)

theorem perm_insert (x : Lit × DataW Unit) : ∀ l, (DataW.insert x l).Perm (x :: l)
  | [] => .refl _
  | y :: r => by
    unfold DataW.insert
    split
    · exact .refl _
    · exact (List.Perm.cons y (perm_insert x r)).trans (List.Perm.swap _ _ _)

theorem key_int : Keyed Try.prog 3 := int_keyed Try.underlying3

theorem Seen_made (w : World) : Seen (w.alloc (.map #[] 0)) w.heap.size [] := ⟨[], World.ownsMap_made w _ _ _, by simp, by simp, by simp, by simp⟩
theorem Seen_kept {w w' : World} {b : Nat} {ids : List Int} (h : Seen w b ids) (hb : w'.heap[b]? = w.heap[b]?) : Seen w' b ids := by
  obtain ⟨es, ⟨arr, cl, h1, h2⟩, h3⟩ := h
  exact ⟨es, ⟨arr, cl, hb.trans h1, h2⟩, h3⟩
theorem Seen_lt {w : World} {b : Nat} {ids : List Int} (h : Seen w b ids) : b < w.heap.size := by
  obtain ⟨es, h1, _⟩ := h; exact h1.lt
theorem Seen_len {w : World} {b : Nat} {ids : List Int} (h : Seen w b ids) : ∃ (n : Nat) (arr : Array MapEntry) (cl : Nat), w.heap[b]? = some (.map arr cl) ∧ arr.size = n ∧ n ≤ ids.length ∧ (n = ids.length ↔ ids.Nodup) := by
  obtain ⟨es, ⟨arr, cl, h1, _, _, h2⟩, h3, h4, h5, h6⟩ := h
  simp only [DataW.map.injEq] at h2
  have e : es.length = arr.size := by rw [h2, length_sorted]; simp
  rw [e] at h5 h6
  exact ⟨_, arr, cl, h1, rfl, h5, h6⟩
theorem Seen_put {es : List (Lit × DataW Unit)} {ids : List Int} (h3 : (es.map (·.1)).Nodup) (h4 : ∀ q, q ∈ es.map (·.1) ↔ ∃ i ∈ ids, q = kI i) (h5 : es.length ≤ ids.length) (h6 : es.length = ids.length ↔ ids.Nodup) (i : Int) :
    ((putKey (kI i) (.nil : DataW Unit) es).map (·.1)).Nodup ∧ (∀ q, q ∈ (putKey (kI i) (.nil : DataW Unit) es).map (·.1) ↔ ∃ j ∈ ids ++ [i], q = kI j) ∧ (putKey (kI i) (.nil : DataW Unit) es).length ≤ (ids ++ [i]).length ∧ ((putKey (kI i) (.nil : DataW Unit) es).length = (ids ++ [i]).length ↔ (ids ++ [i]).Nodup) := by
  have hp := perm_insert (kI i, .nil) (es.filter (notKey (kI i)))
  have hpm := hp.map (·.1)
  have hk : ∀ p ∈ es, (notKey (kI i) p = true ↔ p.1 ≠ kI i) := by
    intro p hp
    obtain ⟨j, _, hj⟩ := (h4 p.1).1 (List.mem_map_of_mem hp)
    unfold notKey
    rw [hj, same_kI]
    simp [kI]
  have hm : ∀ q, q ∈ (es.filter (notKey (kI i))).map (·.1) ↔ q ∈ es.map (·.1) ∧ q ≠ kI i := by
    intro q
    simp only [List.mem_map, List.mem_filter]
    constructor
    · rintro ⟨p, ⟨hp1, hp2⟩, rfl⟩
      exact ⟨⟨p, hp1, rfl⟩, (hk p hp1).1 hp2⟩
    · rintro ⟨⟨p, hp1, rfl⟩, hne⟩
      exact ⟨p, ⟨hp1, (hk p hp1).2 hne⟩, rfl⟩
  have hlen : (putKey (kI i) (.nil : DataW Unit) es).length = (es.filter (notKey (kI i))).length + 1 := by
    unfold putKey
    rw [hp.length_eq]; simp
  have hle : (es.filter (notKey (kI i))).length ≤ es.length := List.length_filter_le _ _
  refine ⟨?_, ?_, ?_, ?_⟩
  · unfold putKey
    rw [hpm.nodup_iff]
    simp only [List.map_cons, List.nodup_cons]
    refine ⟨fun h => ((hm _).1 h).2 rfl, h3.sublist (List.Sublist.map _ List.filter_sublist)⟩
  · intro q
    unfold putKey
    rw [hpm.mem_iff]
    simp only [List.map_cons, List.mem_cons, hm, h4, List.mem_append, List.not_mem_nil, or_false]
    constructor
    · rintro (h | ⟨⟨j, hj, rfl⟩, _⟩)
      · exact ⟨i, Or.inr rfl, h⟩
      · exact ⟨j, Or.inl hj, rfl⟩
    · rintro ⟨j, hj | rfl, rfl⟩
      · by_cases e : kI j = kI i
        · exact Or.inl e
        · exact Or.inr ⟨⟨j, hj, rfl⟩, e⟩
      · exact Or.inl rfl
  · rw [hlen]; simp; omega
  · rw [hlen]
    simp only [List.length_append, List.length_cons, List.length_nil]
    have hnd : (ids ++ [i]).Nodup ↔ ids.Nodup ∧ i ∉ ids := by
      rw [List.nodup_append]
      constructor
      · rintro ⟨a, _, c⟩
        exact ⟨a, fun h => c i h i (by simp) rfl⟩
      · rintro ⟨a, c⟩
        refine ⟨a, by simp, fun x hx y hy => ?_⟩
        simp at hy
        subst hy
        exact fun e => c (e ▸ hx)
    rw [hnd]
    by_cases hin : i ∈ ids
    · have hlt : (es.filter (notKey (kI i))).length < es.length := by
        obtain ⟨p, hp1, hp2⟩ := List.mem_map.1 ((h4 (kI i)).2 ⟨i, hin, rfl⟩)
        rcases Nat.lt_or_ge (es.filter (notKey (kI i))).length es.length with h | h
        · exact h
        · exfalso
          have := List.filter_sublist.eq_of_length_le (l₁ := es.filter (notKey (kI i))) (l₂ := es) h
          have h9 : p ∈ es.filter (notKey (kI i)) := by rw [this]; exact hp1
          exact (hk p hp1).1 (List.mem_filter.1 h9).2 hp2
      constructor
      · intro h; omega
      · intro h; exact absurd hin h.2
    · have hall : es.filter (notKey (kI i)) = es := by
        rw [List.filter_eq_self]
        intro p hp
        refine (hk p hp).2 fun e => hin ?_
        obtain ⟨j, hj, hj2⟩ := (h4 p.1).1 (List.mem_map_of_mem hp)
        rw [e] at hj2
        simp only [kI, Lit.int.injEq, true_and] at hj2
        rw [hj2]; exact hj
      rw [hall]
      constructor
      · intro h; exact ⟨h6.1 (by omega), hin⟩
      · intro h; have := h6.2 h.1; omega
theorem Seen_upd {w' : World} {b : Nat} {ids : List Int} {i : Int} {es : List (Lit × DataW Unit)} (h3 : (es.map (·.1)).Nodup) (h4 : ∀ q, q ∈ es.map (·.1) ↔ ∃ i ∈ ids, q = kI i) (h5 : es.length ≤ ids.length) (h6 : es.length = ids.length ↔ ids.Nodup)
    (h : w'.ownsMap Try.prog 3 seenR b (ids.length + 1) ((DataW.map es).put (kI i) .nil)) : Seen w' b (ids ++ [i]) := by
  rw [DataW.put_eq] at h
  obtain ⟨a1, a2, a3, a4⟩ := Seen_put h3 h4 h5 h6 i
  exact ⟨_, by simpa using h, a1, a2, a3, a4⟩
theorem map_len {b : Nat} {es : Array MapEntry} {clock : Nat} {w : World} (hb : w.heap[b]? = some (.map es clock)) (ty : TypeId) : (Builtin.len_ #[56] ty #[.map (some b)]).run Try.prog w = .ok (.int .i64 es.size) w := by
  simp [Builtin.len_, run_underlying Try.underlying56, MapKept.run_getObj_map hb, goInt]
theorem map_keep {w w' : World} {b n : Nat} {D : DataW Unit} (h : w.ownsMap Try.prog 3 seenR b n D) (hb : Below w.heap.size w w') : w'.ownsMap Try.prog 3 seenR b n D := by
  obtain ⟨arr, cl, h1, h2⟩ := h
  exact ⟨arr, cl, (hb.block _ (lt_of_block h1)).trans h1, h2⟩
theorem map_below {B b : Nat} {w w1 w2 : World} (h : Below B w w1) (hg : w1.grownBy w2 (some b)) (hs : B ≤ w1.heap.size) (hB : B ≤ b) : Below B w w2 :=
  h.grown hg hs (by intro r hr; cases hr; exact hB)
theorem map_size {b : Nat} {w1 w2 : World} (hg : w1.grownBy w2 (some b)) : w1.heap.size ≤ w2.heap.size := hg.size
theorem map_cell {b c o : Nat} {v : Value} {w1 w2 : World} (hg : w1.grownBy w2 (some b)) (hc : c ≠ b) (h : w1.cell? ⟨c, o, none⟩ = some v) : w2.cell? ⟨c, o, none⟩ = some v :=
  (World.cell?_of_block (w := w1) (w' := w2) (a := ⟨c, o, none⟩) (hg.block c (cell_lt h) (by simpa using hc))).trans h
end Go.Proofs.Ythgfiadfpgfjdaa
