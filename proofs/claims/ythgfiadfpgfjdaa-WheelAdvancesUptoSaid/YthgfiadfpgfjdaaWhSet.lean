/- One list of a wheel of the call's own is changed; wheels with a timer less. -/
import Derived.Test.YthgfiadfpgfjdaaDelTm
namespace Go.Proofs.Ythgfiadfpgfjdaa
open Go.RowKit
theorem getD_set_eq {α : Type} {V : List α} {a : Nat} {x d : α} (h : a < V.length) : (V.set a x).getD a d = x := by simp [List.getD, h]
theorem getD_set_ne {α : Type} {V : List α} {a i : Nat} {x d : α} (h : a ≠ i) : (V.set a x).getD i d = V.getD i d := by simp [List.getD, h]
theorem OwnLs_set {B : Nat} {w w' : World} {v v' : Value} {LL : List (List Tm)} {L' : List Tm} {V : List Value} {a g0 c0 : Nat} (h : OwnLs B w v LL V) (ha : a < LL.length) (hv : v = .slice (some ⟨g0, 0, none⟩) LL.length c0)
    (hblk : ∀ b, b < w.heap.size → (V.getD a undef).ownBlock ≠ some b → w'.heap[b]? = w.heap[b]?) (hat : ∀ b, v'.ownBlock = some b → (V.getD a undef).ownBlock = some b ∨ w.heap.size ≤ b) (hnew : w'.ownsRow B 43 2 v' L'.length (L'.map Tm.cells).flatten) :
    OwnLs B (w'.setCell ⟨g0, a, none⟩ v') v (LL.set a L') (V.set a v') := by
  obtain ⟨h1, h2, h3, h4, h5⟩ := h
  have hv0 : v.ownBlock = some g0 := by rw [hv]; rfl
  have hg0 := h2.lt g0 hv0
  have haV : a < V.length := by omega
  have hne0 : ∀ b, v'.ownBlock = some b → b ≠ g0 := by
    intro b hb e
    subst e
    rcases hat b hb with h | h
    · exact h4 a ha b h hv0
    · omega
  have hother : ∀ i, i < LL.length → i ≠ a → ∀ b, (V.getD i undef).ownBlock = some b → (V.getD a undef).ownBlock ≠ some b := by
    intro i hi hne b hb hb'
    rcases Nat.lt_or_gt_of_ne hne with h | h
    · exact h5 i a h ha b hb hb'
    · exact h5 a i h hi b hb' hb
  have hrow : w'.ownsRow B 38 1 v LL.length V := own_move h2 (fun b hb => by
    have e : b = g0 := by rw [hv0] at hb; injection hb with e; exact e.symm
    subst e
    exact hblk b hg0.2 (fun hb' => h4 a ha b hb' hv0))
  refine ⟨by simp [h1], ?_, fun i hi => ?_, fun i hi b hb hv' => ?_, fun i j hij hj b hb hb' => ?_⟩
  · rw [List.length_set]
    subst hv
    exact (hrow.stored _ _).1
  · rw [List.length_set] at hi
    by_cases hia : i = a
    · subst hia
      rw [getD_set_eq haV, getD_set_eq ha]
      exact own_move hnew (fun b hb => Below.heap_setCell _ _ _ _ (hne0 b hb))
    · rw [getD_set_ne (fun e => hia e.symm), getD_set_ne (fun e => hia e.symm)]
      refine own_move (h3 i hi) (fun b hb => ?_)
      have h6 := (h3 i hi).lt b hb
      rw [Below.heap_setCell _ _ _ _ (fun e : b = g0 => h4 i hi b hb (by rw [hv0, e])), hblk b h6.2 (hother i hi hia b hb)]
  · rw [List.length_set] at hi
    by_cases hia : i = a
    · subst hia
      rw [getD_set_eq haV] at hb
      rw [hv0] at hv'; injection hv' with e
      exact hne0 b hb e.symm
    · rw [getD_set_ne (fun e => hia e.symm)] at hb
      exact h4 i hi b hb hv'
  · rw [List.length_set] at hj
    have key : ∀ i, i < LL.length → i ≠ a → ∀ b, (V.getD i undef).ownBlock = some b → v'.ownBlock ≠ some b := by
      intro i hi hne b hb hb'
      rcases hat b hb' with h | h
      · exact hother i hi hne b hb h
      · have := ((h3 i hi).lt b hb).2; omega
    by_cases hia : i = a
    · subst hia
      rw [getD_set_eq haV] at hb
      rw [getD_set_ne (by omega)] at hb'
      exact key j hj (by omega) b hb' hb
    · rw [getD_set_ne (fun e => hia e.symm)] at hb
      by_cases hja : j = a
      · subst hja
        rw [getD_set_eq haV] at hb'
        exact key i (by omega) hia b hb hb'
      · rw [getD_set_ne (fun e => hja e.symm)] at hb'
        exact h5 i j hij hj b hb hb'
/- A timer less. -/
theorem nodup_inj {α β : Type} (f : α → β) : ∀ {L : List α}, (L.map f).Nodup → ∀ {x y : α}, x ∈ L → y ∈ L → f x = f y → x = y := by
  intro L
  induction L with
  | nil => intro _ x y h; cases h
  | cons a L ih =>
    intro hn x y hx hy e
    rw [List.map_cons, List.nodup_cons] at hn
    rcases List.mem_cons.1 hx with rfl | hx
    · rcases List.mem_cons.1 hy with rfl | hy
      · rfl
      · exact absurd (by rw [e]; exact List.mem_map_of_mem hy) hn.1
    · rcases List.mem_cons.1 hy with e2 | hy
      · exact absurd (by rw [← e2, ← e]; exact List.mem_map_of_mem hx) hn.1
      · exact ih hn.2 hx hy e
theorem wh_uniq {now : Int} {LL : List (List Tm)} (h : WhMay now LL) {i j : Nat} (hi : i < 25) (hj : j < 25) {s t : Tm} (hs : s ∈ LL.getD i []) (ht : t ∈ LL.getD j []) (e : s.id = t.id) : i = j ∧ s = t := by
  have hl := h.2.2.1
  have e1 := nodup_inj Tm.id h.2.2.2.2 (mem_flat.2 ⟨i, by omega, hs⟩) (mem_flat.2 ⟨j, by omega, ht⟩) e
  subst e1
  exact ⟨((h.2.2.2.1 i hi).1 s hs).2.symm.trans ((h.2.2.2.1 j hj).1 s ht).2, rfl⟩
theorem filter_comm {α : Type} (p q : α → Bool) (L : List α) : (L.filter p).filter q = (L.filter q).filter p := by
  rw [List.filter_filter, List.filter_filter]
  exact List.filter_congr fun x _ => Bool.and_comm _ _
theorem tids_list {LL : List (List Tm)} {a : Nat} (ha : a < LL.length) (h : (tids LL.flatten).Nodup) : (tids (LL.getD a [])).Nodup := by
  have e : LL.getD a [] = LL[a] := by simp [List.getD, ha]
  rw [e]
  exact ((List.sublist_flatten_of_mem (List.getElem_mem ha)).map Tm.id).nodup h
/-- The wheel with the timer at (a, b) taken out. -/
theorem wh_less {now : Int} {LL : List (List Tm)} (h : WhMay now LL) {a b : Nat} (ha : a < 25) (hb : b < (LL.getD a []).length) {id : Int} (hid : ((LL.getD a []).getD b Tm.zero).id = id) :
    LL.set a ((LL.getD a []).take b ++ (LL.getD a []).drop (b + 1)) = wheelOf now (LL.flatten.filter fun t => !(t.id == id)) := by
  have hl := h.2.2.1
  obtain ⟨t, ht⟩ : ∃ t, t = (LL.getD a []).getD b Tm.zero := ⟨_, rfl⟩
  have htm := tm_mem ht hb
  rw [← ht] at hid
  have hsplit : LL.getD a [] = (LL.getD a []).take b ++ t :: (LL.getD a []).drop (b + 1) := by
    have : t = (LL.getD a [])[b] := by rw [ht, List.getD_eq_getElem?_getD, List.getElem?_eq_getElem hb]; rfl
    rw [this, List.getElem_cons_drop, List.take_append_drop]
  have hnd := tids_list (a := a) (by omega) h.2.2.2.2
  rw [hsplit] at hnd
  simp only [tids, List.map_append, List.map_cons] at hnd
  rw [List.nodup_append] at hnd
  have hn2 := List.nodup_cons.1 hnd.2.1
  have hfil : (LL.getD a []).filter (fun t => !(t.id == id)) = (LL.getD a []).take b ++ (LL.getD a []).drop (b + 1) := by
    conv => lhs; rw [hsplit]
    rw [List.filter_append, List.filter_cons]
    have e1 : (!(t.id == id)) = false := by simp [hid]
    rw [e1, if_neg (by simp), List.filter_eq_self.2 ?_, List.filter_eq_self.2 ?_]
    · intro x hx
      have : x.id ≠ t.id := fun e => hn2.1 (by rw [← e]; exact List.mem_map_of_mem hx)
      simp; rw [← hid]; exact this
    · intro x hx
      have : x.id ≠ t.id := hnd.2.2 _ (List.mem_map_of_mem hx) _ List.mem_cons_self
      simp; rw [← hid]; exact this
  refine lists_ext (by rw [List.length_set]; exact hl) (wheelOf_len _ _) fun i hi => ?_
  rw [wheelOf_get _ _ hi, filter_comm, at_place hl (fun j hj t ht => ((h.2.2.2.1 j hj).1 t ht).2) hi]
  by_cases hia : i = a
  · subst hia
    rw [getD_set_eq (by omega), hfil]
    refine (srtT_id ?_).symm
    rw [← hfil]
    exact (h.2.2.2.1 i hi).2.filter _
  · rw [getD_set_ne (fun e => hia e.symm), List.filter_eq_self.2 ?_]
    · exact (srtT_id (h.2.2.2.1 i hi).2).symm
    · intro x hx
      have : x.id ≠ id := fun e => hia (wh_uniq h hi ha hx htm (by rw [e, hid])).1
      simpa using this
end Go.Proofs.Ythgfiadfpgfjdaa
