/- Lists of timers in memory: a wheel that came in; a wheel that the call owns. -/
import Derived.Test.YthgfiadfpgfjdaaWhL
import Derived.Test.YthgfiadfpgfjdaaSetRow
import Derived.Test.YthgfiadfpgfjdaaCloneTm
import Derived.Maps.AppendAt
namespace Go.Proofs.Ythgfiadfpgfjdaa
open Go.RowKit
/-- v is a slice of slices: the lists LL. -/
def LsAt (w : World) (v : Value) (LL : List (List Tm)) : Prop := ∃ V : List Value, V.length = LL.length ∧ RowAt w 1 v (V.map fun x => [x]) ∧ ∀ i, i < LL.length → RowAt w 2 (V.getD i undef) ((LL.getD i []).map Tm.cells)
theorem LsAt_below {w w' : World} {v : Value} {LL : List (List Tm)} (h : LsAt w v LL) (hb : Below w.heap.size w w') : LsAt w' v LL := by
  obtain ⟨V, h1, h2, h3⟩ := h
  exact ⟨V, h1, RowAt_below h2 hb, fun i hi => RowAt_below (h3 i hi) hb⟩
/-- .. in memory from block B on. -/
def LsNew (B : Nat) (w : World) (v : Value) (LL : List (List Tm)) : Prop := ∃ V : List Value, V.length = LL.length ∧ RowNew B w 1 v (V.map fun x => [x]) ∧ ∀ i, i < LL.length → RowNew B w 2 (V.getD i undef) ((LL.getD i []).map Tm.cells)
theorem LsNew.at_ {B : Nat} {w : World} {v : Value} {LL : List (List Tm)} (h : LsNew B w v LL) : LsAt w v LL := by
  obtain ⟨V, h1, h2, h3⟩ := h
  exact ⟨V, h1, h2.1, fun i hi => (h3 i hi).1⟩
theorem LsNew_below {B : Nat} {w w' : World} {v : Value} {LL : List (List Tm)} (h : LsNew B w v LL) (hb : Below w.heap.size w w') : LsNew B w' v LL := by
  obtain ⟨V, h1, h2, h3⟩ := h
  exact ⟨V, h1, RowNew_below h2 hb, fun i hi => RowNew_below (h3 i hi) hb⟩
theorem LsNew_mono {B B' : Nat} {w : World} {v : Value} {LL : List (List Tm)} (h : LsNew B w v LL) (hB : B' ≤ B) : LsNew B' w v LL := by
  obtain ⟨V, h1, h2, h3⟩ := h
  exact ⟨V, h1, RowNew_mono h2 hB, fun i hi => RowNew_mono (h3 i hi) hB⟩
theorem LsAt_shape {w : World} {v : Value} {LL : List (List Tm)} (h : LsAt w v LL) : ∃ a cap, v = .slice a LL.length cap := by
  obtain ⟨V, h1, h2, _⟩ := h
  obtain ⟨a, c, rfl, _⟩ := RowAt_shape (f := fun x : Value => [x]) h2
  exact ⟨a, c, by rw [h1]⟩
theorem own_move {w w' : World} {B sz n : Nat} {t : TypeId} {v : Value} {cs : List Value} (h : w.ownsRow B t sz v n cs) (hb : ∀ b, v.ownBlock = some b → w'.heap[b]? = w.heap[b]?) : w'.ownsRow B t sz v n cs := by
  obtain ⟨h1, h2 | ⟨g, cap, cur, rfl, h4, h5, h6⟩⟩ := h
  · exact ⟨h1, Or.inl h2⟩
  · exact ⟨h1, Or.inr ⟨g, cap, cur, rfl, h4, (hb g rfl).trans h5, h6⟩⟩
theorem own_base' {w : World} {B B' sz n : Nat} {t : TypeId} {v : Value} {cs : List Value} (h : w.ownsRow B t sz v n cs) (hB : B' ≤ B) : w.ownsRow B' t sz v n cs := by
  obtain ⟨h1, h2 | ⟨g, cap, cur, h3, h4, h5, h6⟩⟩ := h
  · exact ⟨h1, Or.inl h2⟩
  · exact ⟨h1, Or.inr ⟨g, cap, cur, h3, Nat.le_trans hB h4, h5, h6⟩⟩
/-- The lists LL lie in rows of the call's own, each in a block of its own; V: the rows' values. -/
def OwnLs (B : Nat) (w : World) (v : Value) (LL : List (List Tm)) (V : List Value) : Prop := V.length = LL.length ∧ w.ownsRow B 38 1 v LL.length V ∧
  (∀ i, i < LL.length → w.ownsRow B 43 2 (V.getD i undef) (LL.getD i []).length ((LL.getD i []).map Tm.cells).flatten) ∧
  (∀ i, i < LL.length → ∀ b, (V.getD i undef).ownBlock = some b → v.ownBlock ≠ some b) ∧
  (∀ i j, i < j → j < LL.length → ∀ b, (V.getD i undef).ownBlock = some b → (V.getD j undef).ownBlock ≠ some b)
theorem OwnLs_nil (B : Nat) (w : World) : OwnLs B w (.slice none 0 0) [] [] := ⟨rfl, World.ownsRow_nil _ _ _ _, by simp, by simp, by simp⟩
theorem OwnLs_move {B : Nat} {w w' : World} {v : Value} {LL : List (List Tm)} {V : List Value} (h : OwnLs B w v LL V) (hb : ∀ b, B ≤ b → b < w.heap.size → w'.heap[b]? = w.heap[b]?) : OwnLs B w' v LL V := by
  obtain ⟨h1, h2, h3, h4, h5⟩ := h
  exact ⟨h1, own_move h2 (fun b hv => hb b (h2.lt b hv).1 (h2.lt b hv).2), fun i hi => own_move (h3 i hi) (fun b hv => hb b ((h3 i hi).lt b hv).1 ((h3 i hi).lt b hv).2), h4, h5⟩
theorem OwnLs_below {B : Nat} {w w' : World} {v : Value} {LL : List (List Tm)} {V : List Value} (h : OwnLs B w v LL V) (hb : Below w.heap.size w w') : OwnLs B w' v LL V := OwnLs_move h (fun b _ hb' => hb.block b hb')
theorem OwnLs_base {B B' : Nat} {w : World} {v : Value} {LL : List (List Tm)} {V : List Value} (h : OwnLs B w v LL V) (hB : B' ≤ B) : OwnLs B' w v LL V := by
  obtain ⟨h1, h2, h3, h4, h5⟩ := h
  exact ⟨h1, own_base' h2 hB, fun i hi => own_base' (h3 i hi) hB, h4, h5⟩
theorem getD_snoc_lt {α : Type} {V : List α} {x d : α} {i : Nat} (h : i < V.length) : (V ++ [x]).getD i d = V.getD i d := by simp [List.getD, List.getElem?_append_left h]
theorem getD_snoc_eq {α : Type} {V : List α} {x d : α} : (V ++ [x]).getD V.length d = x := by simp [List.getD]
theorem OwnLs_push {B : Nat} {w w1 w2 w3 : World} {v v' x : Value} {LL : List (List Tm)} {L : List Tm} {V : List Value} (h : OwnLs B w v LL V) (hB : B ≤ w.heap.size) (hb1 : Below w.heap.size w w1) (hx : w1.ownsRow w.heap.size 43 2 x L.length (L.map Tm.cells).flatten)
    (hb2 : Below w1.heap.size w1 w2) (happ : w3.ownsRow B 38 1 v' (LL.length + 1) (V ++ [x])) (hg : w2.grownBy w3 v.ownBlock) (hat : v'.ownBlock = v.ownBlock ∨ v'.ownBlock = some w2.heap.size) : OwnLs B w3 v' (LL ++ [L]) (V ++ [x]) := by
  obtain ⟨h1, h2, h3, h4, h5⟩ := h
  have s1 := hb1.size
  have s2 := hb2.size
  have keep : ∀ b, b < w2.heap.size → v.ownBlock ≠ some b → w3.heap[b]? = w2.heap[b]? := fun b hb hne => hg.block b hb (fun e => hne e.symm)
  have old : ∀ b, b < w.heap.size → w2.heap[b]? = w.heap[b]? := fun b hb => (hb2.block b (by omega)).trans (hb1.block b hb)
  have hvb : ∀ b, v.ownBlock = some b → b < w.heap.size := fun b hb => (h2.lt b hb).2
  have hV : V.length = LL.length := h1
  refine ⟨by simp [h1], by rw [List.length_append]; exact happ, fun i hi => ?_, fun i hi b hb hv' => ?_, fun i j hij hj b hb hb' => ?_⟩
  · rw [List.length_append, List.length_singleton] at hi
    rcases (show i < LL.length ∨ i = LL.length by omega) with hi' | rfl
    · rw [getD_snoc_lt (by omega), getD_snoc_lt hi']
      exact own_move (h3 i hi') fun b hb => by
        have := ((h3 i hi').lt b hb).2
        rw [keep b (by omega) (h4 i hi' b hb), old b this]
    · rw [getD_snoc_eq, ← hV, getD_snoc_eq]
      refine own_base' (own_move hx fun b hb => ?_) hB
      have := hx.lt b hb
      rw [keep b (by omega) (fun e => by have := hvb b e; omega)]
      exact hb2.block b this.2
  · rw [List.length_append, List.length_singleton] at hi
    have hbl : b < w2.heap.size ∧ v.ownBlock ≠ some b := by
      rcases (show i < LL.length ∨ i = LL.length by omega) with hi' | rfl
      · rw [getD_snoc_lt (by omega)] at hb
        have := ((h3 i hi').lt b hb).2
        exact ⟨by omega, h4 i hi' b hb⟩
      · rw [← hV, getD_snoc_eq] at hb
        have := hx.lt b hb
        exact ⟨by omega, fun e => by have := hvb b e; omega⟩
    rcases hat with h | h
    · rw [h] at hv'; exact hbl.2 hv'
    · rw [h] at hv'; injection hv' with e; omega
  · rw [List.length_append, List.length_singleton] at hj
    rw [getD_snoc_lt (by omega)] at hb
    have hbi := ((h3 i (by omega)).lt b hb).2
    rcases (show j < LL.length ∨ j = LL.length by omega) with hj' | rfl
    · rw [getD_snoc_lt (by omega)] at hb'
      exact h5 i j hij hj' b hb hb'
    · rw [← hV, getD_snoc_eq] at hb'
      have := hx.lt b hb'
      omega
theorem singles_flat : ∀ V : List Value, (V.map fun x => [x]).flatten = V
  | [] => rfl
  | x :: V => by simpa using singles_flat V
theorem OwnLs_new {B : Nat} {w : World} {v : Value} {LL : List (List Tm)} {V : List Value} (h : OwnLs B w v LL V) : LsNew B w v LL := by
  obtain ⟨h1, h2, h3, _⟩ := h
  refine ⟨V, h1, RowNew_of_owns (e := 38) (n := LL.length) ?_ (by rw [List.length_map]; exact h1) (by intro c hc; simp only [List.mem_map] at hc; obtain ⟨x, _, rfl⟩ := hc; rfl), fun i hi => RowNew_of_owns (h3 i hi) (by rw [List.length_map]) (lenc_Tm _)⟩
  rw [singles_flat]; exact h2
theorem wp_append_at {P : Program} (w : World) {o : Oper} {a : Act} {K : Act → World → Prop} {Q : Exit → Act → World → Prop} (s x : Operand) (t : TypeId)
    (ho : o.op = .call { callee := .builtin .append, args := #[s, x], argTypes := #[t, t] })
    (base : Nat) (e : TypeId) (i : TypeInfo) (z : Value) (size bytes : Nat) (ht : P.underlying t = some (.slice e)) (hi : P.info? e = some i) (hz : i.zero = some z)
    (hsize : i.size = size) (hby : i.bytes = bytes) (hzs : z.cells.size = size) (hsz : 0 < size)
    (v : Value) (n : Nat) (xs : List Value) (hs : a.eval s = v) (hown : w.ownsRow base e size v n xs)
    (ad : Addr) (m c : Nat) (news : List Value) (hx : a.eval x = .slice (some ad) m c) (hl : news.length = m * size) (hnews : ∀ j u, news[j]? = some u → w.cell? (ad.add j) = some u) (h1 : ∀ u ∈ news, u.oneCell' = true)
    (h63 : n + m ≤ maxLen) (hbytes : (n + m) * bytes ≤ 140737488355328) (hbase : base ≤ w.heap.size)
    (h : ∀ v' w', w'.ownsRow base e size v' (n + m) (xs ++ news) → w.grownBy w' v.ownBlock → (v'.ownBlock = v.ownBlock ∨ v'.ownBlock = some w.heap.size) → K (a.put o.dst v') w') :
    o.wp P a w K Q := by
  obtain ⟨v', w', hr, h2, h3, _, h5⟩ := run_append_own_at (P := P) w base t o.type e i z size bytes ht hi hz hsize hby hzs hsz v n xs hown ad m c news hl hnews h1 h63 hbytes hbase
  unfold Oper.wp execOp
  simp only [ho, resolve, invoke, builtin, Sem.run_bind, Sem.run_pure, Result.andThen_ok, List.map_toArray, List.map_cons, List.map_nil, hs, hx, hr]
  exact h v' w' h2 h3 h5
end Go.Proofs.Ythgfiadfpgfjdaa
