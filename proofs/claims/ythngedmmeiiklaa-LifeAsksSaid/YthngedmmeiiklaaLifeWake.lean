/- What life.Wake does to lives; a book at work in any struct. -/
import Derived.Test.YthngedmmeiiklaaLifeSet
import Derived.Test.YthngedmmeiiklaaLifeChkW
namespace Go.Proofs.Ythngedmmeiiklaa
open Go.RowKit

theorem info_wkint : (Try.prog.info? 3).map (fun i => (i.zero, i.size, i.bytes)) = some (some (.int .i64 0), 1, 8) := by kernel_rfl
theorem wk_flat (Y : List Int) : (Y.map fun x => [Value.int .i64 x]).flatten = Y.map (Value.int .i64) := by
  induction Y with
  | nil => rfl
  | cons y Y ih => simp [ih]
theorem wk_one (Y : List Int) : ∀ c ∈ Y.map fun x => [Value.int .i64 x], c.length = 1 := by
  intro c hc; simp only [List.mem_map] at hc; obtain ⟨x, _, rfl⟩ := hc; rfl
/-- A book at work in a block of type T. -/
structure BkG (T : TypeId) (B : Nat) (w : World) (p : Nat) (v1 v2 : Value) (L : List Lf) (R : List Rq) : Prop where
  hB : B ≤ p
  hh : w.heap[p]? = some (.cells #[v1, v2] T (0, 0))
  o1 : w.ownsRow B 44 6 v1 L.length (L.map Lf.cells).flatten
  o2 : w.ownsRow B 31 5 v2 R.length (R.map Rq.cells).flatten
  l1 : ∀ b, v1.ownBlock = some b → b < p
  l2 : ∀ b, v2.ownBlock = some b → b < p
  dis : ∀ b, v1.ownBlock = some b → v2.ownBlock ≠ some b
theorem BkAt.g {B : Nat} {w : World} {p : Nat} {v1 v2 : Value} {L : List Lf} {R : List Rq} (h : BkAt B w p v1 v2 L R) : BkG 56 B w p v1 v2 L R := ⟨h.hB, h.hh, h.o1, h.o2, h.l1, h.l2, h.dis⟩
theorem own_keepN {w w' : World} {N B e sz n : Nat} {v : Value} {cs : List Value} (h : w.ownsRow B e sz v n cs) (hb : Below N w w') (hl : ∀ b, v.ownBlock = some b → b < N) : w'.ownsRow B e sz v n cs := by
  obtain ⟨h1, h2 | ⟨g, cap', cur, h3, h4, h5, h6⟩⟩ := h
  · exact ⟨h1, Or.inl h2⟩
  · exact ⟨h1, Or.inr ⟨g, cap', cur, h3, h4, (hb.block _ (hl g (by rw [h3]; rfl))).trans h5, h6⟩⟩
section
variable {T B p : Nat} {w w' : World} {v1 v2 : Value} {L : List Lf} {R : List Rq}
theorem BkG.far (h : BkG T B w p v1 v2 L R) {N : Nat} (hb : Below N w w') (hp : p < N) : BkG T B w' p v1 v2 L R :=
  ⟨h.hB, blk_below hb h.hh hp, own_keepN h.o1 hb (fun b hb => Nat.lt_trans (h.l1 b hb) hp), own_keepN h.o2 hb (fun b hb => Nat.lt_trans (h.l2 b hb) hp), h.l1, h.l2, h.dis⟩
theorem BkG.lt (h : BkG T B w p v1 v2 L R) : p < w.heap.size := lt_of_block h.hh
theorem BkG.r1 (h : BkG T B w p v1 v2 L R) : RowNew B w 6 v1 (L.map Lf.cells) := RowNew_of_owns h.o1 (by simp) (lenb_Lf L)
theorem BkG.r2 (h : BkG T B w p v1 v2 L R) : RowNew B w 5 v2 (R.map Rq.cells) := RowNew_of_owns h.o2 (by simp) (lenb_Rq R)
theorem BkG.addr (h : BkG T B w p v1 v2 L R) {i : Nat} (hi : i < L.length) : ∃ g cap, v1 = .slice (some ⟨g, 0, none⟩) L.length cap ∧ B ≤ g ∧ g < p := by
  rcases h.o1.2 with ⟨_, h0⟩ | ⟨gg, cap, cur, e, h1, h2, _⟩
  · omega
  · exact ⟨gg, cap, e, h1, h.l1 gg (by rw [e]; rfl)⟩
theorem BkG.cell {g n cap : Nat} (h : BkG T B w p (.slice (some ⟨g, 0, none⟩) n cap) v2 L R) {i j : Nat} (hi : i < L.length) (hj : j < 6) : w.cell? ⟨g, i * 6 + j, none⟩ = ((L.getD i Lf.zero).cells)[j]? ∧ w.frozen? ⟨g, i * 6 + j, none⟩ = false := by
  have h1 := h.o1
  have e : n = L.length := by
    rcases h1.2 with ⟨e, _⟩ | ⟨_, _, _, e, _⟩
    · cases e
    · simp only [Value.slice.injEq] at e; exact e.2.1
  subst e
  refine ⟨?_, h1.frozenAt _⟩
  have hl : i * 6 + j < L.length * 6 := by have : (i + 1) * 6 ≤ L.length * 6 := Nat.mul_le_mul_right _ (by omega); omega
  rw [h1.cellAt _ hl, flatten_get (lenb_Lf L) i j (by simpa using hi) hj]
  simp [List.getD, hi]
theorem BkG.field {g n cap : Nat} (h : BkG T B w p (.slice (some ⟨g, 0, none⟩) n cap) v2 L R) {i j : Nat} (hi : i < L.length) (hj : j < 6) {x : Lf} {v : Value} (hx : x.cells = (L.getD i Lf.zero).cells.set j v) :
    BkG T B (w.setCell ⟨g, i * 6 + j, none⟩ v) p (.slice (some ⟨g, 0, none⟩) n cap) v2 (L.set i x) R := by
  have hg := h.l1 g rfl
  have h1 := h.o1
  have e : n = L.length := by
    rcases h1.2 with ⟨e, _⟩ | ⟨_, _, _, e, _⟩
    · cases e
    · simp only [Value.slice.injEq] at e; exact e.2.1
  subst e
  refine ⟨h.hB, blk_set_ne h.hh (by omega), ?_, ownsRow_setCell_other h.o2 (h.dis g rfl) _, h.l1, h.l2, h.dis⟩
  rw [List.length_set]
  exact own_field h.o1 hi hj hx
end

def Lf.wk (now : Int) (x : Lf) : Lf := if x.state = 1 then { x with state := 2, since := now } else x
def wkM (now : Int) (L : List Lf) (k : Nat) : List Lf := (L.take k).map (Lf.wk now) ++ L.drop k
def wkY (L : List Lf) (k : Nat) : List Int := ((L.take k).filter (fun x => decide (x.state = 1))).map Lf.backend
section
variable {now : Int} {L : List Lf} {k : Nat}
theorem wk_take (hk : k < L.length) : L.take (k + 1) = L.take k ++ [L.getD k Lf.zero] := by rw [List.take_succ_eq_append_getElem hk]; simp [List.getD, hk]
theorem wk_drop (hk : k < L.length) : L.drop k = L.getD k Lf.zero :: L.drop (k + 1) := by rw [List.drop_eq_getElem_cons hk]; simp [List.getD, hk]
theorem wkM_len : (wkM now L k).length = L.length := by simp [wkM]; omega
theorem wkM_get (hk : k < L.length) : (wkM now L k).getD k Lf.zero = L.getD k Lf.zero := by
  unfold wkM
  rw [wk_drop hk]
  have h1 : ((L.take k).map (Lf.wk now)).length = k := by simp; omega
  simp only [List.getD_eq_getElem?_getD]
  rw [List.getElem?_append_right (by omega), h1, Nat.sub_self]
  rfl
theorem wkM_set (hk : k < L.length) : (wkM now L k).set k ((L.getD k Lf.zero).wk now) = wkM now L (k + 1) := by
  unfold wkM
  have h1 : ((L.take k).map (Lf.wk now)).length = k := by simp; omega
  rw [List.set_append_right _ _ (by omega), h1, Nat.sub_self, wk_drop hk, List.set_cons_zero, wk_take hk]
  simp
theorem wkM_skip (hk : k < L.length) (hs : (L.getD k Lf.zero).state ≠ 1) : wkM now L (k + 1) = wkM now L k := by
  rw [← wkM_set hk]
  have e : (L.getD k Lf.zero).wk now = (wkM now L k).getD k Lf.zero := by rw [wkM_get hk]; unfold Lf.wk; rw [if_neg hs]
  rw [e]
  apply List.ext_getElem?
  intro i
  rw [List.getElem?_set]
  split
  · rename_i h; subst h
    have hl : k < (wkM now L k).length := by rw [wkM_len]; exact hk
    simp [List.getD, hl]
  · rfl
theorem wkY_hit (hk : k < L.length) (hs : (L.getD k Lf.zero).state = 1) : wkY L (k + 1) = wkY L k ++ [(L.getD k Lf.zero).backend] := by
  unfold wkY
  rw [wk_take hk, List.filter_append, List.map_append]
  generalize L.getD k Lf.zero = s at hs
  simp [hs]
theorem wkY_skip (hk : k < L.length) (hs : (L.getD k Lf.zero).state ≠ 1) : wkY L (k + 1) = wkY L k := by
  unfold wkY
  rw [wk_take hk, List.filter_append, List.map_append]
  generalize L.getD k Lf.zero = s at hs
  simp [hs]
theorem wkY_len : (wkY L k).length ≤ L.length := by
  unfold wkY
  rw [List.length_map]
  exact Nat.le_trans (List.length_filter_le _ _) (by simp; omega)
theorem wkM_all : wkM now L L.length = L.map (Lf.wk now) := by simp [wkM]
theorem wkM_none : wkM now L 0 = L := by simp [wkM]
end
theorem BkG.wake {T B p : Nat} {w : World} {g n cap : Nat} {v2 : Value} {L : List Lf} {R : List Rq} {now : Int} {k : Nat} (h : BkG T B w p (.slice (some ⟨g, 0, none⟩) n cap) v2 (wkM now L k) R) (hk : k < L.length) (hs : (L.getD k Lf.zero).state = 1) :
    BkG T B ((w.setCell ⟨g, k * 6 + 1, none⟩ (.int .i64 2)).setCell ⟨g, k * 6 + 3, none⟩ (.int .i64 now)) p (.slice (some ⟨g, 0, none⟩) n cap) v2 (wkM now L (k + 1)) R := by
  have hl : k < (wkM now L k).length := by rw [wkM_len]; exact hk
  have h1 := h.field (i := k) (j := 1) (x := { (L.getD k Lf.zero) with state := 2 }) (v := .int .i64 2) hl (by omega) (by rw [wkM_get hk]; rfl)
  have h2 := h1.field (i := k) (j := 3) (x := (L.getD k Lf.zero).wk now) (v := .int .i64 now) (by rw [List.length_set]; exact hl) (by omega) (by
    have e : ((wkM now L k).set k { (L.getD k Lf.zero) with state := 2 }).getD k Lf.zero = { (L.getD k Lf.zero) with state := 2 } := by simp [List.getD, hl]
    rw [e]; unfold Lf.wk; rw [if_pos hs]; rfl)
  rw [List.set_set, wkM_set hk] at h2
  exact h2

/-- What holds at the head of the loop. -/
def WkRel (w wr : World) (T B B2 p : Nat) (v1 v2 : Value) (L : List Lf) (R : List Rq) (now : Int) (k : Nat) (l : Value) : Prop :=
  (k ≤ L.length ∧ Below w.heap.size w wr ∧ wr.heap[w.heap.size + 1]? = some (.cells #[.slice none 0 0, .slice none 0 0] 25 (0, 0)) ∧ BkG T B wr p v1 v2 (wkM now L k) R ∧ p < B2 ∧ w.heap.size + 1 < B ∧ B2 ≤ wr.heap.size) ∧
    ∃ (a : Option Addr) (cap : Nat), l = .slice a (wkY L k).length cap ∧ wr.ownsRow B2 3 1 (.slice a (wkY L k).length cap) (wkY L k).length ((wkY L k).map (Value.int .i64))
theorem WkRel_skip {w wr : World} {T B B2 p : Nat} {v1 v2 : Value} {L : List Lf} {R : List Rq} {now : Int} {k : Nat} {l : Value} (h : WkRel w wr T B B2 p v1 v2 L R now k l) (hk : k < L.length) (hs : (L.getD k Lf.zero).state ≠ 1) : WkRel w wr T B B2 p v1 v2 L R now (k + 1) l := by
  obtain ⟨⟨h1, h2, h3, h4, h5⟩, h6⟩ := h
  refine ⟨⟨by omega, h2, h3, ?_, h5⟩, ?_⟩
  · rw [wkM_skip hk hs]; exact h4
  · rw [wkY_skip hk hs]; exact h6
theorem WkRel_hit {w wr w1 : World} {T B B2 p g n c2 cap cap' : Nat} {v2 : Value} {L : List Lf} {R : List Rq} {now : Int} {k : Nat} {a a' : Option Addr} {o : Obj} (h2 : Below w.heap.size w wr) (h3 : wr.heap[w.heap.size + 1]? = some (.cells #[.slice none 0 0, .slice none 0 0] 25 (0, 0))) (h4 : BkG T B wr p (.slice (some ⟨g, 0, none⟩) n c2) v2 (wkM now L k) R) (h5 : p < B2) (h6 : w.heap.size + 1 < B) (h7 : B2 ≤ wr.heap.size)
    (ho : wr.ownsRow B2 3 1 (.slice a (wkY L k).length cap) (wkY L k).length ((wkY L k).map (Value.int .i64))) (hk : k < L.length) (hs : (L.getD k Lf.zero).state = 1)
    (hgrow : ((((wr.setCell ⟨g, k * 6 + 1, none⟩ (.int .i64 2)).setCell ⟨g, k * 6 + 3, none⟩ (.int .i64 now))).alloc o).grownBy w1 (Value.slice a (wkY L k).length cap).ownBlock)
    (hown : w1.ownsRow B2 3 1 (.slice a' ((wkY L k).length + 1) cap') ((wkY L k).length + 1) ((wkY L k).map (Value.int .i64) ++ [.int .i64 (L.getD k Lf.zero).backend])) :
    WkRel w w1 T B B2 p (.slice (some ⟨g, 0, none⟩) n c2) v2 L R now (k + 1) (.slice a' ((wkY L k).length + 1) cap') := by
  have hgp := h4.l1 g rfl
  have hgB : B ≤ g := by
    have := h4.o1.lt g rfl
    exact this.1
  have hw := h4.wake hk hs
  have ha : ∀ b, (Value.slice a (wkY L k).length cap).ownBlock = some b → B2 ≤ b := fun b hb => (ho.lt b hb).1
  have hne : (Value.slice a (wkY L k).length cap).ownBlock ≠ some g := fun e => by have := ha g e; omega
  have ho2 := ownsRow_setCell_other (ownsRow_setCell_other ho (a := ⟨g, k * 6 + 1, none⟩) hne (.int .i64 2)) (a := ⟨g, k * 6 + 3, none⟩) hne (.int .i64 now)
  have B' := grown_below (B := B2) ((Below.refl _ _).alloc (Nat.le_refl _) o) (by simpa using h7) ho2 hgrow
  have hb2 : Below w.heap.size w ((wr.setCell ⟨g, k * 6 + 1, none⟩ (.int .i64 2)).setCell ⟨g, k * 6 + 3, none⟩ (.int .i64 now)) := (h2.setCell (by simp; omega) _).setCell (by simp; omega) _
  refine ⟨⟨by omega, hb2.trans (B'.mono (by omega)), blk_below B' (blk_set_ne (blk_set_ne h3 (by omega)) (by omega)) (by omega), hw.far B' h5, h5, h6, ?_⟩, a', cap', ?_, ?_⟩
  · exact Nat.le_trans (by simpa using h7) B'.size
  · rw [wkY_hit hk hs]; simp
  · rw [wkY_hit hk hs, List.map_append]; simpa using hown
/-- What Wake answers (P11.5). -/
def WkAns (L : List Lf) (R : List Rq) (now : Int) (L' : List Lf) (R' : List Rq) (Y : List Int) (code : Int) : Prop := (¬ BkMay L R ∧ L' = [] ∧ R' = [] ∧ Y = [] ∧ code = 6) ∨ (BkMay L R ∧ (now < 0 ∨ (0 ≤ now ∧ 1099511627776 < now)) ∧ L' = [] ∧ R' = [] ∧ Y = [] ∧ code = 2) ∨
  (BkMay L R ∧ 0 ≤ now ∧ now ≤ 1099511627776 ∧ L' = L.map (Lf.wk now) ∧ R = R' ∧ Y = wkY L L.length ∧ code = 0)
theorem WkAns_total (L : List Lf) (R : List Rq) (now : Int) : ∃ L' R' Y code, WkAns L R now L' R' Y code := by
  by_cases h : BkMay L R
  · by_cases h2 : now < 0 ∨ (0 ≤ now ∧ 1099511627776 < now)
    · exact ⟨_, _, _, _, Or.inr (Or.inl ⟨h, h2, rfl, rfl, rfl, rfl⟩)⟩
    · exact ⟨_, _, _, _, Or.inr (Or.inr ⟨h, by omega, by omega, rfl, rfl, rfl, rfl⟩)⟩
  · exact ⟨_, _, _, _, Or.inl ⟨h, rfl, rfl, rfl, rfl⟩⟩
def WkPost (w : World) (L : List Lf) (R : List Rq) (Y : List Int) (code : Int) (e : Ending) (w' : World) : Prop := ∃ v1 v2 v3, e = .returned (.tuple #[.agg #[v1, v2], v3, .int .i64 code]) ∧ RowAt w' 6 v1 (L.map Lf.cells) ∧ RowAt w' 5 v2 (R.map Rq.cells) ∧ RowAt w' 1 v3 (Y.map fun x => [Value.int .i64 x]) ∧ Below w.heap.size w w'
end Go.Proofs.Ythngedmmeiiklaa
