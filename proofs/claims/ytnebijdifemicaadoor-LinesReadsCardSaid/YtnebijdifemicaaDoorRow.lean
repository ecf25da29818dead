/- Slices of flat structs in memory: what the walks need. -/
import Derived.Test.YtnebijdifemicaaDoorIn
namespace Go.Proofs.YtnebijdifemicaaDoor
open Go.RowKit

/-- v is a slice whose elements' cells are those of L, sz each. -/
def RowAt (w : World) (sz : Nat) (v : Value) (L : List (List Value)) : Prop :=
  ∃ (a : Option Addr) (cap : Nat), v = .slice a L.length cap ∧ L.length ≤ cap ∧ cap ≤ maxLen ∧ (a = none → cap = 0) ∧
    (L ≠ [] → ∃ b off, a = some ⟨b, off, none⟩ ∧ b < w.heap.size ∧ ∀ i j, i < L.length → j < sz → w.cell? ⟨b, off + i * sz + j, none⟩ = (L.getD i [])[j]?)

theorem cell_lt {w : World} {b o : Nat} {v : Value} (h : w.cell? ⟨b, o, none⟩ = some v) : b < w.heap.size := by
  unfold World.cell? at h
  by_cases hb : b < w.heap.size
  · exact hb
  · rw [Array.getElem?_eq_none (by simpa using hb)] at h; cases h

theorem RowAt_of_SlFlat {w : World} {ks : List (Option IntKind)} {by_ : Nat} {v : Value} {L : List (List Value)} (h : SlFlat w ks by_ v L) (hk : 0 < ks.length) : RowAt w ks.length v L ∧ L.length * by_ ≤ 140737488351232 := by
  obtain ⟨a, cap, rfl, h1, h2, h6, h3, h4, h5⟩ := h
  refine ⟨⟨a, cap, rfl, h1, h2, h3, fun hne => ?_⟩, h6⟩
  have hpos : 0 < L.length := by cases L with
    | nil => exact absurd rfl hne
    | cons x xs => simp
  cases a with
  | none => have := h3 rfl; omega
  | some ad =>
    obtain ⟨b, off, spot⟩ := ad
    have h0 := h5 _ rfl 0 0 hpos hk
    simp only [Nat.zero_mul, Nat.add_zero, Addr.add, if_true] at h0
    have hl : (L.getD 0 []).length = ks.length := by
      have : L.getD 0 [] ∈ L := by simp only [List.getD, List.getElem?_eq_getElem hpos, Option.getD_some]; exact List.getElem_mem _
      exact FlatC_length (h4 _ this)
    have hsp : spot = none := by
      rw [List.getElem?_eq_getElem (by omega)] at h0
      simpa using World.cell?_spot h0
    subst hsp
    refine ⟨b, off, rfl, ?_, ?_⟩
    · rw [List.getElem?_eq_getElem (by omega)] at h0
      exact cell_lt h0
    · intro i j hi hj
      have := h5 _ rfl i j hi hj
      rw [← this]
      congr 1
      unfold Addr.add
      split
      · rename_i hz
        have hij : i * ks.length = 0 ∧ j = 0 := by omega
        rw [hij.1, hij.2]; rfl
      · rw [Nat.add_assoc]

theorem RowAt_below {w w' : World} {sz : Nat} {v : Value} {L : List (List Value)} (h : RowAt w sz v L) (hb : Below w.heap.size w w') : RowAt w' sz v L := by
  obtain ⟨a, cap, rfl, h1, h2, h3, h4⟩ := h
  refine ⟨a, cap, rfl, h1, h2, h3, fun hne => ?_⟩
  obtain ⟨b, off, rfl, h5, h6⟩ := h4 hne
  exact ⟨b, off, rfl, Nat.lt_of_lt_of_le h5 hb.size, fun i j hi hj => by rw [hb.cell (p := ⟨b, off + i * sz + j, none⟩) h5]; exact h6 i j hi hj⟩

theorem RowAt_alloc {w : World} {sz : Nat} {v : Value} {L : List (List Value)} (h : RowAt w sz v L) (o : Obj) : RowAt (w.alloc o) sz v L :=
  RowAt_below h ((Below.refl _ _).alloc (Nat.le_refl _) _)

theorem RowAt_drewN {w : World} {sz : Nat} {v : Value} {L : List (List Value)} (h : RowAt w sz v L) (n : Nat) : RowAt (w.drewN n) sz v L :=
  RowAt_below h (below_drewN (Below.refl _ _) n)

theorem flatten_get {sz : Nat} : ∀ {L : List (List Value)}, (∀ c ∈ L, c.length = sz) → ∀ i j, i < L.length → j < sz → L.flatten[i * sz + j]? = (L.getD i [])[j]? := by
  intro L
  induction L with
  | nil => intro _ i j hi; simp at hi
  | cons c L ih =>
    intro h i j hi hj
    have hc := h c List.mem_cons_self
    cases i with
    | zero =>
      simp only [List.flatten_cons, Nat.zero_mul, Nat.zero_add, List.getD_cons_zero]
      rw [List.getElem?_append_left (by omega)]
    | succ i =>
      simp only [List.flatten_cons, List.getD_cons_succ]
      have e : (i + 1) * sz + j = sz + (i * sz + j) := by rw [Nat.add_mul]; omega
      rw [List.getElem?_append_right (by omega), e, hc, Nat.add_sub_cancel_left]
      exact ih (fun d hd => h d (List.mem_cons_of_mem _ hd)) i j (by simpa using hi) hj

theorem flatten_length {sz : Nat} : ∀ {L : List (List Value)}, (∀ c ∈ L, c.length = sz) → L.flatten.length = L.length * sz := by
  intro L
  induction L with
  | nil => intro _; simp
  | cons c L ih =>
    intro h
    have hc := h c List.mem_cons_self
    simp only [List.flatten_cons, List.length_append, List.length_cons, Nat.add_mul, Nat.one_mul]
    rw [ih (fun d hd => h d (List.mem_cons_of_mem _ hd)), hc]; omega

theorem RowAt_of_owns {w : World} {base e sz n : Nat} {v : Value} {L : List (List Value)} (h : w.ownsRow base e sz v n L.flatten) (hn : L.length = n) (hl : ∀ c ∈ L, c.length = sz) : RowAt w sz v L := by
  subst hn
  rcases h.2 with ⟨rfl, h0⟩ | ⟨g, cap, cur, rfl, hg, hh, hnc, hcm, hcs, htake⟩
  · have hL : L = [] := List.length_eq_zero_iff.1 h0
    subst hL
    exact ⟨none, 0, rfl, by simp, by unfold maxLen; omega, fun _ => rfl, fun hne => absurd rfl hne⟩
  · refine ⟨some ⟨g, 0, none⟩, cap, rfl, hnc, hcm, by simp, fun hne => ⟨g, 0, rfl, ?_, fun i j hi hj => ?_⟩⟩
    · rcases Nat.lt_or_ge g w.heap.size with h' | h'
      · exact h'
      · rw [Array.getElem?_eq_none h'] at hh; cases hh
    · have hlt : i * sz + j < L.length * sz := by
        have : (i + 1) * sz ≤ L.length * sz := Nat.mul_le_mul_right _ (by omega)
        rw [Nat.add_mul] at this; omega
      rw [show 0 + i * sz + j = i * sz + j by omega, h.cellAt (i * sz + j) hlt]
      exact flatten_get hl i j hi hj

/-- The cells of a row as 'append' asks for them. -/
theorem RowAt_news {w : World} {sz : Nat} {b off : Nat} {L : List (List Value)} (hsz : 0 < sz) (hl : ∀ c ∈ L, c.length = sz) (h : ∀ i j, i < L.length → j < sz → w.cell? ⟨b, off + i * sz + j, none⟩ = (L.getD i [])[j]?) :
    ∀ k u, L.flatten[k]? = some u → w.cell? ((⟨b, off, none⟩ : Addr).add k) = some u := by
  intro k u hu
  have hk : k < L.flatten.length := by
    rcases Nat.lt_or_ge k L.flatten.length with h' | h'
    · exact h'
    · rw [List.getElem?_eq_none h'] at hu; cases hu
  rw [flatten_length hl] at hk
  have hi : k / sz < L.length := (Nat.div_lt_iff_lt_mul hsz).2 hk
  have hj : k % sz < sz := Nat.mod_lt _ hsz
  have e : k / sz * sz + k % sz = k := by rw [Nat.mul_comm]; exact Nat.div_add_mod k sz
  have h1 := h _ _ hi hj
  rw [show off + k / sz * sz + k % sz = off + k by omega] at h1
  rw [Go.WideShapes.add_plain, h1, ← flatten_get hl _ _ hi hj, e, hu]

theorem RowAt_cells {w : World} {sz : Nat} {v : Value} {L : List (List Value)} (h : RowAt w sz v L) : ∃ a cap, v = .slice a L.length cap ∧ (a = none → L = []) := by
  obtain ⟨a, cap, rfl, h1, _, h3, _⟩ := h
  exact ⟨a, cap, rfl, fun ha => List.length_eq_zero_iff.1 (by have := h3 ha; omega)⟩

theorem heap_at {w : World} {k : Nat} (o : Obj) (hk : k = w.heap.size) : (w.alloc o).heap[k]? = some o := by
  subst hk
  show (w.heap.push o)[w.heap.size]? = some o
  simp

theorem cell_alloc {w : World} {b o : Nat} {v : Value} (X : Obj) (h : w.cell? ⟨b, o, none⟩ = some v) : (w.alloc X).cell? ⟨b, o, none⟩ = some v := by
  rw [World.cell?_alloc_past _ _ _ (cell_lt h)]; exact h

theorem owns_shape {w : World} {base e sz n : Nat} {v : Value} {xs : List Value} (h : w.ownsRow base e sz v n xs) : ∃ a cap, v = .slice a n cap ∧ (a = none → n = 0 ∧ cap = 0) ∧ (∀ ad, a = some ad → base ≤ ad.block ∧ ad.spot = none ∧ ad.off = 0) := by
  rcases h.2 with ⟨rfl, h0⟩ | ⟨g, cap, cur, rfl, hg, _⟩
  · exact ⟨none, 0, by rw [h0], (fun _ => ⟨h0, rfl⟩), (fun _ h => by cases h)⟩
  · exact ⟨some ⟨g, 0, none⟩, cap, rfl, (fun h => by cases h), (fun ad h => by cases h; exact ⟨hg, rfl, rfl⟩)⟩

/-- The cells that make lays. -/
theorem madeCells_toList (z : Array Value) (n : Nat) (hz : 0 < z.size) : (madeCells z (n * z.size)).toList = (List.replicate n z.toList).flatten := by
  have hl : ∀ c ∈ List.replicate n z.toList, c.length = z.size := by
    intro c hc
    rw [List.eq_of_mem_replicate hc]; simp
  apply List.ext_getElem?
  intro k
  rcases Nat.lt_or_ge k (n * z.size) with hk | hk
  · have hi : k / z.size < (List.replicate n z.toList).length := by rw [List.length_replicate]; exact (Nat.div_lt_iff_lt_mul hz).2 hk
    have hj : k % z.size < z.size := Nat.mod_lt _ hz
    have e : k / z.size * z.size + k % z.size = k := by rw [Nat.mul_comm]; exact Nat.div_add_mod k z.size
    have h1 := flatten_get hl _ _ hi hj
    rw [e] at h1
    rw [h1]
    rw [List.length_replicate] at hi
    simp [madeCells, hk, List.getD, hi, hj]
  · rw [List.getElem?_eq_none (by simpa [madeCells] using hk), List.getElem?_eq_none (by rw [flatten_length hl]; simpa using hk)]

/-- One element's cells in a new block of their own. -/
theorem news_one {w : World} (c : List Value) (T : TypeId) : ∀ j u, c[j]? = some u → (w.alloc (.cells c.toArray T)).cell? ((⟨w.heap.size, 0, none⟩ : Addr).add j) = some u := by
  intro j u hu
  rw [Go.WideShapes.add_plain]
  simp [hu]

theorem RowAt_shape {α : Type} {f : α → List Value} {X : List α} {w : World} {sz : Nat} {v : Value} (h : RowAt w sz v (X.map f)) : ∃ a cap, v = .slice a X.length cap ∧ (a = none → X = []) := by
  obtain ⟨a, cap, rfl, hn⟩ := RowAt_cells h
  exact ⟨a, cap, by simp, fun ha => by simpa using hn ha⟩

theorem two_setCell1 {w : World} {b : Nat} {u v v' : Value} {t : TypeId} (h : w.heap[b]? = some (.cells #[u, v] t (0, 0))) : (w.setCell ⟨b, 1, none⟩ v').heap[b]? = some (.cells #[u, v'] t (0, 0)) := by
  have hlt := lt_of_block h
  have h' : w.heap[b] = .cells #[u, v] t (0, 0) := by simpa [Array.getElem?_eq_getElem hlt] using h
  show (w.heap.modify b _)[b]? = _
  rw [Array.getElem?_eq_getElem (by simpa using hlt), Array.getElem_modify_self, h']
  rfl
theorem two_cells {w : World} {b : Nat} {u v : Value} {t : TypeId} (h : w.heap[b]? = some (.cells #[u, v] t (0, 0))) : w.cell? ⟨b, 0, none⟩ = some u ∧ w.cell? ⟨b, 1, none⟩ = some v ∧ w.frozen? ⟨b, 0, none⟩ = false ∧ w.frozen? ⟨b, 1, none⟩ = false := by
  simp [World.cell?, World.frozen?, h]

/-- A row in memory from block B on. -/
def RowNew (B : Nat) (w : World) (sz : Nat) (v : Value) (L : List (List Value)) : Prop := RowAt w sz v L ∧ ∀ a n c, v = .slice (some a) n c → B ≤ a.block
theorem RowNew_of_owns {w : World} {base e sz n : Nat} {v : Value} {L : List (List Value)} (h : w.ownsRow base e sz v n L.flatten) (hn : L.length = n) (hl : ∀ c ∈ L, c.length = sz) : RowNew base w sz v L := by
  refine ⟨RowAt_of_owns h hn hl, fun a m c hv => ?_⟩
  obtain ⟨a', cap', e', _, hb⟩ := owns_shape h
  rw [hv] at e'
  simp only [Value.slice.injEq] at e'
  exact (hb a e'.1.symm).1
theorem RowNew_setCell {B : Nat} {w : World} {sz : Nat} {v : Value} {L : List (List Value)} (h : RowNew B w sz v L) {p : Addr} (hp : p.block < B) (u : Value) : RowNew B (w.setCell p u) sz v L := by
  obtain ⟨⟨a, cap, rfl, h1, h2, h3, h4⟩, h5⟩ := h
  refine ⟨⟨a, cap, rfl, h1, h2, h3, fun hne => ?_⟩, h5⟩
  obtain ⟨b, off, rfl, h6, h7⟩ := h4 hne
  have hB := h5 _ _ _ rfl
  have hbl : (w.setCell p u).heap[b]? = w.heap[b]? := Below.heap_setCell _ _ _ _ (by simp only at hB; omega)
  refine ⟨b, off, rfl, by simpa using h6, fun i j hi hj => ?_⟩
  rw [World.cell?_of_block (w := w) (w' := w.setCell p u) (a := ⟨b, off + i * sz + j, none⟩) hbl]
  exact h7 i j hi hj
theorem RowNew_mono {B B' : Nat} {w : World} {sz : Nat} {v : Value} {L : List (List Value)} (h : RowNew B w sz v L) (hB : B' ≤ B) : RowNew B' w sz v L := ⟨h.1, fun a n c hv => Nat.le_trans hB (h.2 a n c hv)⟩
theorem RowNew_below {B : Nat} {w w' : World} {sz : Nat} {v : Value} {L : List (List Value)} (h : RowNew B w sz v L) (hb : Below w.heap.size w w') : RowNew B w' sz v L := ⟨RowAt_below h.1 hb, h.2⟩

theorem results2_cell_row {P : Program} {fn : Func} {p q : Tmp} {ty : TypeId} (h : fn.results = #[.cell p ty, .tmp q]) (tmps : Array Value) (w : World) (g : Nat) (t : TypeId) (cs : Array Value) (fr : Nat × Nat) (d : TypeDesc) (u : Value)
    (hp : tmps.getD p undef = .pointer (some ⟨g, 0, none⟩)) (hq : tmps.getD q undef = u) (hg : w.heap[g]? = some (.cells cs t fr))
    (hu : P.underlying ty = some d) (hd : (match d with | .struct _ | .array _ _ => true | _ => false) = true) (hi : (P.info? ty).map (·.size) = some cs.size) :
    (results fn tmps).run P w = .ok (.tuple #[.agg cs, u]) w := by
  have hp' : tmps[p]?.getD undef = .pointer (some ⟨g, 0, none⟩) := by simpa using hp
  have hq' : tmps[q]?.getD undef = u := by simpa using hq
  simp [results, h, hp', hq', asAddr, run_loadVar_row w g t ty cs fr d hg hu hd hi]

/-- The end of a copy. -/
def CopyPost (w : World) (sz : Nat) (L : List (List Value)) (e : Ending) (w' : World) : Prop := ∃ v, e = .returned v ∧ RowAt w' sz v L ∧ Below w.heap.size w w'
end Go.Proofs.YtnebijdifemicaaDoor
