/- lines.line walked. -/
import Derived.Test.YtnebijdifemicaaDoorLnN
import Derived.Lib.ItoaLen
import Derived.Lib.AppendIntMem
namespace Go.Proofs.YtnebijdifemicaaDoor
open Go.RowKit
theorem var_below {P : Program} {n : String} {g : Nat} {cs : Array Value} {w w' : World} (hg : P.globalNamed n = some g) (h : w.var? P n = some cs) (hb : Below w.heap.size w w') : w'.var? P n = some cs := by
  unfold World.var? at h ⊢
  rw [hg] at h ⊢
  simp only [Option.bind_some] at h ⊢
  have hlt : g < w.heap.size := by
    rcases Nat.lt_or_ge g w.heap.size with h' | h'
    · exact h'
    · rw [Array.getElem?_eq_none h'] at h; cases h
  rw [hb.block g hlt]
  exact h
theorem pow_g : (Tryd.prog).globalNamed "internal/strconv.uint64pow10" = some 4 := by kernel_rfl
theorem words_g : (Tryd.prog).globalNamed "usher/lines.words" = some 0 := by kernel_rfl
/-- The two tables that a line reads. -/
structure LnW (w : World) : Prop where
  tab : Lib.TabIs Tryd.prog w "internal/strconv.uint64pow10" .u64 Lib.pow10Tab
  wd : w.var? Tryd.prog "usher/lines.words" = some ((List.range 8).map fun k => Value.string ⟨(wordB k).toArray⟩).toArray
theorem LnW.below {w w' : World} (h : LnW w) (hb : Below w.heap.size w w') : LnW w' := ⟨var_below pow_g h.tab hb, var_below words_g h.wd hb⟩
theorem LnW.word {w : World} (h : LnW w) {k : Nat} (hk : k < 8) : w.cell? ⟨0, k, none⟩ = some (.string ⟨(wordB k).toArray⟩) := by
  rw [World.var?_cell words_g h.wd k]
  simp [hk]
theorem LnW.pos {w : World} (h : LnW w) : 0 < w.heap.size := by
  have h1 := h.word (k := 0) (by decide)
  rcases Nat.eq_zero_or_pos w.heap.size with e | e
  · simp [World.cell?, e] at h1
  · exact e
theorem bld_below {B b : Nat} {p : Value} {bs : List Value} {w w' : World} (h : Lib.BuilderAt 35 5 B b p bs w) (hb : Below w.heap.size w w') : Lib.BuilderAt 35 5 B b p bs w' := by
  have hlt := h.lt
  obtain ⟨h1, v, h2, h3, h4⟩ := h
  exact ⟨h1, v, (hb.block b hlt).trans h2, own_keep h3 hb, h4⟩
theorem str_sp (l : List UInt8) : Lib.strCells (⟨#[32]⟩ ++ ⟨l.toArray⟩) = Lib.byteCells (32 :: l) := by
  rw [ByteArray.mk_append_mk]
  simp [Lib.strCells, Lib.byteCells]
theorem bytes_app (a b : List UInt8) : Lib.byteCells a ++ Lib.byteCells b = Lib.byteCells (a ++ b) := by simp [Lib.byteCells]
theorem evNs_in {e : Ev} (he : EvCode e 0) : ∀ n ∈ evNs e, 0 ≤ n ∧ n ≤ 4294967295 := by
  obtain ⟨hk, hi⟩ : (1 ≤ e.kind ∧ e.kind ≤ 7) ∧ EvIn e := by
    rcases he with ⟨_, h⟩ | ⟨_, _, h⟩ | ⟨_, _, _, h⟩ | ⟨h, h2, _⟩
    · omega
    · omega
    · omega
    · exact ⟨h, h2⟩
  obtain ⟨k, a1, a2, a3, a4, a5, a6, a7⟩ := e
  intro n hn
  simp only at hk
  rcases (show k = 1 ∨ k = 2 ∨ k = 3 ∨ k = 4 ∨ k = 5 ∨ k = 6 ∨ k = 7 by omega) with rfl | rfl | rfl | rfl | rfl | rfl | rfl <;> simp [EvIn, evF, InF, evNs] at hi hn <;> omega
theorem word_len (k : Nat) : (wordB k).length ≤ 6 := by
  unfold wordB
  match k with
  | 0 | 1 | 2 | 3 | 4 | 5 | 6 | 7 => simp
  | n + 8 => simp
theorem sp_len {n : Int} (h : 0 ≤ n ∧ n ≤ 4294967295) : (spB n).length ≤ 22 := by
  have h1 := Lib.itoa_length_le n (by omega) (by omega)
  unfold spB
  rw [List.length_cons]; omega
theorem sps_len : ∀ {L : List Int}, (∀ n ∈ L, 0 ≤ n ∧ n ≤ 4294967295) → (L.flatMap spB).length ≤ 22 * L.length
  | [], _ => by simp
  | n :: L, h => by
    rw [List.flatMap_cons, List.length_append, List.length_cons]
    have h1 := sp_len (h n (List.mem_cons_self ..))
    have h2 := sps_len (L := L) (fun m hm => h m (List.mem_cons_of_mem _ hm))
    omega
theorem getD_eq {α : Type} {L : List α} {i : Nat} {d : α} (h : i < L.length) : L.getD i d = L[i] := by simp [List.getD, h]
theorem evNs_len (e : Ev) : (evNs e).length ≤ 3 := by
  unfold evNs
  split
  · simp
  · split
    · simp
    · split
      · simp
      · split <;> simp
end Go.Proofs.YtnebijdifemicaaDoor
