/- A flow's slot and generation as a map's key. -/
import Derived.Test.YtjnfnmbkmgjdlaaOwn
import Derived.Maps.OwnSet
import Derived.Maps.RangeWalk
import Derived.DeepKeys4
import Derived.Lib.Hide
namespace Go.Proofs.Ytjnfnmbkmgjdlaa
open Go.RowKit Go.ChangeMaps Go.Maps

theorem laidBy : laidOutB Try.prog = true := by kernel_rfl
theorem rowBy : (62 : TypeId) < Try.prog.types.size := of_decide_eq_true (by kernel_rfl)
theorem wideBy : (match Try.prog.underlying 62 with | some (.array _ _) | some (.struct _) => true | _ => false) = true := by rw [Try.underlying62]
theorem key_end : Keyed Try.prog 62 := Keyed.of_law (deep_law_laid laidBy (m := 2) (by omega) rowBy (by kernel_rfl) wideBy)
/-- What a key reads as. -/
def kE (s g : Int) : Lit := .string (keyBytes [.int .i64 s, .int .i64 g])
theorem wf_I64 {n : Int} (h : I64 n) : (Lit.int .i64 n).wf = true := by
  simp [Lit.wf, IntKind.min, IntKind.max, IntKind.signed, IntKind.bits]
  unfold I64 at h
  omega
theorem size_end : ∃ m, Try.prog.types.size = m + 1 := ⟨Try.prog.types.size - 1, by kernel_rfl⟩
theorem cells_end : Try.prog.cellsOf 62 = 2 := by kernel_rfl
theorem cells_int : Try.prog.cellsOf 3 = 1 := by kernel_rfl
theorem under_int : Try.prog.underlying 3 = some (.int .i64) := by kernel_rfl
theorem keyT_end : Try.prog.keyType 62 = true := by kernel_rfl
theorem keyOf_end {s g : Int} (hs : I64 s) (hg : I64 g) : keyOf Try.prog 62 (.agg #[.int .i64 s, .int .i64 g]) = some (kE s g) := by
  obtain ⟨m, hm⟩ := size_end
  have h1 := wf_I64 hs
  have h2 := wf_I64 hg
  unfold keyOf
  rw [Try.underlying62]
  simp only [keyT_end, Value.formed, Try.underlying62, cells_end, hm]
  simp [Program.keyLits, Try.underlying62, cells_end, cells_int, Value.cells, h1, h2, kE]
theorem keyE_inj {s g s' g' : Int} (hs : I64 s) (hg : I64 g) (hs' : I64 s') (hg' : I64 g') (h : kE s g = kE s' g') : s = s' ∧ g = g' := by
  have h1 := keyOf_end hs hg
  have h2 := keyOf_end hs' hg'
  rw [← h] at h2
  have := key_end.inj h1 h2
  simpa using this
theorem lits_int {m : Nat} {a : Value} {l : List Lit} (h : Try.prog.keyLits (m + 1) 3 [a] = some l) : ∃ n, a = .int .i64 n := by
  unfold Program.keyLits at h
  rw [under_int] at h
  cases a <;> simp at h
  obtain ⟨⟨rfl, _⟩, _⟩ := h
  exact ⟨_, rfl⟩
theorem keyOf_inv {key : Value} {kl : Lit} (h : keyOf Try.prog 62 key = some kl) : ∃ x : Int × Int, key = .agg #[.int .i64 x.1, .int .i64 x.2] := by
  obtain ⟨m, hm⟩ := size_end
  unfold keyOf at h
  rw [Try.underlying62] at h
  simp only at h
  split at h
  · rename_i hc
    simp only [Bool.and_eq_true] at hc
    cases key with
    | agg cs =>
      simp only [Value.formed, Try.underlying62, cells_end, beq_iff_eq] at hc
      obtain ⟨l⟩ := cs
      simp only [List.size_toArray] at hc
      match l, hc.2 with
      | [a, b], _ =>
        rw [hm] at h
        unfold Program.keyLits at h
        rw [Try.underlying62] at h
        simp only [Value.cells] at h
        cases ha : Try.prog.keyLits (m + 1) 3 [a] with
        | none => simp [cells_end, cells_int, ha] at h
        | some la =>
          cases hb : Try.prog.keyLits (m + 1) 3 [b] with
          | none => simp [cells_end, cells_int, ha, hb] at h
          | some lb =>
            obtain ⟨x, rfl⟩ := lits_int ha
            obtain ⟨y, rfl⟩ := lits_int hb
            exact ⟨(x, y), rfl⟩
    | _ => simp [Value.formed, Try.underlying62, keyT_end] at hc
  · cases h
theorem lits_wf {m : Nat} {n : Int} {l : List Lit} (h : Try.prog.keyLits (m + 1) 3 [.int .i64 n] = some l) : I64 n := by
  unfold Program.keyLits at h
  rw [under_int] at h
  simp at h
  exact I64_of_wf h.1
theorem keyOf_inv2 {s g : Int} {kl : Lit} (h : keyOf Try.prog 62 (.agg #[.int .i64 s, .int .i64 g]) = some kl) : I64 s ∧ I64 g ∧ kl = kE s g := by
  have h0 := h
  obtain ⟨m, hm⟩ := size_end
  unfold keyOf at h
  rw [Try.underlying62] at h
  simp only at h
  split at h
  · rw [hm] at h
    unfold Program.keyLits at h
    rw [Try.underlying62] at h
    simp only [Value.cells] at h
    cases ha : Try.prog.keyLits (m + 1) 3 [.int .i64 s] with
    | none => simp [cells_end, cells_int, ha] at h
    | some la =>
      cases hb : Try.prog.keyLits (m + 1) 3 [.int .i64 g] with
      | none => simp [cells_end, cells_int, ha, hb] at h
      | some lb =>
        have h1 := lits_wf ha
        have h2 := lits_wf hb
        rw [keyOf_end h1 h2] at h0
        exact ⟨h1, h2, by injection h0 with e; exact e.symm⟩
  · cases h
/-- What an element reads as. -/
def bkR (v : Value) : Option (DataW Unit × List MemPlace) := match v with
  | .agg cs => (match cs.toList with | [.int .i64 c] => some (.lit (.int .i64 c), []) | _ => none)
  | _ => none
theorem bkR_mk (c : Int) : bkR (.agg #[.int .i64 c]) = some (.lit (.int .i64 c), []) := rfl
theorem bkR_inv {v : Value} {y : DataW Unit × List MemPlace} (h : bkR v = some y) : ∃ c : Int, v = .agg #[.int .i64 c] := by
  unfold bkR at h
  split at h
  · rename_i cs
    split at h
    · rename_i c hc
      exact ⟨c, by rw [← hc]⟩
    · cases h
  · cases h
theorem mapB_keep {w w' : World} {b n : Nat} {D : DataW Unit} (h : w.ownsMap Try.prog 62 bkR b n D) (hb : Below w.heap.size w w') : w'.ownsMap Try.prog 62 bkR b n D := by
  obtain ⟨arr, cl, h1, h2⟩ := h
  exact ⟨arr, cl, (hb.block _ (lt_of_block h1)).trans h1, h2⟩
theorem mapB_below {B b : Nat} {w w1 w2 : World} (h : Below B w w1) (hg : w1.grownBy w2 (some b)) (hs : B ≤ w1.heap.size) (hB : B ≤ b) : Below B w w2 :=
  h.grown hg hs (by intro r hr; cases hr; exact hB)
theorem set_grown (w : World) (g j : Nat) (v : Value) : w.grownBy (w.setCell ⟨g, j, none⟩ v) (some g) := ⟨rfl, rfl, rfl, by simp, fun i _ hne => Below.heap_setCell _ _ _ _ (fun e => hne (by rw [e]))⟩
end Go.Proofs.Ytjnfnmbkmgjdlaa
