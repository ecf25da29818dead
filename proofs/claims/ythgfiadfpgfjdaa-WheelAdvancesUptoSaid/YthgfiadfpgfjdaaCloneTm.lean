/- slices.Clone at []usher/api.Timer. -/
import Derived.Test.YthgfiadfpgfjdaaOpen
import Derived.Test.YthgfiadfpgfjdaaOwn
import Derived.Test.YthgfiadfpgfjdaaFind
import Derived.Laws.AppendOwnNone
namespace Go.Proofs.Ythgfiadfpgfjdaa
open Go.RowKit
theorem infoc_Tm : (Try.prog.info? 43).map (fun i => (i.zero, i.size, i.bytes)) = some (some (.agg #[.int .i64 0, .int .i64 0]), 2, 16) := by kernel_rfl
theorem lenc_Tm (X : List Tm) : ∀ c ∈ X.map (fun x => Tm.cells (x)), c.length = 2 := by
  intro c hc
  simp only [List.mem_map] at hc
  obtain ⟨x, _, rfl⟩ := hc
  rfl
theorem onec_Tm (X : List Tm) : ∀ u ∈ (X.map (fun x => Tm.cells (x))).flatten, u.oneCell' = true := by
  intro u hu
  simp only [List.mem_flatten, List.mem_map] at hu
  obtain ⟨c, ⟨x, _, rfl⟩, hu⟩ := hu
  simp [Tm.cells] at hu
  rcases hu with rfl | rfl <;> rfl

set_option maxHeartbeats 2000000 in
set_option maxRecDepth 100000 in
theorem cloneTm (v : Value) (X : List Tm) (w : World) (r : RowAt w 2 v (X.map (fun x => Tm.cells (x)))) (hb : X.length * 16 ≤ 140737488351232) :
    Calls Try.prog 28 #[v] w (ClonePost w 43 2 X.length (X.map (fun x => Tm.cells (x))).flatten) := by
  obtain ⟨i0, hi, hi0, hi1, hi2⟩ := info_parts infoc_Tm
  have hlen := lenc_Tm X
  have hone := onec_Tm X
  obtain ⟨a, cap, rfl, h1, h2, h3, h4⟩ := r
  simp only [List.length_map] at h1 ⊢
  cases a with
  | none =>
    have hX : X = [] := List.length_eq_zero_iff.1 (by have := h3 rfl; omega)
    have hc := h3 rfl
    subst hX hc
    clear h1 h2 h3 h4
    have hnil := fun (w : World) (n c : Nat) => Lib.run_eql_slice_nil (P := Try.prog) w 38 43 none n c 0 0 Try.underlying38
    go_enter Try.func28, Try.ntmps28
    go_wp2
    all_goals first | (go_ret; exact ⟨_, rfl, World.ownsRow_nil _ _ _ _, Below.refl _ _⟩) | (exfalso; first | omega | (simp at *; omega) | (simp at *; done))
  | some ad =>
    have hnews : ∀ (C : Obj) k u, (X.map (fun x => Tm.cells (x))).flatten[k]? = some u → (w.alloc C).cell? (ad.add k) = some u := by
      intro C k u hu
      have hX : X ≠ [] := by intro hX; subst hX; simp at hu
      obtain ⟨b, off, hab, _, hcell⟩ := h4 (by simpa using hX)
      simp only [Option.some.injEq] at hab
      subst hab
      have h := RowAt_news (by decide) hlen hcell k u hu
      rw [Go.WideShapes.add_plain] at h ⊢
      exact cell_alloc _ h
    have hfl : (X.map (fun x => Tm.cells (x))).flatten.length = X.length * 2 := by rw [flatten_length hlen, List.length_map]
    have A := Lib.hid (And.intro hlen (And.intro hone (And.intro hnews hfl)))
    clear hlen hone hnews hfl h1 h2 h3 h4
    have hnil := fun (w : World) (n c : Nat) => Lib.run_eql_slice_nil (P := Try.prog) w 38 43 (some ad) n c 0 0 Try.underlying38
    go_enter Try.func28, Try.ntmps28
    go_wp2_with (at_builtin; go_loud (refine wpList_append_own _ rfl _ _ 38 rfl w.heap.size 43 i0 (.agg #[.int .i64 0, .int .i64 0]) 2 16 Try.underlying38 hi hi0 hi1 hi2 rfl (by decide) _ 0 [] rfl (own_empty w 43 2) ad X.length cap ((X.map (fun x => Tm.cells (x))).flatten) rfl A.out.2.2.2 (A.out.2.2.1 _) A.out.2.1 ?c1 ?c2 ?c3 ?_))
    case c1 => unfold maxLen; omega
    case c2 => omega
    case c3 => simp
    intro v' w1 hown hgrow _
    try simp only [Nat.zero_add, List.nil_append] at hown
    have B : Hid (Below w.heap.size w w1) := ((Below.refl _ _).alloc (Nat.le_refl _) _).trans ((Below.refl _ _).grown hgrow (by simp) (by intro k hk; simp [Value.ownBlock] at hk; omega))
    have HO := Lib.hid hown
    clear hown hgrow
    go_wp2
    go_ret
    exact ⟨_, rfl, HO.out, B.out⟩
end Go.Proofs.Ythgfiadfpgfjdaa
