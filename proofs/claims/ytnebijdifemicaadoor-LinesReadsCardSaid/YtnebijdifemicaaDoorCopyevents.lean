/- The contract of events: a copy. -/
import Derived.Test.YtnebijdifemicaaDoorTypes
import Derived.Test.YtnebijdifemicaaDoorOwn
import Derived.Laws.AppendOwnNone
namespace Go.Proofs.YtnebijdifemicaaDoor
open Go.RowKit

theorem info_events : (Tryd.prog.info? 37).map (fun i => (i.zero, i.size, i.bytes)) = some (some (.agg #[.int .i64 0, .int .i64 0, .int .i64 0, .int .i64 0, .bool false, .int .i64 0, .int .i64 0, .int .i64 0]), 8, 64) := by kernel_rfl

theorem len_events (X : List Ev) : ∀ c ∈ X.map (fun x => Ev.cells (x)), c.length = 8 := by
  intro c hc
  simp only [List.mem_map] at hc
  obtain ⟨x, _, rfl⟩ := hc
  rfl

theorem one_events (X : List Ev) : ∀ u ∈ (X.map (fun x => Ev.cells (x))).flatten, u.oneCell' = true := by
  intro u hu
  simp only [List.mem_flatten, List.mem_map] at hu
  obtain ⟨c, ⟨x, _, rfl⟩, hu⟩ := hu
  simp [Ev.cells] at hu
  rcases hu with rfl | rfl | rfl | rfl | rfl | rfl | rfl | rfl <;> rfl

set_option maxHeartbeats 1000000 in
theorem events_new (v : Value) (X : List Ev) (w : World) (r : RowAt w 8 v (X.map (fun x => Ev.cells (x)))) (hb : X.length * 64 ≤ 140737488351232) :
    Calls Tryd.prog 5 #[v] w (NewPost w 8 (X.map (fun x => Ev.cells (x)))) := by
  obtain ⟨i0, hi, hz0, hz1, hz2⟩ := info_parts info_events
  have hlen := len_events X
  have hone := one_events X
  obtain ⟨a, cap, rfl, h1, h2, h3, h4⟩ := r
  simp only [List.length_map] at h1 ⊢
  cases a with
  | none =>
    have hX : X = [] := List.length_eq_zero_iff.1 (by have := h3 rfl; omega)
    have hc := h3 rfl
    subst hX hc
    clear h1 h2 h3 h4
    go_enter Tryd.func5, Tryd.ntmps5
    go_wp2_with (at_builtin; refine wpList_append_own_none rfl _ _ 22 rfl w.heap.size 37 i0 8 Tryd.underlying22 hi (.slice none 0 0) 0 [] rfl (World.ownsRow_nil _ _ _ _) rfl ?_)
    go_ret
    exact ⟨_, rfl, RowNew_nil _ _ _, Below.refl _ _⟩
  | some ad =>
    have hnews : ∀ k u, (X.map (fun x => Ev.cells (x))).flatten[k]? = some u → w.cell? (ad.add k) = some u := by
      by_cases hX : X = []
      · subst hX; intro k u hu; simp at hu
      · obtain ⟨b, off, hab, _, hcell⟩ := h4 (by simpa using hX)
        simp only [Option.some.injEq] at hab
        subst hab
        exact RowAt_news (by decide) hlen hcell
    have hfl : (X.map (fun x => Ev.cells (x))).flatten.length = X.length * 8 := by rw [flatten_length hlen, List.length_map]
    have A := Lib.hid (And.intro hlen (And.intro hone (And.intro hnews hfl)))
    clear hlen hone hnews hfl h1 h2 h3 h4
    go_enter Tryd.func5, Tryd.ntmps5
    go_wp2_with (at_builtin; refine wpList_append_own _ rfl _ _ 22 rfl w.heap.size 37 i0 (.agg #[.int .i64 0, .int .i64 0, .int .i64 0, .int .i64 0, .bool false, .int .i64 0, .int .i64 0, .int .i64 0]) 8 64 Tryd.underlying22 hi hz0 hz1 hz2 rfl (by decide) _ 0 [] rfl (World.ownsRow_nil _ _ _ _) ad X.length cap ((X.map (fun x => Ev.cells (x))).flatten) rfl A.out.2.2.2 A.out.2.2.1 A.out.2.1 ?c1 ?c2 ?c3 ?_)
    case c1 => unfold maxLen; omega
    case c2 => omega
    case c3 => exact Nat.le_refl _
    intro v' w1 hown hgrow _
    try simp only [Nat.zero_add, List.nil_append] at hown
    have R : RowNew w.heap.size w1 8 v' (X.map (fun x => Ev.cells (x))) := RowNew_of_owns hown (by simp) A.out.1
    have B : Below w.heap.size w w1 := (Below.refl _ _).grown hgrow (Nat.le_refl _) (fun k hk => by cases hk)
    clear hown hgrow
    go_wp2
    go_ret
    exact ⟨_, rfl, R, B⟩
theorem events_copy (v : Value) (X : List Ev) (w : World) (r : RowAt w 8 v (X.map (fun x => Ev.cells (x)))) (hb : X.length * 64 ≤ 140737488351232) :
    Calls Tryd.prog 5 #[v] w (CopyPost w 8 (X.map (fun x => Ev.cells (x)))) := (events_new v X w r hb).mono fun _ _ ⟨v', he, R, B⟩ => ⟨v', he, R.1, B⟩
end Go.Proofs.YtnebijdifemicaaDoor
