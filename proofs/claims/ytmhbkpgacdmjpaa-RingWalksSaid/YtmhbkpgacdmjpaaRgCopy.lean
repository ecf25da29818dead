/- usherlaw.rings: a copy of a ring. -/
import Derived.Test.YtmhbkpgacdmjpaaOpen
import Derived.Laws.AppendOwnNone
namespace Go.Proofs.Ytmhbkpgacdmjpaa
open Go.RowKit

theorem info_rspot : (Try.prog.info? 45).map (fun i => (i.zero, i.size, i.bytes)) = some (some (.agg #[.int .i64 0, .int .i64 0]), 2, 16) := by kernel_rfl
theorem len_rspots (X : List Sp) : ∀ c ∈ X.map Sp.cells, c.length = 2 := by
  intro c hc
  simp only [List.mem_map] at hc
  obtain ⟨x, _, rfl⟩ := hc
  rfl
theorem one_rspots (X : List Sp) : ∀ u ∈ (X.map Sp.cells).flatten, u.oneCell' = true := by
  intro u hu
  simp only [List.mem_flatten, List.mem_map] at hu
  obtain ⟨c, ⟨x, _, rfl⟩, hu⟩ := hu
  simp [Sp.cells] at hu
  rcases hu with rfl | rfl <;> rfl

/-- The end of a copy of a ring. -/
def RgCopyPost (w : World) (X : List Sp) (e : Ending) (w' : World) : Prop := ∃ v, e = .returned (.agg #[v]) ∧ RowNew w.heap.size w' 2 v (X.map Sp.cells) ∧ Below w.heap.size w w'

set_option maxHeartbeats 2000000 in
set_option maxRecDepth 100000 in
theorem rings_copy (v : Value) (X : List Sp) (w : World) (r : RowAt w 2 v (X.map Sp.cells)) (hb : X.length * 16 ≤ 140737488351232) :
    Calls Try.prog 8 #[.agg #[v]] w (RgCopyPost w X) := by
  obtain ⟨i0, hi, hz0, hz1, hz2⟩ := info_parts info_rspot
  have hlen := len_rspots X
  have hone := one_rspots X
  have r' := r
  obtain ⟨a, cap, rfl, h1, h2, h3, h4⟩ := r
  simp only [List.length_map] at h1 r' ⊢
  cases a with
  | none =>
    have hX : X = [] := List.length_eq_zero_iff.1 (by have := h3 rfl; omega)
    have hc := h3 rfl
    subst hX hc
    clear h1 h2 h3 h4 r'
    go_enter Try.func8, Try.ntmps8
    go_wp2_with (at_builtin; refine wpList_append_own_none rfl _ _ 22 rfl w.heap.size 45 i0 2 Try.underlying22 hi (.slice none 0 0) 0 [] rfl (World.ownsRow_nil _ _ _ _) rfl ?_)
    refine bodyPost_ret (v := .agg #[.slice none 0 0]) ?_ rfl ?_
    · simp [results, Try.results8, go_sem, *]
    · exact ⟨_, rfl, ⟨⟨none, 0, rfl, by simp, by unfold maxLen; omega, fun _ => rfl, fun h => absurd rfl h⟩, fun a n c h => by cases h⟩, (by repeat (first | (with_reducible exact Below.refl _ _) | (with_reducible assumption) | (with_reducible refine Below.drew ?_) | (with_reducible refine Below_drewN ?_) | (with_reducible refine Below.alloc ?_ (by first | omega | (simp; done) | (simp; omega)) _) | (with_reducible refine Below.setCell ?_ (by first | omega | (simp; done) | (simp; omega)) _) | (with_reducible refine Below.trans ?_ (Below.mono (by assumption) (by first | omega | (simp; done) | (simp; omega))))))⟩
  | some ad =>
    have hnews : ∀ k u, (X.map Sp.cells).flatten[k]? = some u → w.cell? (ad.add k) = some u := by
      by_cases hX : X = []
      · subst hX; intro k u hu; simp at hu
      · obtain ⟨b, off, hab, _, hcell⟩ := h4 (by simpa using hX)
        simp only [Option.some.injEq] at hab
        subst hab
        exact RowAt_news (by decide) hlen hcell
    have hfl : (X.map Sp.cells).flatten.length = X.length * 2 := by rw [flatten_length hlen, List.length_map]
    have hnews2 : ∀ (A B : Obj) k u, (X.map Sp.cells).flatten[k]? = some u → ((w.alloc A).alloc B).cell? (ad.add k) = some u := by
      intro A B k u hu
      have h := hnews k u hu
      have hs := World.cell?_spot h
      have e : ad.add k = ⟨(ad.add k).block, (ad.add k).off, none⟩ := by rw [← hs]
      rw [e] at h ⊢
      exact cell_alloc _ (cell_alloc _ h)
    have A := Lib.hid (And.intro hlen (And.intro hone (And.intro hnews2 hfl)))
    clear hlen hone hnews hnews2 hfl h1 h2 h3 h4 r'
    go_enter Try.func8, Try.ntmps8
    go_wp2_with (at_builtin; refine wpList_append_own _ rfl _ _ 22 rfl (w.heap.size + 2) 45 i0 (.agg #[.int .i64 0, .int .i64 0]) 2 16 Try.underlying22 hi hz0 hz1 hz2 rfl (by decide) _ 0 [] rfl (World.ownsRow_nil _ _ _ _) ad X.length cap ((X.map Sp.cells).flatten) rfl A.out.2.2.2 (A.out.2.2.1 _ _) A.out.2.1 ?c1 ?c2 ?c3 ?_)
    case c1 => unfold maxLen; omega
    case c2 => omega
    case c3 => simp
    intro v' w1 hown hgrow _
    try simp only [Nat.zero_add, List.nil_append] at hown
    obtain ⟨a', cap', rfl, _, _⟩ := owns_shape hown
    have R : RowNew (w.heap.size + 2) w1 2 (.slice a' X.length cap') (X.map Sp.cells) := RowNew_of_owns hown (by simp) A.out.1
    have B0 := (Below.refl (w.heap.size + 2) _).grown hgrow (by simp) (fun k hk => by cases hk)
    have B : Below w.heap.size w w1 := (((Below.refl _ _).alloc (Nat.le_refl _) _).alloc (by simp) _).trans (B0.mono (by omega))
    obtain ⟨hc, hf⟩ := bcell B0
    have hz := blt B0
    have RH := Lib.hid R
    have BH := Lib.hid B
    clear hown hgrow R B B0
    go_wp2
    refine bodyPost_ret (v := .agg #[.slice a' X.length cap']) ?_ rfl ?_
    · simp [results, Try.results8, go_sem, *]
    · exact ⟨_, rfl, RowNew_mono (RowNew_setCell RH.out (by simp) _) (by omega), BH.out.setCell (by simp) _⟩
end Go.Proofs.Ytmhbkpgacdmjpaa
