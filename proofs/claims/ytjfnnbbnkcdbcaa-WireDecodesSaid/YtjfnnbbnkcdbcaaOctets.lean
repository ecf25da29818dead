/- The contract of octets: a copy. -/
import Derived.Test.YtjfnnbbnkcdbcaaTypes
import Derived.Test.YtjfnnbbnkcdbcaaOwn
import Derived.Laws.AppendOwnNone
namespace Go.Proofs.Ytjfnnbbnkcdbcaa
open Go.RowKit

theorem info_octets : (Try.prog.info? 5).map (fun i => (i.zero, i.size, i.bytes)) = some (some (.int .u8 0), 1, 1) := by kernel_rfl

theorem len_octets (X : List Int) : ∀ c ∈ X.map (fun x => [Value.int .u8 (x)]), c.length = 1 := by
  intro c hc
  simp only [List.mem_map] at hc
  obtain ⟨x, _, rfl⟩ := hc
  rfl

theorem one_octets (X : List Int) : ∀ u ∈ (X.map (fun x => [Value.int .u8 (x)])).flatten, u.oneCell' = true := by
  intro u hu
  simp only [List.mem_flatten, List.mem_map] at hu
  obtain ⟨c, ⟨x, _, rfl⟩, hu⟩ := hu
  simp [] at hu
  subst hu; rfl

set_option maxHeartbeats 1000000 in
theorem octets_new (v : Value) (X : List Int) (w : World) (r : RowAt w 1 v (X.map (fun x => [Value.int .u8 (x)]))) (hb : X.length * 1 ≤ 140737488351232) :
    Calls Try.prog 14 #[v] w (NewPost w 1 (X.map (fun x => [Value.int .u8 (x)]))) := by
  obtain ⟨i0, hi, hz0, hz1, hz2⟩ := info_parts info_octets
  have hlen := len_octets X
  have hone := one_octets X
  obtain ⟨a, cap, rfl, h1, h2, h3, h4⟩ := r
  simp only [List.length_map] at h1 ⊢
  cases a with
  | none =>
    have hX : X = [] := List.length_eq_zero_iff.1 (by have := h3 rfl; omega)
    have hc := h3 rfl
    subst hX hc
    clear h1 h2 h3 h4
    go_enter Try.func14, Try.ntmps14
    go_wp2_with (at_builtin; refine wpList_append_own_none rfl _ _ 27 rfl w.heap.size 5 i0 1 Try.underlying27 hi (.slice none 0 0) 0 [] rfl (World.ownsRow_nil _ _ _ _) rfl ?_)
    go_ret
    exact ⟨_, rfl, RowNew_nil _ _ _, Below.refl _ _⟩
  | some ad =>
    have hnews : ∀ k u, (X.map (fun x => [Value.int .u8 (x)])).flatten[k]? = some u → w.cell? (ad.add k) = some u := by
      by_cases hX : X = []
      · subst hX; intro k u hu; simp at hu
      · obtain ⟨b, off, hab, _, hcell⟩ := h4 (by simpa using hX)
        simp only [Option.some.injEq] at hab
        subst hab
        exact RowAt_news (by decide) hlen hcell
    have hfl : (X.map (fun x => [Value.int .u8 (x)])).flatten.length = X.length * 1 := by rw [flatten_length hlen, List.length_map]
    have A := Lib.hid (And.intro hlen (And.intro hone (And.intro hnews hfl)))
    clear hlen hone hnews hfl h1 h2 h3 h4
    go_enter Try.func14, Try.ntmps14
    go_wp2_with (at_builtin; refine wpList_append_own _ rfl _ _ 27 rfl w.heap.size 5 i0 (.int .u8 0) 1 1 Try.underlying27 hi hz0 hz1 hz2 rfl (by decide) _ 0 [] rfl (World.ownsRow_nil _ _ _ _) ad X.length cap ((X.map (fun x => [Value.int .u8 (x)])).flatten) rfl A.out.2.2.2 A.out.2.2.1 A.out.2.1 ?c1 ?c2 ?c3 ?_)
    case c1 => unfold maxLen; omega
    case c2 => omega
    case c3 => exact Nat.le_refl _
    intro v' w1 hown hgrow _
    try simp only [Nat.zero_add, List.nil_append] at hown
    have R : RowNew w.heap.size w1 1 v' (X.map (fun x => [Value.int .u8 (x)])) := RowNew_of_owns hown (by simp) A.out.1
    have B : Below w.heap.size w w1 := (Below.refl _ _).grown hgrow (Nat.le_refl _) (fun k hk => by cases hk)
    clear hown hgrow
    go_wp2
    go_ret
    exact ⟨_, rfl, R, B⟩
theorem octets_copy (v : Value) (X : List Int) (w : World) (r : RowAt w 1 v (X.map (fun x => [Value.int .u8 (x)]))) (hb : X.length * 1 ≤ 140737488351232) :
    Calls Try.prog 14 #[v] w (CopyPost w 1 (X.map (fun x => [Value.int .u8 (x)]))) := (octets_new v X w r hb).mono fun _ _ ⟨v', he, R, B⟩ => ⟨v', he, R.1, B⟩
end Go.Proofs.Ytjfnnbbnkcdbcaa
