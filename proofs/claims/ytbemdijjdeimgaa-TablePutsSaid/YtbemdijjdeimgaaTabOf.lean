/- usherref.FlowsOf: its contract. -/
import Derived.Test.YtbemdijjdeimgaaTabFault
namespace Go.Proofs.Ytbemdijjdeimgaa
open Go.RowKit

theorem info_hd : (Try.prog.info? 26).map (fun i => (i.zero, i.size, i.bytes)) = some (some (.agg #[.int .i64 0, .int .i64 0]), 2, 16) := by kernel_rfl

/-- P5.8: the flows of a backend among the first n slots. -/
def ofL (X : List Sl) (b : Int) : Nat → List Hd
  | 0 => []
  | n + 1 => ofL X b n ++ (if (X.getD n Sl.zero).used = true ∧ (X.getD n Sl.zero).backend = b then [⟨n, (X.getD n Sl.zero).gen⟩] else [])
theorem ofL_len (X : List Sl) (b : Int) : ∀ n, (ofL X b n).length ≤ n
  | 0 => Nat.le_refl _
  | n + 1 => by
    have := ofL_len X b n
    simp only [ofL, List.length_append]
    split <;> simp <;> omega
theorem ofL_yes {X : List Sl} {b : Int} {n : Nat} {s : Sl} (hs : s = X.getD n Sl.zero) (h1 : s.used = true) (h2 : s.backend = b) : ofL X b (n + 1) = ofL X b n ++ [⟨n, s.gen⟩] := by
  subst hs; simp only [ofL]; rw [if_pos ⟨h1, h2⟩]
theorem ofL_no {X : List Sl} {b : Int} {n : Nat} {s : Sl} (hs : s = X.getD n Sl.zero) (h : ¬ (s.used = true ∧ s.backend = b)) : ofL X b (n + 1) = ofL X b n := by
  subst hs; simp only [ofL]; rw [if_neg h, List.append_nil]
theorem hd_len (L : List Hd) : ∀ c ∈ L.map Hd.cells, c.length = 2 := by
  intro c hc
  simp only [List.mem_map] at hc
  obtain ⟨x, _, rfl⟩ := hc
  rfl
theorem hd_snoc (L : List Hd) (x : Hd) : ((L ++ [x]).map Hd.cells).flatten = (L.map Hd.cells).flatten ++ x.cells := by
  rw [List.map_append, List.flatten_append]; simp

theorem own_grown {wr w1 : World} {B sz n cap : Nat} {t : TypeId} {a : Option Addr} {cs : List Value} {o : Obj} (hB : B ≤ wr.heap.size) (hown : wr.ownsRow B t sz (.slice a n cap) n cs) (hgrow : (wr.alloc o).grownBy w1 (Value.slice a n cap).ownBlock) : Below B wr w1 :=
  ((Below.refl _ _).alloc hB _).trans ((Below.refl _ _).grown hgrow (by simp; omega) (by
    intro r hr
    obtain ⟨_, _, e, _, hb2⟩ := owns_shape hown
    cases a with
    | none => cases hr
    | some ad =>
      simp only [Value.slice.injEq] at e
      have := (hb2 ad e.1.symm).1
      simp only [Value.ownBlock, Option.some.injEq] at hr
      omega))

def OfPost (w : World) (X : List Sl) (b : Int) (e : Ending) (w' : World) : Prop := ∃ v, e = .returned (.tuple #[v, .int .i64 0]) ∧ RowNew w.heap.size w' 2 v ((ofL X b X.length).map Hd.cells) ∧ Below w.heap.size w w'

/-- What holds at the loop's head. -/
def OfRel (w wr : World) (s : Value) (X : List Sl) (b : Int) (k : Nat) (l : Value) : Prop := Below w.heap.size w wr ∧ w.heap.size < wr.heap.size ∧ wr.cell? ⟨w.heap.size, 0, none⟩ = some s ∧
  ∃ (a : Option Addr) (cap : Nat), l = .slice a (ofL X b k).length cap ∧ wr.ownsRow (w.heap.size + 1) 26 2 (.slice a (ofL X b k).length cap) (ofL X b k).length ((ofL X b k).map Hd.cells).flatten

set_option maxHeartbeats 4000000 in
set_option maxRecDepth 100000 in
theorem FlowsOf_ok (b0 o0 c0 : Nat) (X : List Sl) (b : Int) (w : World) (hb0 : b0 < w.heap.size) (hm : TabMay X) (r : RowAt w 4 (.slice (some ⟨b0, o0, none⟩) X.length c0) (X.map Sl.cells)) (h1 : ∀ i j, i < X.length → j < 4 → w.cell? ⟨b0, o0 + i * 4 + j, none⟩ = (X.getD i Sl.zero).cells[j]?) :
    Calls Try.prog 16 #[.agg #[.slice (some ⟨b0, o0, none⟩) X.length c0], .int .i64 b] w (OfPost w X b) := by
  obtain ⟨i0, hi, hz0, hz1, hz2⟩ := info_parts info_hd
  have H1 := Lib.hid h1
  have R := Lib.hid r
  have M := Lib.hid hm
  have g2 : X.length ≤ 40 := hm.2.1
  clear h1 r hm
  go_enter Try.func16, Try.ntmps16
  go_wp2_with (go_at_call 26; refine (tabFault_ok _ X _ (RowAt_alloc R.out _) M.out).mono ?_; rintro e w1 ⟨rfl, hb1⟩; obtain ⟨hc1, hf1⟩ := bcell hb1; have hz1 := blt hb1; have hy1 := hb1.size; (try simp at hy1))
  go_loopw [7, 8] (fun l i wr => ∃ k : Nat, k ≤ X.length ∧ i = .int .i64 k ∧ OfRel w wr (.slice (some ⟨b0, o0, none⟩) X.length c0) X b k l) (fun _ i _ => X.length - (intOf i).toNat)
  case atStart =>
    refine ⟨0, Nat.zero_le _, rfl, ((Below.refl _ _).alloc (Nat.le_refl _) _).trans (hb1.mono (by simp)), by omega, ?_, none, 0, rfl, World.ownsRow_nil _ _ _ _⟩
    rw [hc1 _ _ (by simp)]; go_simp
  case round =>
    obtain ⟨k, hk, rfl, hb, hsz, c1, a, cap, rfl, hown⟩ := hrel
    have hL := ofL_len X b k
    rcases (show k < X.length ∨ X.length = k by omega) with hlt | heq
    · have hlt' : (k : Int) < (X.length : Int) := by omega
      obtain ⟨s, hs⟩ : ∃ s, s = X.getD k Sl.zero := ⟨_, rfl⟩
      have hold : ∀ j, j < 4 → wr.cell? ⟨b0, o0 + k * 4 + j, none⟩ = s.cells[j]? := fun j hj => by
        rw [hb.cell (p := ⟨b0, o0 + k * 4 + j, none⟩) hb0, hs]; exact H1.out k j hlt hj
      have a0 := hold 0 (by omega)
      have a1 := hold 1 (by omega)
      have a3 := hold 3 (by omega)
      clear hold
      have HS := Lib.hid hs
      have HB := Lib.hid hb
      have HO := Lib.hid hown
      clear hs hb hown hc1 hf1 hz1 hb1
      obtain ⟨g, u, ky, bb⟩ := s
      simp only [Sl.cells, List.getElem?_cons_zero, List.getElem?_cons_succ, Nat.add_zero] at a0 a1 a3
      cases u with
      | false =>
        go_wp2
        go_roundw
        case rel => exact ⟨k + 1, by omega, by go_num, by unfold OfRel; rw [ofL_no HS.out (by simp)]; exact ⟨HB.out, hsz, c1, a, cap, rfl, HO.out⟩⟩
        case measure => simp [intOf]; omega
      | true =>
        by_cases hbb : bb = b
        · subst hbb
          go_wp2_with (at_builtin; refine wpList_append_own _ rfl _ _ 39 rfl (w.heap.size + 1) 26 i0 (.agg #[.int .i64 0, .int .i64 0]) 2 16 Try.underlying39 hi hz0 hz1 hz2 rfl (by decide) _ (ofL X bb k).length _ rfl (HO.out.alloc _) ⟨wr.heap.size, 0, none⟩ 1 1 (Hd.cells ⟨k, g⟩) rfl rfl (news_one (Hd.cells ⟨k, g⟩) 26) ?c1 ?c2 ?c3 ?c4 ?_)
          case c1 => intro u hu; simp [Hd.cells] at hu; rcases hu with rfl | rfl <;> rfl
          case c2 => unfold maxLen; omega
          case c3 => omega
          case c4 => simp; omega
          intro v' w1 hown' hgrow _
          have hB := own_grown (by omega) HO.out hgrow
          obtain ⟨a', cap', rfl, _, _⟩ := owns_shape hown'
          have HB2 := Lib.hid (HB.out.trans (hB.mono (by omega)))
          have hsz2 : w.heap.size < w1.heap.size := Nat.lt_of_lt_of_le hsz hB.size
          have c2 : w1.cell? ⟨w.heap.size, 0, none⟩ = some (.slice (some ⟨b0, o0, none⟩) X.length c0) := (hB.cell (p := ⟨w.heap.size, 0, none⟩) (by simp)).trans c1
          have HO2 := Lib.hid hown'
          clear hown' hgrow hB
          go_wp2
          go_roundw
          case rel =>
            refine ⟨k + 1, by omega, by go_num, HB2.out, hsz2, c2, a', cap', ?_, ?_⟩
            · rw [ofL_yes HS.out rfl rfl]; simp
            · rw [ofL_yes HS.out rfl rfl, hd_snoc]; simpa using HO2.out
          case measure => simp [intOf]; omega
        · have hd : (bb == b) = false := by simpa using hbb
          go_wp2
          go_roundw
          case rel => exact ⟨k + 1, by omega, by go_num, by unfold OfRel; rw [ofL_no HS.out (by simpa using hbb)]; exact ⟨HB.out, hsz, c1, a, cap, rfl, HO.out⟩⟩
          case measure => simp [intOf]; omega
    · have hge : ¬ (k : Int) < (X.length : Int) := by omega
      have HB := Lib.hid hb
      have HO := Lib.hid hown
      clear hb hown hc1 hf1 hz1 hb1
      go_wp2
      refine bodyPost_ret (v := .tuple #[.slice a (ofL X b k).length cap, .int .i64 0]) ?_ rfl ?_
      · simp [results, Try.results16, go_sem, *]
      · exact ⟨_, rfl, by rw [heq]; exact RowNew_mono (RowNew_of_owns HO.out (by simp) (hd_len _)) (by omega), HB.out⟩
end Go.Proofs.Ytbemdijjdeimgaa
