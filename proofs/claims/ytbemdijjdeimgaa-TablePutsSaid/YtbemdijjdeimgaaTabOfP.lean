/- table.Of: its contract; the bad arguments. -/
import Derived.Test.YtbemdijjdeimgaaTabOf
namespace Go.Proofs.Ytbemdijjdeimgaa
open Go.RowKit

theorem own_below {wr w' : World} {B sz n : Nat} {t : TypeId} {v : Value} {cs : List Value} (h : wr.ownsRow B t sz v n cs) (hb : Below wr.heap.size wr w') : w'.ownsRow B t sz v n cs := by
  obtain ⟨h1, h2 | ⟨g, cap, cur, h3, h4, h5, h6⟩⟩ := h
  · exact ⟨h1, Or.inl h2⟩
  · exact ⟨h1, Or.inr ⟨g, cap, cur, h3, h4, (hb.block _ (lt_of_block h5)).trans h5, h6⟩⟩

theorem news_at {w : World} {n : Nat} (h : n = w.heap.size) (cs : List Value) (t : TypeId) : ∀ (j : Nat) (u : Value), cs[j]? = some u → (w.alloc (Obj.cells cs.toArray t)).cell? ((⟨n, 0, none⟩ : Addr).add j) = some u := by
  subst h; exact news_one cs t

set_option maxHeartbeats 2000000 in
set_option maxRecDepth 100000 in
theorem FlowsOf_bad (v : Value) (X : List Sl) (b : Int) (w : World) (r : RowAt w 4 v (X.map Sl.cells)) (h : ¬ TabMay X) : Calls Try.prog 16 #[.agg #[v], .int .i64 b] w fun e w' => e = .returned (.tuple #[.slice none 0 0, .int .i64 6]) ∧ Below w.heap.size w w' := by
  have R := Lib.hid r
  have H := Lib.hid h
  obtain ⟨a, c, rfl, _⟩ := RowAt_shape r
  clear r h
  go_enter Try.func16, Try.ntmps16
  go_wp2_with (go_at_call 26; refine (tabFault_bad _ X _ (RowAt_alloc R.out _) H.out).mono ?_; rintro e w1 ⟨rfl, hb1⟩; obtain ⟨hc1, hf1⟩ := bcell hb1; have hz1 := blt hb1; have hy1 := hb1.size; (try simp at hy1))
  (refine bodyPost_ret (v := .tuple #[.slice none 0 0, .int .i64 6]) ?_ rfl ?_; (focus (first | (simp [results, Try.results16, go_sem]; done) | (simp [results, Try.results16, go_sem, *]; done))); exact ⟨rfl, (by repeat (first | (with_reducible exact Below.refl _ _) | (with_reducible assumption) | (with_reducible refine Below.drew ?_) | (with_reducible refine Below_drewN ?_) | (with_reducible refine Below.alloc ?_ (by first | omega | (simp; done) | (simp; omega)) _) | (with_reducible refine Below.setCell ?_ (by first | omega | (simp; done) | (simp; omega)) _) | (with_reducible refine Below.trans ?_ (Below.mono (by assumption) (by first | omega | (simp; done) | (simp; omega))))))⟩)
set_option maxHeartbeats 2000000 in
set_option maxRecDepth 100000 in
theorem prog_Of_bad (v : Value) (X : List Sl) (b : Int) (w : World) (r : RowAt w 4 v (X.map Sl.cells)) (h : ¬ TabMay X) : Calls Try.prog 15 #[.agg #[v], .int .i64 b] w fun e w' => e = .returned (.tuple #[.slice none 0 0, .int .i64 6]) ∧ Below w.heap.size w w' := by
  have R := Lib.hid r
  have H := Lib.hid h
  obtain ⟨a, c, rfl, _⟩ := RowAt_shape r
  clear r h
  go_enter Try.func15, Try.ntmps15
  go_wp2_with (go_at_call 25; refine (tabCheck_bad _ X _ (RowAt_alloc R.out _) H.out).mono ?_; rintro e w1 ⟨rfl, hb1⟩; obtain ⟨hc1, hf1⟩ := bcell hb1; have hz1 := blt hb1; have hy1 := hb1.size; (try simp at hy1))
  (refine bodyPost_ret (v := .tuple #[.slice none 0 0, .int .i64 6]) ?_ rfl ?_; (focus (first | (simp [results, Try.results15, go_sem]; done) | (simp [results, Try.results15, go_sem, *]; done))); exact ⟨rfl, (by repeat (first | (with_reducible exact Below.refl _ _) | (with_reducible assumption) | (with_reducible refine Below.drew ?_) | (with_reducible refine Below_drewN ?_) | (with_reducible refine Below.alloc ?_ (by first | omega | (simp; done) | (simp; omega)) _) | (with_reducible refine Below.setCell ?_ (by first | omega | (simp; done) | (simp; omega)) _) | (with_reducible refine Below.trans ?_ (Below.mono (by assumption) (by first | omega | (simp; done) | (simp; omega))))))⟩)

set_option maxHeartbeats 4000000 in
set_option maxRecDepth 100000 in
theorem prog_Of_ok (b0 o0 c0 : Nat) (X : List Sl) (b : Int) (w : World) (hb0 : b0 < w.heap.size) (hm : TabMay X) (r : RowAt w 4 (.slice (some ⟨b0, o0, none⟩) X.length c0) (X.map Sl.cells)) (h1 : ∀ i j, i < X.length → j < 4 → w.cell? ⟨b0, o0 + i * 4 + j, none⟩ = (X.getD i Sl.zero).cells[j]?) :
    Calls Try.prog 15 #[.agg #[.slice (some ⟨b0, o0, none⟩) X.length c0], .int .i64 b] w (OfPost w X b) := by
  obtain ⟨i0, hi, hz0, hz1, hz2⟩ := info_parts info_hd
  have H1 := Lib.hid h1
  have R := Lib.hid r
  have M := Lib.hid hm
  have g2 : X.length ≤ 40 := hm.2.1
  clear h1 r hm
  go_enter Try.func15, Try.ntmps15
  go_wp2_with (go_at_call 25; refine (tabCheck_ok _ X _ (RowAt_alloc R.out _) M.out).mono ?_; rintro e w1 ⟨rfl, hb1⟩; obtain ⟨hc1, hf1⟩ := bcell hb1; have hz1 := blt hb1; have hy1 := hb1.size; (try simp at hy1))
  go_loopw [7, 18] (fun l i wr => ∃ k : Nat, k ≤ X.length ∧ i = .int .i64 k ∧ OfRel w wr (.slice (some ⟨b0, o0, none⟩) X.length c0) X b k l) (fun _ i _ => X.length - (intOf i).toNat)
  case atStart =>
    refine ⟨0, Nat.zero_le _, rfl, ((Below.refl _ _).alloc (Nat.le_refl _) _).trans (hb1.mono (by simp)), by omega, ?_, none, 0, rfl, World.ownsRow_nil _ _ _ _⟩
    rw [hc1 _ _ (by simp)]; go_simp
  case round =>
    obtain ⟨k, hk, rfl, hb, hsz, c1, a, cap, rfl, hown⟩ := hrel
    have hL := ofL_len X b k
    rcases (show k < X.length ∨ X.length = k by omega) with hlt | heq
    · have hlt' : (k : Int) < (X.length : Int) := by omega
      obtain ⟨s, hs⟩ : ∃ s, s = X.getD k Sl.zero := ⟨_, rfl⟩
      have hold : ∀ j, j < 4 → wr.cell? ⟨b0, o0 + k * 4 + j, none⟩ = s.cells[j]? := fun j hj => by
        rw [hb.cell (p := ⟨b0, o0 + k * 4 + j, none⟩) hb0, hs]; exact H1.out k j hlt hj
      have a0 := hold 0 (by omega)
      have a1 := hold 1 (by omega)
      have a2 := hold 2 (by omega)
      have a3 := hold 3 (by omega)
      clear hold
      have HS := Lib.hid hs
      have HB := Lib.hid hb
      have HO := Lib.hid hown
      clear hs hb hown hc1 hf1 hz1 hb1
      obtain ⟨g, u, ky, bb⟩ := s
      simp only [Sl.cells, List.getElem?_cons_zero, List.getElem?_cons_succ, Nat.add_zero] at a0 a1 a2 a3
      cases u with
      | false =>
        have KB := Lib.hid ((Below.refl wr.heap.size wr).alloc (Nat.le_refl _) (.cells #[.int .i64 g, .bool false, .int .i64 ky, .int .i64 bb] 28))
        go_wp2
        go_roundw
        case rel => exact ⟨k + 1, by omega, by go_num, by unfold OfRel; rw [ofL_no HS.out (by simp)]; exact ⟨HB.out.trans (KB.out.mono (by omega)), by simp; omega, by go_simp, a, cap, rfl, own_below HO.out KB.out⟩⟩
        case measure => simp [intOf]; omega
      | true =>
        have KB := Lib.hid ((Below.refl wr.heap.size wr).alloc (Nat.le_refl _) (.cells #[.int .i64 g, .bool true, .int .i64 ky, .int .i64 bb] 28))
        by_cases hbb : bb = b
        · subst hbb
          go_wp2_with (at_builtin; go_loud (refine wpList_append_own _ rfl _ _ 39 rfl (w.heap.size + 1) 26 i0 (.agg #[.int .i64 0, .int .i64 0]) 2 16 Try.underlying39 hi hz0 hz1 hz2 rfl (by decide) _ (ofL X bb k).length _ rfl ((own_below HO.out KB.out).alloc _) ⟨wr.heap.size + 1, 0, none⟩ 1 1 (Hd.cells ⟨k, g⟩) rfl rfl (news_at (w := wr.alloc (.cells #[.int .i64 g, .bool true, .int .i64 ky, .int .i64 bb] 28)) (by simp) (Hd.cells ⟨k, g⟩) 26) ?c1 ?c2 ?c3 ?c4 ?_))
          case c1 => intro u hu; simp [Hd.cells] at hu; rcases hu with rfl | rfl <;> rfl
          case c2 => unfold maxLen; omega
          case c3 => omega
          case c4 => simp; omega
          intro v' w1 hown' hgrow _
          have hB := own_grown (by simp; omega) (own_below HO.out KB.out) hgrow
          obtain ⟨a', cap', rfl, _, _⟩ := owns_shape hown'
          have HB2 := Lib.hid ((HB.out.trans (KB.out.mono (by omega))).trans (hB.mono (by omega)))
          have hsz2 : w.heap.size < w1.heap.size := by have := hB.size; simp at this; omega
          have c2 : w1.cell? ⟨w.heap.size, 0, none⟩ = some (.slice (some ⟨b0, o0, none⟩) X.length c0) := (hB.cell (p := ⟨w.heap.size, 0, none⟩) (by simp)).trans ((KB.out.cell (p := ⟨w.heap.size, 0, none⟩) hsz).trans c1)
          have HO2 := Lib.hid hown'
          clear hown' hgrow hB
          go_wp2
          go_roundw
          case rel =>
            refine ⟨k + 1, by omega, by go_num, HB2.out, hsz2, c2, a', cap', ?_, ?_⟩
            · rw [ofL_yes HS.out rfl rfl]; simp
            · rw [ofL_yes HS.out rfl rfl, hd_snoc]; simpa using HO2.out
          case measure => simp [intOf]; omega
        · have hd : (bb == b) = false := by simpa using hbb
          go_wp2
          go_roundw
          case rel => exact ⟨k + 1, by omega, by go_num, by unfold OfRel; rw [ofL_no HS.out (by simpa using hbb)]; exact ⟨HB.out.trans (KB.out.mono (by omega)), by simp; omega, by go_simp, a, cap, rfl, own_below HO.out KB.out⟩⟩
          case measure => simp [intOf]; omega
    · have hge : ¬ (k : Int) < (X.length : Int) := by omega
      have HB := Lib.hid hb
      have HO := Lib.hid hown
      clear hb hown hc1 hf1 hz1 hb1
      go_wp2
      refine bodyPost_ret (v := .tuple #[.slice a (ofL X b k).length cap, .int .i64 0]) ?_ rfl ?_
      · simp [results, Try.results15, go_sem, *]
      · exact ⟨_, rfl, by rw [heq]; exact RowNew_mono (RowNew_of_owns HO.out (by simp) (hd_len _)) (by omega), HB.out⟩
end Go.Proofs.Ytbemdijjdeimgaa
