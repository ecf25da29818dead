/- usherref.EventRead: its contract. -/
import Derived.Test.YtjfnnbbnkcdbcaaNumO
namespace Go.Proofs.Ytjfnnbbnkcdbcaa
open Go.RowKit

/-- The row of the numbers: those that were read, then those that are not yet read. -/
def padC (F : List FD) (acc : List Int) : List Value := acc.map (fun n => Value.int .i64 n) ++ (valC F).drop acc.length
theorem pad_nil (F : List FD) : padC F [] = valC F := by simp [padC]
theorem pad_len {F : List FD} {acc : List Int} (h : acc.length ≤ F.length) : (padC F acc).length = F.length := by simp [padC, valC]; omega
theorem pad_set {F : List FD} {acc : List Int} {k : Nat} (ha : acc.length = k) (hk : k < F.length) (n : Int) : (padC F acc).toArray.setIfInBounds k (.int .i64 n) = (padC F (acc ++ [n])).toArray := by
  subst ha
  simp only [List.setIfInBounds_toArray, padC]
  congr 1
  rw [List.set_append_right _ _ (by simp)]
  have e : (valC F).drop acc.length = (valC F)[acc.length]'(by simpa [valC] using hk) :: (valC F).drop (acc.length + 1) := List.drop_eq_getElem_cons (by simpa [valC] using hk)
  rw [List.length_map, Nat.sub_self, e, List.set_cons_zero]
  simp [-List.getElem_cons_drop, List.map_append]
theorem pad_at {F : List FD} {acc : List Int} {k : Nat} (ha : acc.length = k) (hk : k < F.length) : ∃ v, (padC F acc).toArray[k]? = some v := by
  have h : k < (padC F acc).length := by rw [pad_len (by omega)]; exact hk
  exact ⟨_, by rw [List.getElem?_toArray, List.getElem?_eq_getElem h]⟩
theorem pad_full {F : List FD} {acc : List Int} (h : acc.length = F.length) : padC F acc = acc.map (fun n => Value.int .i64 n) := by
  rw [padC, List.drop_of_length_le (by simp [valC]; omega), List.append_nil]
theorem getD_drop (L : List Int) (t m : Nat) : (L.drop t).getD m 0 = L.getD (t + m) 0 := by
  simp [List.getD, List.getElem?_drop]
theorem row_blk {w : World} {b : Nat} {acc : List Int} {T : TypeId} (h : w.heap[b]? = some (.cells (acc.map (fun n => Value.int .i64 n)).toArray T (0, 0))) (hl : acc.length ≤ 3) : RowAt w 1 (.slice (some ⟨b, 0, none⟩) acc.length acc.length) (acc.map fun v => [Value.int .i64 v]) := by
  refine ⟨some ⟨b, 0, none⟩, acc.length, by simp, by simp, by unfold maxLen; omega, (fun h => by cases h), fun _ => ⟨b, 0, rfl, lt_of_block h, fun i j hi hj => ?_⟩⟩
  obtain rfl : j = 0 := by omega
  have hi' : i < acc.length := by simpa using hi
  rw [blk_cell h]
  simp [List.getD, hi']
def DrRel (w wr : World) (F : List FD) (b1 b2 b3 : Nat) (acc : List Int) : Prop := Below w.heap.size w wr ∧ w.heap.size < wr.heap.size ∧ wr.heap[w.heap.size]? = some (.cells #[.int .i64 0, .int .i64 0, .int .i64 0, .int .i64 0, .bool false, .int .i64 0, .int .i64 0, .int .i64 0] 23 (0, 0)) ∧
  (F ≠ [] → w.heap.size < b1 ∧ b1 < b2 ∧ b2 < b3 ∧ b3 < wr.heap.size ∧ wr.heap[b1]? = some (.cells (padC F acc).toArray 3 (0, 0)) ∧ wr.heap[b2]? = some (.cells (loC F).toArray 3 (0, 0)) ∧ wr.heap[b3]? = some (.cells (hiC F).toArray 3 (0, 0)))
theorem DrRel_drew {w wr : World} {F : List FD} {b1 b2 b3 : Nat} {acc : List Int} (h : DrRel w wr F b1 b2 b3 acc) : DrRel w wr.drew F b1 b2 b3 acc := ⟨h.1.drew, h.2⟩
theorem DrRel_set {w wr : World} {F : List FD} {b1 b2 b3 k : Nat} {acc : List Int} (h : DrRel w wr F b1 b2 b3 acc) (ha : acc.length = k) (hk : k < F.length) (n : Int) : DrRel w (wr.setCell ⟨b1, k, none⟩ (.int .i64 n)) F b1 b2 b3 (acc ++ [n]) := by
  have hne : F ≠ [] := by intro h; rw [h] at hk; simp at hk
  obtain ⟨h1, h2, h3, h4⟩ := h
  obtain ⟨g1, g2, g3, g4, g5, g6, g7⟩ := h4 hne
  refine ⟨h1.setCell (by show _ ≤ b1; omega) _, by simpa using h2, blk_set_ne h3 (by omega), fun _ => ⟨g1, g2, g3, by simpa using g4, ?_, blk_set_ne g6 (by omega), blk_set_ne g7 (by omega)⟩⟩
  rw [← pad_set ha hk]
  exact blk_set g5 _
theorem loC_at {F : List FD} {k : Nat} {f : FD} (hk : k < F.length) (hf : f = F.getD k FD.zero) : (loC F).toArray[k]? = some (.int .i64 f.lo) ∧ (hiC F).toArray[k]? = some (.int .i64 f.hi) := by
  simp [loC, hiC, hf, List.getD, hk]

set_option maxHeartbeats 8000000 in
set_option maxRecDepth 100000 in
theorem ref_Dec_bad (v : Value) (L : List Int) (c : Int) (w : World) (hB : IsB L) (r : RowAt w 1 v (byts L)) (h : (64 < L.length ∧ c = 1) ∨ (L.length = 0 ∧ c = 4) ∨ (0 < L.length ∧ L.length ≤ 64 ∧ ¬ (1 ≤ L.getD 0 0 ∧ L.getD 0 0 ≤ 7) ∧ c = 5)) :
    Calls Try.prog 16 #[v] w (DecPost w Ev.zero c) := by
  obtain ⟨a, cap, rfl, hlc, hcm, p⟩ := byte_at r
  have P := Lib.hid p
  have HIB := Lib.hid hB
  have hlm : (L.length : Int) ≤ 9223372036854775807 := by have := hcm; unfold maxLen at this; omega
  clear r p hB
  rcases h with ⟨h, rfl⟩ | ⟨h, rfl⟩ | ⟨h1, h2, h3, rfl⟩
  · have h' : (64 : Int) < (L.length : Int) := by omega
    go_enter Try.func16, Try.ntmps16
    go_wp2
    (refine bodyPost_ret (v := .tuple #[Ev.agg Ev.zero, .int .i64 1]) ?_ rfl ⟨rfl, (by repeat (first | (with_reducible exact Below.refl _ _) | (with_reducible assumption) | (with_reducible refine Below.drew ?_) | (with_reducible refine Below_drewN ?_) | (with_reducible refine Below.alloc ?_ (by first | omega | (simp; done) | (simp; omega)) _) | (with_reducible refine Below.setCell ?_ (by first | omega | (simp; done) | (simp; omega)) _) | (with_reducible refine Below.trans ?_ (Below.mono (by assumption) (by first | omega | (simp; done) | (simp; omega))))))⟩; (focus (first | (simp [results, Ev.agg, Ev.zero, Try.results16, go_sem]; done) | (simp [results, Ev.agg, Ev.zero, Try.results16, go_sem, *]; done))))
  · have h' : ¬ (64 : Int) < (L.length : Int) := by omega
    have hz : ((L.length : Int) == 0) = true := by rw [beq_iff_eq]; omega
    clear h
    go_enter Try.func16, Try.ntmps16
    go_wp2
    (refine bodyPost_ret (v := .tuple #[Ev.agg Ev.zero, .int .i64 4]) ?_ rfl ⟨rfl, (by repeat (first | (with_reducible exact Below.refl _ _) | (with_reducible assumption) | (with_reducible refine Below.drew ?_) | (with_reducible refine Below_drewN ?_) | (with_reducible refine Below.alloc ?_ (by first | omega | (simp; done) | (simp; omega)) _) | (with_reducible refine Below.setCell ?_ (by first | omega | (simp; done) | (simp; omega)) _) | (with_reducible refine Below.trans ?_ (Below.mono (by assumption) (by first | omega | (simp; done) | (simp; omega))))))⟩; (focus (first | (simp [results, Ev.agg, Ev.zero, Try.results16, go_sem]; done) | (simp [results, Ev.agg, Ev.zero, Try.results16, go_sem, *]; done))))
  · have h' : ¬ (64 : Int) < (L.length : Int) := by omega
    have hz : ((L.length : Int) == 0) = false := by rw [beq_eq_false_iff_ne]; omega
    obtain ⟨b, o, rfl, hb0, q⟩ := P.out (by intro h; rw [h] at h1; simp at h1)
    have a0 := q 0 h1
    rw [Nat.add_zero] at a0
    obtain ⟨kd, hkd⟩ : ∃ kd, kd = L.getD 0 0 := ⟨_, rfl⟩
    have hkb : 0 ≤ kd ∧ kd ≤ 255 := by rw [hkd]; exact HIB.out _ (by simp only [List.getD, List.getElem?_eq_getElem h1, Option.getD_some]; exact List.getElem_mem _)
    have hkw : wrap64 kd = kd := IntWalk.wrap64_in kd (by omega)
    rw [← hkd] at a0 h3
    have hbk : b < w.heap.size := hb0
    have H3 : Hid (false = decide (1 ≤ kd ∧ kd ≤ 7)) := by show false = _; simp only [h3, decide_false]
    clear q hkd h3
    go_enter Try.func16, Try.ntmps16
    go_wp2_with (go_at_call 30; refine (numbers_any (evZ kd) false _ H3.out).mono ?_)
    rintro e w1 ⟨v1, v2, v3, rfl, R1, R2, R3, hb1⟩
    have B1 := Lib.hid (((Below.refl w.heap.size w).alloc (Nat.le_refl _) (.cells #[.int .i64 0, .int .i64 0, .int .i64 0, .int .i64 0, .bool false, .int .i64 0, .int .i64 0, .int .i64 0] 23)).trans (hb1.mono (by first | omega | (simp; done) | (simp; omega))))
    have x0 := blk_below hb1 (heap_at (w := w) (.cells #[.int .i64 0, .int .i64 0, .int .i64 0, .int .i64 0, .bool false, .int .i64 0, .int .i64 0, .int .i64 0] 23) rfl) (by first | omega | (simp; done) | (simp; omega))
    have s1 := hb1.size
    simp at s1
    generalize evF (evZ kd) 0 0 (gdI (evZ kd).good) = F at R1 R2 R3
    obtain ⟨a1, cap1, rfl, _⟩ := RowAt_shape R1
    obtain ⟨a2, cap2, rfl, _⟩ := RowAt_shape R2
    obtain ⟨a3, cap3, rfl, _⟩ := RowAt_shape R3
    have m0 : w.heap.size < w1.heap.size := by omega
    have d0 := blk_cell x0 0
    have df0 := blk_free x0 0
    have d1 := blk_cell x0 1
    have df1 := blk_free x0 1
    have d2 := blk_cell x0 2
    have df2 := blk_free x0 2
    have d3 := blk_cell x0 3
    have df3 := blk_free x0 3
    have d4 := blk_cell x0 4
    have df4 := blk_free x0 4
    have d5 := blk_cell x0 5
    have df5 := blk_free x0 5
    have d6 := blk_cell x0 6
    have df6 := blk_free x0 6
    have d7 := blk_cell x0 7
    have df7 := blk_free x0 7
    simp at d0 d1 d2 d3 d4 d5 d6 d7
    have B1' := B1.out
    clear R1 R2 R3 hb1 x0
    go_wp2
    (refine bodyPost_ret (v := .tuple #[Ev.agg Ev.zero, .int .i64 5]) ?_ rfl ⟨rfl, (by repeat (first | (with_reducible exact Below.refl _ _) | (with_reducible assumption) | (with_reducible refine Below.drew ?_) | (with_reducible refine Below_drewN ?_) | (with_reducible refine Below.alloc ?_ (by first | omega | (simp; done) | (simp; omega)) _) | (with_reducible refine Below.setCell ?_ (by first | omega | (simp; done) | (simp; omega)) _) | (with_reducible refine Below.trans ?_ (Below.mono (by assumption) (by first | omega | (simp; done) | (simp; omega))))))⟩; (focus (first | (simp [results, Ev.agg, Ev.zero, Try.results16, go_sem]; done) | (simp [results, Ev.agg, Ev.zero, Try.results16, go_sem, *]; done))))

set_option maxHeartbeats 16000000 in
set_option maxRecDepth 100000 in
theorem ref_Dec_ok (v : Value) (L : List Int) (x : Ev) (c : Int) (w : World) (hB : IsB L) (r : RowAt w 1 v (byts L)) (h : 0 < L.length ∧ L.length ≤ 64 ∧ (1 ≤ L.getD 0 0 ∧ L.getD 0 0 ≤ 7) ∧ c = (rd (bnds (L.getD 0 0)) (L.drop 1) []).1 ∧ x = (if c = 0 then decX (L.getD 0 0) (rd (bnds (L.getD 0 0)) (L.drop 1) []).2 else Ev.zero)) :
    Calls Try.prog 16 #[v] w (DecPost w x c) := by
  obtain ⟨h1, h2, h3, h4, h5⟩ := h
  obtain ⟨a, cap, rfl, hlc, hcm, p⟩ := byte_at r
  have hlm : (L.length : Int) ≤ 9223372036854775807 := by have := hcm; unfold maxLen at this; omega
  have h' : ¬ (64 : Int) < (L.length : Int) := by omega
  have hz : ((L.length : Int) == 0) = false := by rw [beq_eq_false_iff_ne]; omega
  obtain ⟨b, o, rfl, hb0, q⟩ := p (by intro h; rw [h] at h1; simp at h1)
  have a0 := q 0 h1
  rw [Nat.add_zero] at a0
  have QQ := Lib.hid q
  have HIB := Lib.hid hB
  obtain ⟨kd, hkd⟩ : ∃ kd, kd = L.getD 0 0 := ⟨_, rfl⟩
  have hkb : 0 ≤ kd ∧ kd ≤ 255 := by rw [hkd]; exact hB _ (by simp only [List.getD, List.getElem?_eq_getElem h1, Option.getD_some]; exact List.getElem_mem _)
  have hkw : wrap64 kd = kd := IntWalk.wrap64_in kd (by omega)
  rw [← hkd] at a0 h3 h4 h5
  have hbk : b < w.heap.size := hb0
  have HK := Lib.hid h3
  have H4 := Lib.hid h4
  have H5 := Lib.hid h5
  clear q hkd h3 h4 h5 r hB p
  go_enter Try.func16, Try.ntmps16
  go_wp2_with (go_at_call 30; refine (numbersO kd _ HK.out).mono ?_)
  rintro e w1 ⟨a1, a2, a3, rfl, hb1, hcells⟩
  have B1 := Lib.hid (((Below.refl w.heap.size w).alloc (Nat.le_refl _) (.cells #[.int .i64 0, .int .i64 0, .int .i64 0, .int .i64 0, .bool false, .int .i64 0, .int .i64 0, .int .i64 0] 23)).trans (hb1.mono (by first | omega | (simp; done) | (simp; omega))))
  have x0 := blk_below hb1 (heap_at (w := w) (.cells #[.int .i64 0, .int .i64 0, .int .i64 0, .int .i64 0, .bool false, .int .i64 0, .int .i64 0, .int .i64 0] 23) rfl) (by first | omega | (simp; done) | (simp; omega))
  have s1 := hb1.size
  simp at s1
  have HSp := Lib.hid (bnds_any kd 0 0)
  have hlen := evF_len (evZ kd) 0 0 0
  have HAt := Lib.hid (fun (k : Nat) (f : FD) hk hf => bnds_at (kd := kd) (k := k) (be := 0) (bg := 0) (f := f) hk hf)
  generalize evF (evZ kd) 0 0 0 = F at hcells HSp hlen HAt
  obtain ⟨b1, b2, b3, hp1, hD0⟩ : ∃ b1 b2 b3, (F ≠ [] → a1 = some ⟨b1, 0, none⟩ ∧ a2 = some ⟨b2, 0, none⟩ ∧ a3 = some ⟨b3, 0, none⟩) ∧ DrRel w w1 F b1 b2 b3 [] := by
    by_cases hF : F = []
    · exact ⟨0, 0, 0, fun h => absurd hF h, B1.out, by omega, x0, fun h => absurd hF h⟩
    · obtain ⟨b1, b2, b3, e1, e2, e3, l1, l2, l3, c1, c2, c3⟩ := hcells hF
      simp at l1
      exact ⟨b1, b2, b3, fun _ => ⟨e1, e2, e3⟩, B1.out, by omega, x0, fun _ => ⟨by omega, l2, l3, lt_of_block c3, by rw [pad_nil]; exact c1, c2, c3⟩⟩
  have HP1 := Lib.hid hp1
  have HD0 := Lib.hid hD0
  clear hb1 hcells x0 hp1 hD0 B1 a0
  go_wp2_with fail
  go_loopw [9, 10] (fun at' i wr => ∃ (k t : Nat) (acc : List Int), k ≤ F.length ∧ at' = .int .i64 t ∧ i = .int .i64 k ∧ 1 ≤ t ∧ t ≤ L.length ∧ acc.length = k ∧ rd (bnds kd) (L.drop 1) [] = rd ((bnds kd).drop k) (L.drop t) acc ∧ DrRel w wr F b1 b2 b3 acc) (fun _ i _ => F.length - (intOf i).toNat)
  case atStart => exact ⟨0, 1, [], Nat.zero_le _, rfl, rfl, Nat.le_refl _, h1, rfl, rfl, HD0.out⟩
  case round =>
    clear HD0
    obtain ⟨k, t, acc, hk, rfl, rfl, ht1, htl, hal, hrd, hdr⟩ := hrel
    have HRd := Lib.hid hrd
    have HD := Lib.hid hdr
    have HAl := Lib.hid hal
    obtain ⟨q1, q2, q3, q4⟩ := hdr
    have Q1 := Lib.hid q1
    clear hrd hal
    rcases (show k < F.length ∨ F.length = k by omega) with hlt | heq
    · have hlt' : (k : Int) < (F.length : Int) := by omega
      have hne : F ≠ [] := by intro h; rw [h] at hlt; simp at hlt
      obtain ⟨rfl, rfl, rfl⟩ := HP1.out hne
      obtain ⟨g1, g2, g3, g4, g5, g6, g7⟩ := q4 hne
      obtain ⟨f, hf⟩ : ∃ f, f = F.getD k FD.zero := ⟨_, rfl⟩
      obtain ⟨l2, l3⟩ := loC_at hlt hf
      have a2 : wr.cell? ⟨b2, k, none⟩ = some (.int .i64 f.lo) := (blk_cell g6 k).trans l2
      have a3 : wr.cell? ⟨b3, k, none⟩ = some (.int .i64 f.hi) := (blk_cell g7 k).trans l3
      have HA := Lib.hid (HAt.out k f hlt hf)
      obtain ⟨v0, hv0⟩ := pad_at HAl.out hlt
      have a1 : wr.cell? ⟨b1, k, none⟩ = some v0 := (blk_cell g5 k).trans hv0
      have a1f := blk_free g5 k
      clear hf l2 l3 g5 g6 g7 hv0 q4
      obtain ⟨fa, lo, hi, vl⟩ := f
      simp only at a2 a3 HA
      have QB : Hid (∀ i, i < L.length → wr.cell? ⟨b, o + i, none⟩ = some (.int .u8 (L.getD i 0))) := fun i hi => (q1.cell (p := ⟨b, o + i, none⟩) hbk).trans (QQ.out i hi)
      have lb : b < wr.heap.size := by omega
      have d0 := blk_cell q3 0
      have df0 := blk_free q3 0
      have d1 := blk_cell q3 1
      have df1 := blk_free q3 1
      have d2 := blk_cell q3 2
      have df2 := blk_free q3 2
      have d3 := blk_cell q3 3
      have df3 := blk_free q3 3
      have d4 := blk_cell q3 4
      have df4 := blk_free q3 4
      have d5 := blk_cell q3 5
      have df5 := blk_free q3 5
      have d6 := blk_cell q3 6
      have df6 := blk_free q3 6
      have d7 := blk_cell q3 7
      have df7 := blk_free q3 7
      simp at d0 d1 d2 d3 d4 d5 d6 d7
      obtain ⟨M, hM⟩ : ∃ M, M = endOf (L.drop t) := ⟨_, rfl⟩
      obtain ⟨e6, el⟩ := end_le (L.drop t)
      rw [← hM, List.length_drop] at el
      rw [← hM] at e6
      have HM := Lib.hid hM
      have hml : t + M ≤ L.length := by omega
      clear hM q1 q3 el
      go_wp2_with fail
      go_loopw [11] (fun e wi => ∃ u : Nat, t ≤ u ∧ u ≤ t + M ∧ e = .int .i64 u ∧ wi = wr) (fun e _ => L.length - (intOf e).toNat)
      case atStart => exact ⟨t, Nat.le_refl _, by omega, rfl, rfl⟩
      case round =>
        obtain ⟨u, hu1, hu2, rfl, rfl⟩ := hrel
        have hs0 : (u : Int) - (t : Int) = ((u - t : Nat) : Int) := by omega
        rcases (show u = L.length ∨ (u < L.length ∧ u - t = 6) ∨ (u < L.length ∧ u - t < 6) by omega) with hx | ⟨hlu, h6⟩ | ⟨hlu, h6⟩
        · have hge : ¬ (u : Int) < (L.length : Int) := by omega
          have heqL : ((u : Int) == (L.length : Int)) = true := by rw [beq_iff_eq]; omega
          have hc : c = 4 := by
            have hg : getC (L.drop t) = 4 := by unfold getC; rw [← HM.out, List.length_drop, if_neg (by omega), if_pos (by omega)]
            rw [H4.out, HRd.out, HA.out]; exact (congrArg Prod.fst (rd_err (by rw [hg]; decide))).trans hg
          have hxz : x = Ev.zero := by rw [H5.out, hc]; rfl
          subst hxz
          have Q1' := Q1.out
          rcases (show (u : Int) - (t : Int) = 6 ∨ ¬ ((u : Int) - (t : Int) = 6) by omega) with h6 | h6
          · subst hc
            go_wp2
            all_goals (refine bodyPost_ret (v := .tuple #[Ev.agg Ev.zero, .int .i64 4]) ?_ rfl ⟨rfl, (by repeat (first | (with_reducible exact Below.refl _ _) | (with_reducible assumption) | (with_reducible refine Below.drew ?_) | (with_reducible refine Below_drewN ?_) | (with_reducible refine Below.alloc ?_ (by first | omega | (simp; done) | (simp; omega)) _) | (with_reducible refine Below.setCell ?_ (by first | omega | (simp; done) | (simp; omega)) _) | (with_reducible refine Below.trans ?_ (Below.mono (by assumption) (by first | omega | (simp; done) | (simp; omega))))))⟩; (focus (first | (simp [results, Ev.agg, Ev.zero, Try.results16, go_sem]; done) | (simp [results, Ev.agg, Ev.zero, Try.results16, go_sem, *]; done))))
          · have h6b : ((u : Int) - (t : Int) == 6) = false := by simpa using h6
            subst hc
            go_wp2
            all_goals (refine bodyPost_ret (v := .tuple #[Ev.agg Ev.zero, .int .i64 4]) ?_ rfl ⟨rfl, (by repeat (first | (with_reducible exact Below.refl _ _) | (with_reducible assumption) | (with_reducible refine Below.drew ?_) | (with_reducible refine Below_drewN ?_) | (with_reducible refine Below.alloc ?_ (by first | omega | (simp; done) | (simp; omega)) _) | (with_reducible refine Below.setCell ?_ (by first | omega | (simp; done) | (simp; omega)) _) | (with_reducible refine Below.trans ?_ (Below.mono (by assumption) (by first | omega | (simp; done) | (simp; omega))))))⟩; (focus (first | (simp [results, Ev.agg, Ev.zero, Try.results16, go_sem]; done) | (simp [results, Ev.agg, Ev.zero, Try.results16, go_sem, *]; done))))
        · have hlt2 : (u : Int) < (L.length : Int) := by omega
          have h6i : (u : Int) - (t : Int) = 6 := by omega
          have hc : c = 2 := by
            have hg : getC (L.drop t) = 2 := by unfold getC; rw [← HM.out, List.length_drop, if_pos (by omega)]
            rw [H4.out, HRd.out, HA.out]; exact (congrArg Prod.fst (rd_err (by rw [hg]; decide))).trans hg
          have hxz : x = Ev.zero := by rw [H5.out, hc]; rfl
          subst hxz hc
          have Q1' := Q1.out
          go_wp2
          all_goals (refine bodyPost_ret (v := .tuple #[Ev.agg Ev.zero, .int .i64 2]) ?_ rfl ⟨rfl, (by repeat (first | (with_reducible exact Below.refl _ _) | (with_reducible assumption) | (with_reducible refine Below.drew ?_) | (with_reducible refine Below_drewN ?_) | (with_reducible refine Below.alloc ?_ (by first | omega | (simp; done) | (simp; omega)) _) | (with_reducible refine Below.setCell ?_ (by first | omega | (simp; done) | (simp; omega)) _) | (with_reducible refine Below.trans ?_ (Below.mono (by assumption) (by first | omega | (simp; done) | (simp; omega))))))⟩; (focus (first | (simp [results, Ev.agg, Ev.zero, Try.results16, go_sem]; done) | (simp [results, Ev.agg, Ev.zero, Try.results16, go_sem, *]; done))))
        · have hlt2 : (u : Int) < (L.length : Int) := by omega
          have h6i : (u : Int) - (t : Int) < 6 := by omega
          have h6n : ¬ ((u : Int) - (t : Int) = 6) := by omega
          have h6b : ((u : Int) - (t : Int) == 6) = false := by simpa using h6n
          have heqL : ((u : Int) == (L.length : Int)) = false := by rw [beq_eq_false_iff_ne]; omega
          have au := QB.out u hlu
          obtain ⟨ch, hch⟩ : ∃ ch, ch = L.getD u 0 := ⟨_, rfl⟩
          have hcb : 0 ≤ ch ∧ ch ≤ 255 := by rw [hch]; exact HIB.out _ (by simp only [List.getD, List.getElem?_eq_getElem hlu, Option.getD_some]; exact List.getElem_mem _)
          have HCh : Hid ((L.drop t).getD (u - t) 0 = ch) := by show _ = _; rw [getD_drop, hch]; congr 1; omega
          rw [← hch] at au
          have HMk : Hid (u - t ≤ endOf (L.drop t)) := by show u - t ≤ _; rw [← HM.out]; omega
          clear hch
          rcases (show 128 ≤ ch ∨ ch < 128 by omega) with hc8 | hc8
          · have HN : Hid (u - t + 1 ≤ M) := by show _ ≤ M; rw [HM.out]; exact end_ge HMk.out (by omega) (by rw [List.length_drop]; omega) (by rw [HCh.out]; exact hc8)
            go_wp2
            go_roundw
            case rel => exact ⟨u + 1, by omega, by have := HN.out; omega, by go_num, by first | rfl | trivial⟩
            case measure => simp [intOf]; omega
          · have hc8' : ¬ 128 ≤ ch := by omega
            have he : M = u - t := by rw [HM.out]; exact end_eq HMk.out (by rw [HCh.out]; omega)
            have HE := Lib.hid he
            clear he
            rcases (show (ch = 0 ∧ t < u) ∨ ¬ (ch = 0 ∧ t < u) by omega) with ⟨hc0, htu⟩ | hno
            · subst hc0
              have htu' : (t : Int) < (u : Int) := by omega
              have hc : c = 3 := by
                have hg : getC (L.drop t) = 3 := by unfold getC; rw [← HM.out, List.length_drop, HE.out, HCh.out, if_neg (by omega), if_neg (by omega), if_pos ⟨rfl, by omega⟩]
                rw [H4.out, HRd.out, HA.out]; exact (congrArg Prod.fst (rd_err (by rw [hg]; decide))).trans hg
              have hxz : x = Ev.zero := by rw [H5.out, hc]; rfl
              subst hxz hc
              have Q1' := Q1.out
              go_wp2
              all_goals (refine bodyPost_ret (v := .tuple #[Ev.agg Ev.zero, .int .i64 3]) ?_ rfl ⟨rfl, (by repeat (first | (with_reducible exact Below.refl _ _) | (with_reducible assumption) | (with_reducible refine Below.drew ?_) | (with_reducible refine Below_drewN ?_) | (with_reducible refine Below.alloc ?_ (by first | omega | (simp; done) | (simp; omega)) _) | (with_reducible refine Below.setCell ?_ (by first | omega | (simp; done) | (simp; omega)) _) | (with_reducible refine Below.trans ?_ (Below.mono (by assumption) (by first | omega | (simp; done) | (simp; omega))))))⟩; (focus (first | (simp [results, Ev.agg, Ev.zero, Try.results16, go_sem]; done) | (simp [results, Ev.agg, Ev.zero, Try.results16, go_sem, *]; done))))
            · have HG : Hid (getC (L.drop t) = 0) := by
                show _ = _; unfold getC; rw [← HM.out, List.length_drop, HE.out, HCh.out, if_neg (by omega), if_neg (by omega), if_neg (by omega)]
              obtain ⟨T, hT⟩ : ∃ T, T = (L.drop t).take (u - t + 1) := ⟨_, rfl⟩
              have HT := Lib.hid hT
              have hTl : T.length = u - t + 1 := by rw [hT, List.length_take, List.length_drop]; omega
              have HV : Hid (getV (L.drop t) = numV T) := by show _ = _; unfold getV; rw [← HM.out, HE.out, hT]
              have HTg : Hid (∀ s, t ≤ s → s ≤ u → T.getD (s - t) 0 = L.getD s 0) := by
                intro s hs1 hs2
                rw [hT, List.getD, List.getElem?_take, if_pos (by omega), List.getElem?_drop]
                rw [List.getD, show t + (s - t) = s by omega]
              have HTu : Hid (T.drop (u + 1 - t) = []) := by show _ = _; exact List.drop_of_length_le (by omega)
              clear hT
              rcases (show (ch = 0 ∧ u = t) ∨ 0 < ch by omega) with ⟨hc0, htu⟩ | hpos
              · subst hc0
                have hnt : ¬ (t : Int) < (u : Int) := by omega
                have hnt2 : ¬ t < u := by omega
                clear htu
                go_wp2_with fail
                go_loopw [12, 13] (fun n kk wj => ∃ s : Nat, t ≤ s + 1 ∧ s ≤ u ∧ kk = .int .i64 s ∧ n = .int .i64 (numV (T.drop (s + 1 - t))) ∧ wj = wr) (fun _ kk _ => (intOf kk).toNat)
                case atStart => exact ⟨u, by omega, Nat.le_refl _, rfl, by rw [HTu.out]; rfl, rfl⟩
                case round =>
                  obtain ⟨s, hs1, hs2, rfl, rfl, rfl⟩ := hrel
                  rcases (show t ≤ s ∨ s + 1 = t by omega) with hst | hst
                  · have hst' : (t : Int) ≤ (s : Int) := by omega
                    have asv := QB.out s (by omega)
                    obtain ⟨cs, hcs⟩ : ∃ cs, cs = L.getD s 0 := ⟨_, rfl⟩
                    have hcsb : 0 ≤ cs ∧ cs ≤ 255 := by rw [hcs]; exact HIB.out _ (by simp only [List.getD, List.getElem?_eq_getElem (show s < L.length by omega), Option.getD_some]; exact List.getElem_mem _)
                    rw [← hcs] at asv
                    have hcw : wrap64 cs = cs := IntWalk.wrap64_in cs (by omega)
                    obtain ⟨N, hN⟩ : ∃ N, N = numV (T.drop (s + 1 - t)) := ⟨_, rfl⟩
                    have hNb := numV_bd (T.drop (s + 1 - t))
                    rw [← hN] at hNb
                    have hNb2 : 0 ≤ N ∧ N < 4398046511104 := by
                      refine ⟨hNb.1, Int.lt_of_lt_of_le hNb.2 ?_⟩
                      rw [List.length_drop, hTl]
                      have : (128 : Int) ^ (u - t + 1 - (s + 1 - t)) ≤ 128 ^ 6 := by
                        have h := Nat.pow_le_pow_right (n := 128) (by decide) (show u - t + 1 - (s + 1 - t) ≤ 6 by omega)
                        exact_mod_cast h
                      exact this
                    have HNx : Hid (numV (T.drop (s - 1 + 1 - t)) = 128 * N + cs % 128) := by
                      show _ = _
                      have e : T.drop (s - t) = T.getD (s - t) 0 :: T.drop (s - t + 1) := by
                        rw [List.drop_eq_getElem_cons (show s - t < T.length by omega)]
                        simp [List.getD, show s - t < T.length by omega]
                      rw [show s - 1 + 1 - t = s - t by omega, e, HTg.out s hst hs2, ← hcs]
                      simp only [numV]
                      rw [hN, show s - t + 1 = s + 1 - t by omega]
                      omega
                    rw [← hN]
                    clear hcs hN hNb
                    go_wp2
                    go_roundw
                    case rel => exact ⟨s - 1, by omega, by omega, by go_num, by rw [HNx.out], by first | rfl | trivial⟩
                    case measure => simp [intOf]; omega
                  · have hst' : ¬ (t : Int) ≤ (s : Int) := by omega
                    obtain ⟨N, hN⟩ : ∃ N, N = getV (L.drop t) := ⟨_, rfl⟩
                    have HN := Lib.hid hN
                    have e : numV (T.drop (s + 1 - t)) = N := by rw [show s + 1 - t = 0 by omega, List.drop_zero, ← HV.out, hN]
                    rw [e]
                    clear hN e
                    rcases (show (N < lo ∨ hi < N) ∨ (lo ≤ N ∧ N ≤ hi) by omega) with e1 | ⟨e1, e2⟩
                    · have hc : c = 2 := by rw [H4.out, HRd.out, HA.out]; exact congrArg Prod.fst (rd_out HG.out (by rw [← HN.out]; exact e1))
                      have hxz : x = Ev.zero := by rw [H5.out, hc]; rfl
                      subst hxz hc
                      have Q1' := Q1.out
                      go_wp2_with fail
                      (refine wp_region_noPanic ?_; refine wp_region_held_drew (S := (fun w' => w'.cell? ⟨b2, k, none⟩ = some (.int .i64 lo) ∧ w'.cell? ⟨b3, k, none⟩ = some (.int .i64 hi))) (by kernel_rfl) ?q1xb (fun hHeld => ?_); (case q1xb => ((try dsimp only); ((go_split_ands; (try dsimp only); (repeat' apply And.intro); all_goals (repeat (first | with_reducible assumption | (with_reducible refine (cell_set_ne ?_).trans ?_; omega) | (with_reducible refine cell_alloc _ ?_) | (with_reducible refine cell_drew ?_) | (with_reducible refine cell_below' hb9 ?_))))))); refine wpAnyH_take (i := 0) (v := ?q1xv0) (by simp only [List.getElem?_toArray, List.getElem?_cons_zero]; exact rfl) (by kernel_rfl) (by kernel_rfl) (by kernel_rfl) (fun _ _ _ h => h) (Or.inl ⟨by rfl, ?q1xy0⟩) (by assumption) ?_; (case q1xy0 => (intro w hSw; (try dsimp only at hSw); go_simp; (try with_reducible rfl))); (try simp only [Act.put, List.setIfInBounds_toArray, List.set_cons_zero, List.set_cons_succ]); refine wpAnyH_take (i := 1) (v := ?q1xv1) (by simp only [List.getElem?_toArray, List.getElem?_cons_zero, List.getElem?_cons_succ]; exact rfl) (by kernel_rfl) (by kernel_rfl) (by kernel_rfl) (fun _ _ _ h => h) (Or.inl ⟨by rfl, ?q1xy1⟩) (by assumption) ?_; (case q1xy1 => (intro w hSw; (try dsimp only at hSw); go_simp; (try with_reducible rfl))); (try simp only [Act.put, List.setIfInBounds_toArray, List.set_cons_zero, List.set_cons_succ]); refine wpAnyH_take (i := 2) (v := ?q1xv2) (by simp only [List.getElem?_toArray, List.getElem?_cons_zero, List.getElem?_cons_succ]; exact rfl) (by kernel_rfl) (by kernel_rfl) (by kernel_rfl) (fun _ _ _ h => h) (Or.inl ⟨by rfl, ?q1xy2⟩) (by assumption) ?_; (case q1xy2 => (intro w hSw; (try dsimp only at hSw); go_simp; (try with_reducible rfl))); (try simp only [Act.put, List.setIfInBounds_toArray, List.set_cons_zero, List.set_cons_succ]); refine wpAnyH_take (i := 3) (v := ?q1xv3) (by simp only [List.getElem?_toArray, List.getElem?_cons_zero, List.getElem?_cons_succ]; exact rfl) (by kernel_rfl) (by kernel_rfl) (by kernel_rfl) (fun _ _ _ h => h) (Or.inl ⟨by rfl, ?q1xy3⟩) (by assumption) ?_; (case q1xy3 => (intro w hSw; (try dsimp only at hSw); go_simp; (try with_reducible rfl))); (try simp only [Act.put, List.setIfInBounds_toArray, List.set_cons_zero, List.set_cons_succ]); refine wpAnyH_take (i := 4) (v := ?q1xv4) (by simp only [List.getElem?_toArray, List.getElem?_cons_zero, List.getElem?_cons_succ]; exact rfl) (by kernel_rfl) (by kernel_rfl) (by kernel_rfl) (fun _ _ _ h => h) (Or.inl ⟨by rfl, ?q1xy4⟩) (by assumption) ?_; (case q1xy4 => (intro w hSw; (try dsimp only at hSw); go_simp; (try with_reducible rfl))); (try simp only [Act.put, List.setIfInBounds_toArray, List.set_cons_zero, List.set_cons_succ]); refine wpAnyH_take (i := 5) (v := ?q1xv5) (by simp only [List.getElem?_toArray, List.getElem?_cons_zero, List.getElem?_cons_succ]; exact rfl) (by kernel_rfl) (by kernel_rfl) (by kernel_rfl) (fun _ _ _ h => h) (Or.inl ⟨by rfl, ?q1xy5⟩) (by assumption) ?_; (case q1xy5 => (intro w hSw; (try dsimp only at hSw); go_simp; (try with_reducible rfl))); (try simp only [Act.put, List.setIfInBounds_toArray, List.set_cons_zero, List.set_cons_succ]); refine wpAnyH_take (i := 6) (v := ?q1xv6) (by simp only [List.getElem?_toArray, List.getElem?_cons_zero, List.getElem?_cons_succ]; exact rfl) (by kernel_rfl) (by kernel_rfl) (by kernel_rfl) (fun _ _ _ h => h) (Or.inl ⟨by rfl, ?q1xy6⟩) (by assumption) ?_; (case q1xy6 => (intro w hSw; (try dsimp only at hSw); go_simp; (try with_reducible rfl))); (try simp only [Act.put, List.setIfInBounds_toArray, List.set_cons_zero, List.set_cons_succ]); refine wpAnyH_take (i := 7) (v := ?q1xv7) (by simp only [List.getElem?_toArray, List.getElem?_cons_zero, List.getElem?_cons_succ]; exact rfl) (by kernel_rfl) (by kernel_rfl) (by kernel_rfl) (fun _ _ _ h => h) (Or.inl ⟨by rfl, ?q1xy7⟩) (by assumption) ?_; (case q1xy7 => (intro w hSw; (try dsimp only at hSw); go_simp; (try with_reducible rfl))); (try simp only [Act.put, List.setIfInBounds_toArray, List.set_cons_zero, List.set_cons_succ]); refine wpAnyH_take (i := 8) (v := ?q1xv8) (by simp only [List.getElem?_toArray, List.getElem?_cons_zero, List.getElem?_cons_succ]; exact rfl) (by kernel_rfl) (by kernel_rfl) (by kernel_rfl) (fun _ _ _ h => h) (Or.inl ⟨by rfl, ?q1xy8⟩) (by assumption) ?_; (case q1xy8 => (intro w hSw; (try dsimp only at hSw); go_simp; (try with_reducible rfl))); (try simp only [Act.put, List.setIfInBounds_toArray, List.set_cons_zero, List.set_cons_succ]); refine wpAnyH_ready (rs := [9]) (by kernel_rfl) (by simp) ?_; refine AllReadyH.cons (by simp only [List.getElem?_toArray, List.getElem?_cons_zero, List.getElem?_cons_succ]; exact rfl) (fun K hK => ?_) AllReadyH.nil; go_simp; (go_at_call 31; first | (refine (In_yes _ _ _ _ (by omega) (by omega)).mono ?_; rintro e w' ⟨rfl, rfl⟩) | (refine (In_no _ _ _ _ (by omega)).mono ?_; rintro e w' ⟨rfl, rfl⟩)); (try go_wp2_with fail); refine hK.out _ _ ?q1xs9 (fun hHeld => ?_); (case q1xs9 => ((try dsimp only); ((go_split_ands; (try dsimp only); (repeat' apply And.intro); all_goals (repeat (first | with_reducible assumption | (with_reducible refine (cell_set_ne ?_).trans ?_; omega) | (with_reducible refine cell_alloc _ ?_) | (with_reducible refine cell_drew ?_) | (with_reducible refine cell_below' hb9 ?_))))))); clear hK K; (try simp only [Act.put, List.setIfInBounds_toArray, List.set_cons_zero, List.set_cons_succ]); refine wpAnyH_take (i := 10) (v := ?q1xv10) (by simp only [List.getElem?_toArray, List.getElem?_cons_zero, List.getElem?_cons_succ]; exact rfl) (by kernel_rfl) (by kernel_rfl) (by kernel_rfl) (fun _ _ _ h => h) (Or.inl ⟨by rfl, ?q1xy10⟩) (by assumption) ?_; (case q1xy10 => (intro w hSw; (try dsimp only at hSw); go_simp; (try with_reducible rfl))); (try simp only [Act.put, List.setIfInBounds_toArray, List.set_cons_zero, List.set_cons_succ]); refine wpAnyH_done (by kernel_rfl) ?_ _; refine NoPanic.normal ?_)
                      go_wp2
                      all_goals (refine bodyPost_ret (v := .tuple #[Ev.agg Ev.zero, .int .i64 2]) ?_ rfl ⟨rfl, (by repeat (first | (with_reducible exact Below.refl _ _) | (with_reducible assumption) | (with_reducible refine Below.drew ?_) | (with_reducible refine Below_drewN ?_) | (with_reducible refine Below.alloc ?_ (by first | omega | (simp; done) | (simp; omega)) _) | (with_reducible refine Below.setCell ?_ (by first | omega | (simp; done) | (simp; omega)) _) | (with_reducible refine Below.trans ?_ (Below.mono (by assumption) (by first | omega | (simp; done) | (simp; omega))))))⟩; (focus (first | (simp [results, Ev.agg, Ev.zero, Try.results16, go_sem]; done) | (simp [results, Ev.agg, Ev.zero, Try.results16, go_sem, *]; done))))
                    · have HNx : Hid (rd (bnds kd) (L.drop 1) [] = rd ((bnds kd).drop (k + 1)) (L.drop (u + 1)) (acc ++ [N])) := by
                        show _ = _
                        rw [HRd.out, HA.out, rd_in HG.out (by rw [← HN.out]; exact e1) (by rw [← HN.out]; exact e2), ← HN.out, ← HM.out, HE.out, List.drop_drop]
                        congr 2; omega
                      have HS := Lib.hid (DrRel_set (DrRel_drew HD.out) HAl.out hlt N)
                      go_wp2_with fail
                      (refine wp_region_noPanic ?_; refine wp_region_held_drew (S := (fun w' => w'.cell? ⟨b2, k, none⟩ = some (.int .i64 lo) ∧ w'.cell? ⟨b3, k, none⟩ = some (.int .i64 hi))) (by kernel_rfl) ?q2xb (fun hHeld => ?_); (case q2xb => ((try dsimp only); ((go_split_ands; (try dsimp only); (repeat' apply And.intro); all_goals (repeat (first | with_reducible assumption | (with_reducible refine (cell_set_ne ?_).trans ?_; omega) | (with_reducible refine cell_alloc _ ?_) | (with_reducible refine cell_drew ?_) | (with_reducible refine cell_below' hb9 ?_))))))); refine wpAnyH_take (i := 0) (v := ?q2xv0) (by simp only [List.getElem?_toArray, List.getElem?_cons_zero]; exact rfl) (by kernel_rfl) (by kernel_rfl) (by kernel_rfl) (fun _ _ _ h => h) (Or.inl ⟨by rfl, ?q2xy0⟩) (by assumption) ?_; (case q2xy0 => (intro w hSw; (try dsimp only at hSw); go_simp; (try with_reducible rfl))); (try simp only [Act.put, List.setIfInBounds_toArray, List.set_cons_zero, List.set_cons_succ]); refine wpAnyH_take (i := 1) (v := ?q2xv1) (by simp only [List.getElem?_toArray, List.getElem?_cons_zero, List.getElem?_cons_succ]; exact rfl) (by kernel_rfl) (by kernel_rfl) (by kernel_rfl) (fun _ _ _ h => h) (Or.inl ⟨by rfl, ?q2xy1⟩) (by assumption) ?_; (case q2xy1 => (intro w hSw; (try dsimp only at hSw); go_simp; (try with_reducible rfl))); (try simp only [Act.put, List.setIfInBounds_toArray, List.set_cons_zero, List.set_cons_succ]); refine wpAnyH_take (i := 2) (v := ?q2xv2) (by simp only [List.getElem?_toArray, List.getElem?_cons_zero, List.getElem?_cons_succ]; exact rfl) (by kernel_rfl) (by kernel_rfl) (by kernel_rfl) (fun _ _ _ h => h) (Or.inl ⟨by rfl, ?q2xy2⟩) (by assumption) ?_; (case q2xy2 => (intro w hSw; (try dsimp only at hSw); go_simp; (try with_reducible rfl))); (try simp only [Act.put, List.setIfInBounds_toArray, List.set_cons_zero, List.set_cons_succ]); refine wpAnyH_take (i := 3) (v := ?q2xv3) (by simp only [List.getElem?_toArray, List.getElem?_cons_zero, List.getElem?_cons_succ]; exact rfl) (by kernel_rfl) (by kernel_rfl) (by kernel_rfl) (fun _ _ _ h => h) (Or.inl ⟨by rfl, ?q2xy3⟩) (by assumption) ?_; (case q2xy3 => (intro w hSw; (try dsimp only at hSw); go_simp; (try with_reducible rfl))); (try simp only [Act.put, List.setIfInBounds_toArray, List.set_cons_zero, List.set_cons_succ]); refine wpAnyH_take (i := 4) (v := ?q2xv4) (by simp only [List.getElem?_toArray, List.getElem?_cons_zero, List.getElem?_cons_succ]; exact rfl) (by kernel_rfl) (by kernel_rfl) (by kernel_rfl) (fun _ _ _ h => h) (Or.inl ⟨by rfl, ?q2xy4⟩) (by assumption) ?_; (case q2xy4 => (intro w hSw; (try dsimp only at hSw); go_simp; (try with_reducible rfl))); (try simp only [Act.put, List.setIfInBounds_toArray, List.set_cons_zero, List.set_cons_succ]); refine wpAnyH_take (i := 5) (v := ?q2xv5) (by simp only [List.getElem?_toArray, List.getElem?_cons_zero, List.getElem?_cons_succ]; exact rfl) (by kernel_rfl) (by kernel_rfl) (by kernel_rfl) (fun _ _ _ h => h) (Or.inl ⟨by rfl, ?q2xy5⟩) (by assumption) ?_; (case q2xy5 => (intro w hSw; (try dsimp only at hSw); go_simp; (try with_reducible rfl))); (try simp only [Act.put, List.setIfInBounds_toArray, List.set_cons_zero, List.set_cons_succ]); refine wpAnyH_take (i := 6) (v := ?q2xv6) (by simp only [List.getElem?_toArray, List.getElem?_cons_zero, List.getElem?_cons_succ]; exact rfl) (by kernel_rfl) (by kernel_rfl) (by kernel_rfl) (fun _ _ _ h => h) (Or.inl ⟨by rfl, ?q2xy6⟩) (by assumption) ?_; (case q2xy6 => (intro w hSw; (try dsimp only at hSw); go_simp; (try with_reducible rfl))); (try simp only [Act.put, List.setIfInBounds_toArray, List.set_cons_zero, List.set_cons_succ]); refine wpAnyH_take (i := 7) (v := ?q2xv7) (by simp only [List.getElem?_toArray, List.getElem?_cons_zero, List.getElem?_cons_succ]; exact rfl) (by kernel_rfl) (by kernel_rfl) (by kernel_rfl) (fun _ _ _ h => h) (Or.inl ⟨by rfl, ?q2xy7⟩) (by assumption) ?_; (case q2xy7 => (intro w hSw; (try dsimp only at hSw); go_simp; (try with_reducible rfl))); (try simp only [Act.put, List.setIfInBounds_toArray, List.set_cons_zero, List.set_cons_succ]); refine wpAnyH_take (i := 8) (v := ?q2xv8) (by simp only [List.getElem?_toArray, List.getElem?_cons_zero, List.getElem?_cons_succ]; exact rfl) (by kernel_rfl) (by kernel_rfl) (by kernel_rfl) (fun _ _ _ h => h) (Or.inl ⟨by rfl, ?q2xy8⟩) (by assumption) ?_; (case q2xy8 => (intro w hSw; (try dsimp only at hSw); go_simp; (try with_reducible rfl))); (try simp only [Act.put, List.setIfInBounds_toArray, List.set_cons_zero, List.set_cons_succ]); refine wpAnyH_ready (rs := [9]) (by kernel_rfl) (by simp) ?_; refine AllReadyH.cons (by simp only [List.getElem?_toArray, List.getElem?_cons_zero, List.getElem?_cons_succ]; exact rfl) (fun K hK => ?_) AllReadyH.nil; go_simp; (go_at_call 31; first | (refine (In_yes _ _ _ _ (by omega) (by omega)).mono ?_; rintro e w' ⟨rfl, rfl⟩) | (refine (In_no _ _ _ _ (by omega)).mono ?_; rintro e w' ⟨rfl, rfl⟩)); (try go_wp2_with fail); refine hK.out _ _ ?q2xs9 (fun hHeld => ?_); (case q2xs9 => ((try dsimp only); ((go_split_ands; (try dsimp only); (repeat' apply And.intro); all_goals (repeat (first | with_reducible assumption | (with_reducible refine (cell_set_ne ?_).trans ?_; omega) | (with_reducible refine cell_alloc _ ?_) | (with_reducible refine cell_drew ?_) | (with_reducible refine cell_below' hb9 ?_))))))); clear hK K; (try simp only [Act.put, List.setIfInBounds_toArray, List.set_cons_zero, List.set_cons_succ]); refine wpAnyH_take (i := 10) (v := ?q2xv10) (by simp only [List.getElem?_toArray, List.getElem?_cons_zero, List.getElem?_cons_succ]; exact rfl) (by kernel_rfl) (by kernel_rfl) (by kernel_rfl) (fun _ _ _ h => h) (Or.inl ⟨by rfl, ?q2xy10⟩) (by assumption) ?_; (case q2xy10 => (intro w hSw; (try dsimp only at hSw); go_simp; (try with_reducible rfl))); (try simp only [Act.put, List.setIfInBounds_toArray, List.set_cons_zero, List.set_cons_succ]); refine wpAnyH_done (by kernel_rfl) ?_ _; refine NoPanic.normal ?_)
                      go_wp2
                      go_roundw
                      case rel => exact ⟨k + 1, u + 1, acc ++ [N], by omega, by go_num, by go_num, by omega, by omega, by simp [HAl.out], HNx.out, HS.out⟩
                      case measure => simp [intOf]; omega
              · have hcz : (ch == 0) = false := by simp; omega
                have hcz2 : ¬ ch = 0 := by omega
                go_wp2_with fail
                go_loopw [12, 13] (fun n kk wj => ∃ s : Nat, t ≤ s + 1 ∧ s ≤ u ∧ kk = .int .i64 s ∧ n = .int .i64 (numV (T.drop (s + 1 - t))) ∧ wj = wr) (fun _ kk _ => (intOf kk).toNat)
                case atStart => exact ⟨u, by omega, Nat.le_refl _, rfl, by rw [HTu.out]; rfl, rfl⟩
                case round =>
                  obtain ⟨s, hs1, hs2, rfl, rfl, rfl⟩ := hrel
                  rcases (show t ≤ s ∨ s + 1 = t by omega) with hst | hst
                  · have hst' : (t : Int) ≤ (s : Int) := by omega
                    have asv := QB.out s (by omega)
                    obtain ⟨cs, hcs⟩ : ∃ cs, cs = L.getD s 0 := ⟨_, rfl⟩
                    have hcsb : 0 ≤ cs ∧ cs ≤ 255 := by rw [hcs]; exact HIB.out _ (by simp only [List.getD, List.getElem?_eq_getElem (show s < L.length by omega), Option.getD_some]; exact List.getElem_mem _)
                    rw [← hcs] at asv
                    have hcw : wrap64 cs = cs := IntWalk.wrap64_in cs (by omega)
                    obtain ⟨N, hN⟩ : ∃ N, N = numV (T.drop (s + 1 - t)) := ⟨_, rfl⟩
                    have hNb := numV_bd (T.drop (s + 1 - t))
                    rw [← hN] at hNb
                    have hNb2 : 0 ≤ N ∧ N < 4398046511104 := by
                      refine ⟨hNb.1, Int.lt_of_lt_of_le hNb.2 ?_⟩
                      rw [List.length_drop, hTl]
                      have : (128 : Int) ^ (u - t + 1 - (s + 1 - t)) ≤ 128 ^ 6 := by
                        have h := Nat.pow_le_pow_right (n := 128) (by decide) (show u - t + 1 - (s + 1 - t) ≤ 6 by omega)
                        exact_mod_cast h
                      exact this
                    have HNx : Hid (numV (T.drop (s - 1 + 1 - t)) = 128 * N + cs % 128) := by
                      show _ = _
                      have e : T.drop (s - t) = T.getD (s - t) 0 :: T.drop (s - t + 1) := by
                        rw [List.drop_eq_getElem_cons (show s - t < T.length by omega)]
                        simp [List.getD, show s - t < T.length by omega]
                      rw [show s - 1 + 1 - t = s - t by omega, e, HTg.out s hst hs2, ← hcs]
                      simp only [numV]
                      rw [hN, show s - t + 1 = s + 1 - t by omega]
                      omega
                    rw [← hN]
                    clear hcs hN hNb
                    go_wp2
                    go_roundw
                    case rel => exact ⟨s - 1, by omega, by omega, by go_num, by rw [HNx.out], by first | rfl | trivial⟩
                    case measure => simp [intOf]; omega
                  · have hst' : ¬ (t : Int) ≤ (s : Int) := by omega
                    obtain ⟨N, hN⟩ : ∃ N, N = getV (L.drop t) := ⟨_, rfl⟩
                    have HN := Lib.hid hN
                    have e : numV (T.drop (s + 1 - t)) = N := by rw [show s + 1 - t = 0 by omega, List.drop_zero, ← HV.out, hN]
                    rw [e]
                    clear hN e
                    rcases (show (N < lo ∨ hi < N) ∨ (lo ≤ N ∧ N ≤ hi) by omega) with e1 | ⟨e1, e2⟩
                    · have hc : c = 2 := by rw [H4.out, HRd.out, HA.out]; exact congrArg Prod.fst (rd_out HG.out (by rw [← HN.out]; exact e1))
                      have hxz : x = Ev.zero := by rw [H5.out, hc]; rfl
                      subst hxz hc
                      have Q1' := Q1.out
                      go_wp2_with fail
                      (refine wp_region_noPanic ?_; refine wp_region_held_drew (S := (fun w' => w'.cell? ⟨b2, k, none⟩ = some (.int .i64 lo) ∧ w'.cell? ⟨b3, k, none⟩ = some (.int .i64 hi))) (by kernel_rfl) ?q3xb (fun hHeld => ?_); (case q3xb => ((try dsimp only); ((go_split_ands; (try dsimp only); (repeat' apply And.intro); all_goals (repeat (first | with_reducible assumption | (with_reducible refine (cell_set_ne ?_).trans ?_; omega) | (with_reducible refine cell_alloc _ ?_) | (with_reducible refine cell_drew ?_) | (with_reducible refine cell_below' hb9 ?_))))))); refine wpAnyH_take (i := 0) (v := ?q3xv0) (by simp only [List.getElem?_toArray, List.getElem?_cons_zero]; exact rfl) (by kernel_rfl) (by kernel_rfl) (by kernel_rfl) (fun _ _ _ h => h) (Or.inl ⟨by rfl, ?q3xy0⟩) (by assumption) ?_; (case q3xy0 => (intro w hSw; (try dsimp only at hSw); go_simp; (try with_reducible rfl))); (try simp only [Act.put, List.setIfInBounds_toArray, List.set_cons_zero, List.set_cons_succ]); refine wpAnyH_take (i := 1) (v := ?q3xv1) (by simp only [List.getElem?_toArray, List.getElem?_cons_zero, List.getElem?_cons_succ]; exact rfl) (by kernel_rfl) (by kernel_rfl) (by kernel_rfl) (fun _ _ _ h => h) (Or.inl ⟨by rfl, ?q3xy1⟩) (by assumption) ?_; (case q3xy1 => (intro w hSw; (try dsimp only at hSw); go_simp; (try with_reducible rfl))); (try simp only [Act.put, List.setIfInBounds_toArray, List.set_cons_zero, List.set_cons_succ]); refine wpAnyH_take (i := 2) (v := ?q3xv2) (by simp only [List.getElem?_toArray, List.getElem?_cons_zero, List.getElem?_cons_succ]; exact rfl) (by kernel_rfl) (by kernel_rfl) (by kernel_rfl) (fun _ _ _ h => h) (Or.inl ⟨by rfl, ?q3xy2⟩) (by assumption) ?_; (case q3xy2 => (intro w hSw; (try dsimp only at hSw); go_simp; (try with_reducible rfl))); (try simp only [Act.put, List.setIfInBounds_toArray, List.set_cons_zero, List.set_cons_succ]); refine wpAnyH_take (i := 3) (v := ?q3xv3) (by simp only [List.getElem?_toArray, List.getElem?_cons_zero, List.getElem?_cons_succ]; exact rfl) (by kernel_rfl) (by kernel_rfl) (by kernel_rfl) (fun _ _ _ h => h) (Or.inl ⟨by rfl, ?q3xy3⟩) (by assumption) ?_; (case q3xy3 => (intro w hSw; (try dsimp only at hSw); go_simp; (try with_reducible rfl))); (try simp only [Act.put, List.setIfInBounds_toArray, List.set_cons_zero, List.set_cons_succ]); refine wpAnyH_take (i := 4) (v := ?q3xv4) (by simp only [List.getElem?_toArray, List.getElem?_cons_zero, List.getElem?_cons_succ]; exact rfl) (by kernel_rfl) (by kernel_rfl) (by kernel_rfl) (fun _ _ _ h => h) (Or.inl ⟨by rfl, ?q3xy4⟩) (by assumption) ?_; (case q3xy4 => (intro w hSw; (try dsimp only at hSw); go_simp; (try with_reducible rfl))); (try simp only [Act.put, List.setIfInBounds_toArray, List.set_cons_zero, List.set_cons_succ]); refine wpAnyH_take (i := 5) (v := ?q3xv5) (by simp only [List.getElem?_toArray, List.getElem?_cons_zero, List.getElem?_cons_succ]; exact rfl) (by kernel_rfl) (by kernel_rfl) (by kernel_rfl) (fun _ _ _ h => h) (Or.inl ⟨by rfl, ?q3xy5⟩) (by assumption) ?_; (case q3xy5 => (intro w hSw; (try dsimp only at hSw); go_simp; (try with_reducible rfl))); (try simp only [Act.put, List.setIfInBounds_toArray, List.set_cons_zero, List.set_cons_succ]); refine wpAnyH_take (i := 6) (v := ?q3xv6) (by simp only [List.getElem?_toArray, List.getElem?_cons_zero, List.getElem?_cons_succ]; exact rfl) (by kernel_rfl) (by kernel_rfl) (by kernel_rfl) (fun _ _ _ h => h) (Or.inl ⟨by rfl, ?q3xy6⟩) (by assumption) ?_; (case q3xy6 => (intro w hSw; (try dsimp only at hSw); go_simp; (try with_reducible rfl))); (try simp only [Act.put, List.setIfInBounds_toArray, List.set_cons_zero, List.set_cons_succ]); refine wpAnyH_take (i := 7) (v := ?q3xv7) (by simp only [List.getElem?_toArray, List.getElem?_cons_zero, List.getElem?_cons_succ]; exact rfl) (by kernel_rfl) (by kernel_rfl) (by kernel_rfl) (fun _ _ _ h => h) (Or.inl ⟨by rfl, ?q3xy7⟩) (by assumption) ?_; (case q3xy7 => (intro w hSw; (try dsimp only at hSw); go_simp; (try with_reducible rfl))); (try simp only [Act.put, List.setIfInBounds_toArray, List.set_cons_zero, List.set_cons_succ]); refine wpAnyH_take (i := 8) (v := ?q3xv8) (by simp only [List.getElem?_toArray, List.getElem?_cons_zero, List.getElem?_cons_succ]; exact rfl) (by kernel_rfl) (by kernel_rfl) (by kernel_rfl) (fun _ _ _ h => h) (Or.inl ⟨by rfl, ?q3xy8⟩) (by assumption) ?_; (case q3xy8 => (intro w hSw; (try dsimp only at hSw); go_simp; (try with_reducible rfl))); (try simp only [Act.put, List.setIfInBounds_toArray, List.set_cons_zero, List.set_cons_succ]); refine wpAnyH_ready (rs := [9]) (by kernel_rfl) (by simp) ?_; refine AllReadyH.cons (by simp only [List.getElem?_toArray, List.getElem?_cons_zero, List.getElem?_cons_succ]; exact rfl) (fun K hK => ?_) AllReadyH.nil; go_simp; (go_at_call 31; first | (refine (In_yes _ _ _ _ (by omega) (by omega)).mono ?_; rintro e w' ⟨rfl, rfl⟩) | (refine (In_no _ _ _ _ (by omega)).mono ?_; rintro e w' ⟨rfl, rfl⟩)); (try go_wp2_with fail); refine hK.out _ _ ?q3xs9 (fun hHeld => ?_); (case q3xs9 => ((try dsimp only); ((go_split_ands; (try dsimp only); (repeat' apply And.intro); all_goals (repeat (first | with_reducible assumption | (with_reducible refine (cell_set_ne ?_).trans ?_; omega) | (with_reducible refine cell_alloc _ ?_) | (with_reducible refine cell_drew ?_) | (with_reducible refine cell_below' hb9 ?_))))))); clear hK K; (try simp only [Act.put, List.setIfInBounds_toArray, List.set_cons_zero, List.set_cons_succ]); refine wpAnyH_take (i := 10) (v := ?q3xv10) (by simp only [List.getElem?_toArray, List.getElem?_cons_zero, List.getElem?_cons_succ]; exact rfl) (by kernel_rfl) (by kernel_rfl) (by kernel_rfl) (fun _ _ _ h => h) (Or.inl ⟨by rfl, ?q3xy10⟩) (by assumption) ?_; (case q3xy10 => (intro w hSw; (try dsimp only at hSw); go_simp; (try with_reducible rfl))); (try simp only [Act.put, List.setIfInBounds_toArray, List.set_cons_zero, List.set_cons_succ]); refine wpAnyH_done (by kernel_rfl) ?_ _; refine NoPanic.normal ?_)
                      go_wp2
                      all_goals (refine bodyPost_ret (v := .tuple #[Ev.agg Ev.zero, .int .i64 2]) ?_ rfl ⟨rfl, (by repeat (first | (with_reducible exact Below.refl _ _) | (with_reducible assumption) | (with_reducible refine Below.drew ?_) | (with_reducible refine Below_drewN ?_) | (with_reducible refine Below.alloc ?_ (by first | omega | (simp; done) | (simp; omega)) _) | (with_reducible refine Below.setCell ?_ (by first | omega | (simp; done) | (simp; omega)) _) | (with_reducible refine Below.trans ?_ (Below.mono (by assumption) (by first | omega | (simp; done) | (simp; omega))))))⟩; (focus (first | (simp [results, Ev.agg, Ev.zero, Try.results16, go_sem]; done) | (simp [results, Ev.agg, Ev.zero, Try.results16, go_sem, *]; done))))
                    · have HNx : Hid (rd (bnds kd) (L.drop 1) [] = rd ((bnds kd).drop (k + 1)) (L.drop (u + 1)) (acc ++ [N])) := by
                        show _ = _
                        rw [HRd.out, HA.out, rd_in HG.out (by rw [← HN.out]; exact e1) (by rw [← HN.out]; exact e2), ← HN.out, ← HM.out, HE.out, List.drop_drop]
                        congr 2; omega
                      have HS := Lib.hid (DrRel_set (DrRel_drew HD.out) HAl.out hlt N)
                      go_wp2_with fail
                      (refine wp_region_noPanic ?_; refine wp_region_held_drew (S := (fun w' => w'.cell? ⟨b2, k, none⟩ = some (.int .i64 lo) ∧ w'.cell? ⟨b3, k, none⟩ = some (.int .i64 hi))) (by kernel_rfl) ?q4xb (fun hHeld => ?_); (case q4xb => ((try dsimp only); ((go_split_ands; (try dsimp only); (repeat' apply And.intro); all_goals (repeat (first | with_reducible assumption | (with_reducible refine (cell_set_ne ?_).trans ?_; omega) | (with_reducible refine cell_alloc _ ?_) | (with_reducible refine cell_drew ?_) | (with_reducible refine cell_below' hb9 ?_))))))); refine wpAnyH_take (i := 0) (v := ?q4xv0) (by simp only [List.getElem?_toArray, List.getElem?_cons_zero]; exact rfl) (by kernel_rfl) (by kernel_rfl) (by kernel_rfl) (fun _ _ _ h => h) (Or.inl ⟨by rfl, ?q4xy0⟩) (by assumption) ?_; (case q4xy0 => (intro w hSw; (try dsimp only at hSw); go_simp; (try with_reducible rfl))); (try simp only [Act.put, List.setIfInBounds_toArray, List.set_cons_zero, List.set_cons_succ]); refine wpAnyH_take (i := 1) (v := ?q4xv1) (by simp only [List.getElem?_toArray, List.getElem?_cons_zero, List.getElem?_cons_succ]; exact rfl) (by kernel_rfl) (by kernel_rfl) (by kernel_rfl) (fun _ _ _ h => h) (Or.inl ⟨by rfl, ?q4xy1⟩) (by assumption) ?_; (case q4xy1 => (intro w hSw; (try dsimp only at hSw); go_simp; (try with_reducible rfl))); (try simp only [Act.put, List.setIfInBounds_toArray, List.set_cons_zero, List.set_cons_succ]); refine wpAnyH_take (i := 2) (v := ?q4xv2) (by simp only [List.getElem?_toArray, List.getElem?_cons_zero, List.getElem?_cons_succ]; exact rfl) (by kernel_rfl) (by kernel_rfl) (by kernel_rfl) (fun _ _ _ h => h) (Or.inl ⟨by rfl, ?q4xy2⟩) (by assumption) ?_; (case q4xy2 => (intro w hSw; (try dsimp only at hSw); go_simp; (try with_reducible rfl))); (try simp only [Act.put, List.setIfInBounds_toArray, List.set_cons_zero, List.set_cons_succ]); refine wpAnyH_take (i := 3) (v := ?q4xv3) (by simp only [List.getElem?_toArray, List.getElem?_cons_zero, List.getElem?_cons_succ]; exact rfl) (by kernel_rfl) (by kernel_rfl) (by kernel_rfl) (fun _ _ _ h => h) (Or.inl ⟨by rfl, ?q4xy3⟩) (by assumption) ?_; (case q4xy3 => (intro w hSw; (try dsimp only at hSw); go_simp; (try with_reducible rfl))); (try simp only [Act.put, List.setIfInBounds_toArray, List.set_cons_zero, List.set_cons_succ]); refine wpAnyH_take (i := 4) (v := ?q4xv4) (by simp only [List.getElem?_toArray, List.getElem?_cons_zero, List.getElem?_cons_succ]; exact rfl) (by kernel_rfl) (by kernel_rfl) (by kernel_rfl) (fun _ _ _ h => h) (Or.inl ⟨by rfl, ?q4xy4⟩) (by assumption) ?_; (case q4xy4 => (intro w hSw; (try dsimp only at hSw); go_simp; (try with_reducible rfl))); (try simp only [Act.put, List.setIfInBounds_toArray, List.set_cons_zero, List.set_cons_succ]); refine wpAnyH_take (i := 5) (v := ?q4xv5) (by simp only [List.getElem?_toArray, List.getElem?_cons_zero, List.getElem?_cons_succ]; exact rfl) (by kernel_rfl) (by kernel_rfl) (by kernel_rfl) (fun _ _ _ h => h) (Or.inl ⟨by rfl, ?q4xy5⟩) (by assumption) ?_; (case q4xy5 => (intro w hSw; (try dsimp only at hSw); go_simp; (try with_reducible rfl))); (try simp only [Act.put, List.setIfInBounds_toArray, List.set_cons_zero, List.set_cons_succ]); refine wpAnyH_take (i := 6) (v := ?q4xv6) (by simp only [List.getElem?_toArray, List.getElem?_cons_zero, List.getElem?_cons_succ]; exact rfl) (by kernel_rfl) (by kernel_rfl) (by kernel_rfl) (fun _ _ _ h => h) (Or.inl ⟨by rfl, ?q4xy6⟩) (by assumption) ?_; (case q4xy6 => (intro w hSw; (try dsimp only at hSw); go_simp; (try with_reducible rfl))); (try simp only [Act.put, List.setIfInBounds_toArray, List.set_cons_zero, List.set_cons_succ]); refine wpAnyH_take (i := 7) (v := ?q4xv7) (by simp only [List.getElem?_toArray, List.getElem?_cons_zero, List.getElem?_cons_succ]; exact rfl) (by kernel_rfl) (by kernel_rfl) (by kernel_rfl) (fun _ _ _ h => h) (Or.inl ⟨by rfl, ?q4xy7⟩) (by assumption) ?_; (case q4xy7 => (intro w hSw; (try dsimp only at hSw); go_simp; (try with_reducible rfl))); (try simp only [Act.put, List.setIfInBounds_toArray, List.set_cons_zero, List.set_cons_succ]); refine wpAnyH_take (i := 8) (v := ?q4xv8) (by simp only [List.getElem?_toArray, List.getElem?_cons_zero, List.getElem?_cons_succ]; exact rfl) (by kernel_rfl) (by kernel_rfl) (by kernel_rfl) (fun _ _ _ h => h) (Or.inl ⟨by rfl, ?q4xy8⟩) (by assumption) ?_; (case q4xy8 => (intro w hSw; (try dsimp only at hSw); go_simp; (try with_reducible rfl))); (try simp only [Act.put, List.setIfInBounds_toArray, List.set_cons_zero, List.set_cons_succ]); refine wpAnyH_ready (rs := [9]) (by kernel_rfl) (by simp) ?_; refine AllReadyH.cons (by simp only [List.getElem?_toArray, List.getElem?_cons_zero, List.getElem?_cons_succ]; exact rfl) (fun K hK => ?_) AllReadyH.nil; go_simp; (go_at_call 31; first | (refine (In_yes _ _ _ _ (by omega) (by omega)).mono ?_; rintro e w' ⟨rfl, rfl⟩) | (refine (In_no _ _ _ _ (by omega)).mono ?_; rintro e w' ⟨rfl, rfl⟩)); (try go_wp2_with fail); refine hK.out _ _ ?q4xs9 (fun hHeld => ?_); (case q4xs9 => ((try dsimp only); ((go_split_ands; (try dsimp only); (repeat' apply And.intro); all_goals (repeat (first | with_reducible assumption | (with_reducible refine (cell_set_ne ?_).trans ?_; omega) | (with_reducible refine cell_alloc _ ?_) | (with_reducible refine cell_drew ?_) | (with_reducible refine cell_below' hb9 ?_))))))); clear hK K; (try simp only [Act.put, List.setIfInBounds_toArray, List.set_cons_zero, List.set_cons_succ]); refine wpAnyH_take (i := 10) (v := ?q4xv10) (by simp only [List.getElem?_toArray, List.getElem?_cons_zero, List.getElem?_cons_succ]; exact rfl) (by kernel_rfl) (by kernel_rfl) (by kernel_rfl) (fun _ _ _ h => h) (Or.inl ⟨by rfl, ?q4xy10⟩) (by assumption) ?_; (case q4xy10 => (intro w hSw; (try dsimp only at hSw); go_simp; (try with_reducible rfl))); (try simp only [Act.put, List.setIfInBounds_toArray, List.set_cons_zero, List.set_cons_succ]); refine wpAnyH_done (by kernel_rfl) ?_ _; refine NoPanic.normal ?_)
                      go_wp2
                      go_roundw
                      case rel => exact ⟨k + 1, u + 1, acc ++ [N], by omega, by go_num, by go_num, by omega, by omega, by simp [HAl.out], HNx.out, HS.out⟩
                      case measure => simp [intOf]; omega
    · have hge : ¬ (k : Int) < (F.length : Int) := by omega
      have hnil : (bnds kd).drop k = [] := by rw [← HSp.out, List.drop_of_length_le (by simp; omega)]
      have HRd2 : Hid (rd (bnds kd) (L.drop 1) [] = rd [] (L.drop t) acc) := by show _ = _; rw [HRd.out, hnil]
      have d0 := blk_cell q3 0
      have df0 := blk_free q3 0
      have d1 := blk_cell q3 1
      have df1 := blk_free q3 1
      have d2 := blk_cell q3 2
      have df2 := blk_free q3 2
      have d3 := blk_cell q3 3
      have df3 := blk_free q3 3
      have d4 := blk_cell q3 4
      have df4 := blk_free q3 4
      have d5 := blk_cell q3 5
      have df5 := blk_free q3 5
      have d6 := blk_cell q3 6
      have df6 := blk_free q3 6
      have d7 := blk_cell q3 7
      have df7 := blk_free q3 7
      simp at d0 d1 d2 d3 d4 d5 d6 d7
      rcases (show t < L.length ∨ L.length = t by omega) with htl2 | htl2
      · have hl3 : (t : Int) < (L.length : Int) := by omega
        have hc : c = 3 := by rw [H4.out, HRd2.out, rd_end3 (by rw [List.length_drop]; omega)]
        have hxz : x = Ev.zero := by rw [H5.out, hc]; rfl
        subst hxz hc
        clear q3 q4 hnil
        go_wp2
        all_goals (refine bodyPost_ret (v := .tuple #[Ev.agg Ev.zero, .int .i64 3]) ?_ rfl ⟨rfl, (by repeat (first | (with_reducible exact Below.refl _ _) | (with_reducible assumption) | (with_reducible refine Below.drew ?_) | (with_reducible refine Below_drewN ?_) | (with_reducible refine Below.alloc ?_ (by first | omega | (simp; done) | (simp; omega)) _) | (with_reducible refine Below.setCell ?_ (by first | omega | (simp; done) | (simp; omega)) _) | (with_reducible refine Below.trans ?_ (Below.mono (by assumption) (by first | omega | (simp; done) | (simp; omega))))))⟩; (focus (first | (simp [results, Ev.agg, Ev.zero, Try.results16, go_sem]; done) | (simp [results, Ev.agg, Ev.zero, Try.results16, go_sem, *]; done))))
      · have hl3 : ¬ (t : Int) < (L.length : Int) := by omega
        have hr0 : (L.drop t).length = 0 := by rw [List.length_drop]; omega
        have hrr : rd (bnds kd) (L.drop 1) [] = (0, acc) := by rw [HRd2.out, rd_end0 hr0]
        have hc : c = 0 := by rw [H4.out, hrr]
        have hx : x = decX kd acc := by rw [H5.out, hc, if_pos rfl, hrr]
        have hin : inB (bnds kd) acc := by
          obtain ⟨V, hV, hi⟩ := rd_ok _ _ _ _ hrr
          rw [List.nil_append] at hV
          rw [hV]; exact hi
        obtain ⟨hvs, hke⟩ := decX_any HK.out hin
        have hkx := decX_kind kd acc
        rw [← hx] at hvs hke hkx
        have HRow : Hid (RowAt wr 1 (.slice a1 F.length F.length) (vals (evF x 0 0 (gdI x.good)))) := by
          show RowAt _ _ _ _
          rw [hvs]
          by_cases hF : F = []
          · have : acc = [] := List.length_eq_zero_iff.1 (by rw [HAl.out, ← heq, hF]; rfl)
            subst this
            rw [hF]
            exact RowAt_none (Nat.zero_le _) (fun _ => rfl)
          · obtain ⟨rfl, rfl, rfl⟩ := HP1.out hF
            obtain ⟨g1, g2, g3, g4, g5, g6, g7⟩ := q4 hF
            rw [pad_full (by rw [HAl.out]; exact heq.symm)] at g5
            have := row_blk g5 (by rw [HAl.out]; omega)
            rwa [HAl.out, ← heq] at this
        have HEo : Hid (∀ W, RowAt W 1 (.slice a1 F.length F.length) (vals (evF x 0 0 (gdI x.good))) → Calls Try.prog 32 #[.int .i64 kd, .slice a1 F.length F.length] W fun e w' => e = .returned x.agg ∧ Below W.heap.size W w') := by
          intro W hW
          have := eventOf_any (x := x) (by rw [hkx]; exact HK.out) _ W hW
          rwa [hkx, hke] at this
        subst hc
        have Q3 := Lib.hid q3
        clear hx hin hvs hke hkx hrr hr0 hnil q4 q1
        clear d0 df0 d1 df1 d2 df2 d3 df3 d4 df4 d5 df5 d6 df6 d7 df7
        clear q3 heq htl2
        go_wp2_with fail
        refine (HEo.out _ HRow.out).mono ?_
        rintro e w2 ⟨rfl, hb2⟩
        have HB2 := Lib.hid (Q1.out.trans (hb2.mono (by omega)))
        have q3 := blk_below hb2 Q3.out q2
        have hsz2 := hb2.size
        have m0 : w.heap.size < w2.heap.size := by omega
        have y0 := blk_cell q3 0
        have yf0 := blk_free q3 0
        have y1 := blk_cell q3 1
        have yf1 := blk_free q3 1
        have y2 := blk_cell q3 2
        have yf2 := blk_free q3 2
        have y3 := blk_cell q3 3
        have yf3 := blk_free q3 3
        have y4 := blk_cell q3 4
        have yf4 := blk_free q3 4
        have y5 := blk_cell q3 5
        have yf5 := blk_free q3 5
        have y6 := blk_cell q3 6
        have yf6 := blk_free q3 6
        have y7 := blk_cell q3 7
        have yf7 := blk_free q3 7
        simp at y0 y1 y2 y3 y4 y5 y6 y7
        clear q3 hb2
        obtain ⟨z0, z1, z2, z3, z4, z5, z6, z7⟩ := x
        unfold Ev.agg
        go_wp2
        have HB3 := HB2.out
        refine bodyPost_ret (v := .tuple #[Ev.agg ⟨z0, z1, z2, z3, z4, z5, z6, z7⟩, .int .i64 0]) ?_ rfl ⟨rfl, (by repeat (first | (with_reducible exact Below.refl _ _) | (with_reducible assumption) | (with_reducible refine Below.drew ?_) | (with_reducible refine Below_drewN ?_) | (with_reducible refine Below.alloc ?_ (by first | omega | (simp; done) | (simp; omega)) _) | (with_reducible refine Below.setCell ?_ (by first | omega | (simp; done) | (simp; omega)) _) | (with_reducible refine Below.trans ?_ (Below.mono (by assumption) (by first | omega | (simp; done) | (simp; omega))))))⟩
        first | (simp [results, Ev.agg, Try.results16, go_sem]; done) | (simp [results, Ev.agg, Try.results16, go_sem, *]; done)
end Go.Proofs.Ytjfnnbbnkcdbcaa
