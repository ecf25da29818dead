/- wire.Decode: its contract. -/
import Derived.Test.YtjfnnbbnkcdbcaaDecS
import Derived.Lib.ByteType
namespace Go.Proofs.Ytjfnnbbnkcdbcaa
open Go.RowKit

theorem slice_rest {w : World} {a : Option Addr} {cap k : Nat} {R : List Int} (r : RowAt w 1 (.slice a R.length cap) (byts R)) (hk : k ≤ R.length) : ∃ a', (∀ W, (Instr.slice 27 (.slice a R.length cap) (some (.int .i64 (k : Int))) none none).run Try.prog W = .ok (.slice a' (R.length - k) (cap - k)) W) ∧ RowAt w 1 (.slice a' (R.length - k) (cap - k)) (byts (R.drop k)) := by
  obtain ⟨i0, ji, ji0, ji1, ji2⟩ := info_parts info_u8
  have hz : ∀ W, (sizeOf 5).run Try.prog W = .ok 1 W := Lib.byte_size info_u8
  have ht : Try.prog.underlying 27 = some (.slice (Try.prog.elem 27)) := by kernel_rfl
  have he : Try.prog.elem 27 = 5 := by kernel_rfl
  obtain ⟨a0, c0, hv, h1, h2, h3, h4⟩ := id r
  have hc : R.length ≤ cap ∧ cap ≤ maxLen ∧ (a = none → cap = 0) := by
    injection hv with e1 e2 e3
    subst e3 e1
    refine ⟨by simpa [byts] using h1, h2, h3⟩
  have hrun : ∀ W, (Instr.slice 27 (.slice a R.length cap) (some (.int .i64 (k : Int))) none none).run Try.prog W = .ok (.slice (if cap = k then a else a.map (·.add k)) (R.length - k) (cap - k)) W := by
    intro W
    rw [run_slice_l W 27 a R.length cap ht .i64 (k : Int) (by omega) (by omega), he, hz]
    simp [Result.andThen, sliced]
  refine ⟨_, hrun, ?_⟩
  rcases Nat.lt_or_ge k R.length with hlt | hge
  · have hne : ¬ cap = k := by omega
    rw [if_neg hne]
    obtain ⟨b, off, ha, _⟩ := h4 (by intro h; have : (byts R).length = R.length := by simp [byts]
                                     rw [h] at this; simp at this; omega)
    injection hv with e1 e2 e3
    subst e1
    cases ha
    rw [show (some (⟨b, off, none⟩ : Addr)).map (·.add k) = some ⟨b, off + k, none⟩ from congrArg some (by unfold Addr.add; split <;> simp_all)]
    exact byts_drop r hlt
  · have hk' : k = R.length := by omega
    subst hk'
    rw [List.drop_of_length_le (Nat.le_refl _), Nat.sub_self]
    refine RowAt_none (by omega) (fun h => ?_)
    split at h
    · have := hc.2.2 h; omega
    · cases a with
      | none => have := hc.2.2 rfl; omega
      | some a => simp at h
theorem evD_nil (kd : Int) : evD kd [] = evZ kd := by
  unfold evD
  repeat' split
  all_goals rfl
theorem goodD_nil (kd : Int) : goodD kd [] = 0 := by
  unfold goodD
  split <;> rfl
/-- What holds at the head of Decode's loop. -/
def DcRel (w wr w1 : World) (kd : Int) (acc : List Int) : Prop := Below w.heap.size w wr ∧ wr.heap[w.heap.size]? = some (.cells #[.int .i64 0, .int .i64 0, .int .i64 0, .int .i64 0, .bool false, .int .i64 0, .int .i64 0, .int .i64 0] 23 (0, 0)) ∧ wr.heap[w.heap.size + 1]? = some (.cells (evD kd acc).cells.toArray 23 (0, 0)) ∧ wr.heap[w.heap.size + 1 + 1]? = some (.cells #[.int .i64 (goodD kd acc)] 3 (0, 0)) ∧
  (∀ b0 o, w.heap.size + 3 ≤ b0 → b0 < w1.heap.size → wr.cell? ⟨b0, o, none⟩ = w1.cell? ⟨b0, o, none⟩) ∧ w1.heap.size ≤ wr.heap.size
theorem DcRel_keep {w wr w2 w1 : World} {kd : Int} {acc : List Int} (h : DcRel w wr w1 kd acc) (hb : Below wr.heap.size wr w2) : DcRel w w2 w1 kd acc := by
  obtain ⟨h1, h2, h3, h4, h5, h6⟩ := h
  refine ⟨h1.trans (hb.mono h1.size), blk_below hb h2 (lt_of_block h2), blk_below hb h3 (lt_of_block h3), blk_below hb h4 (lt_of_block h4), fun b0 o h7 h8 => ?_, Nat.le_trans h6 hb.size⟩
  rw [hb.cell (p := ⟨b0, o, none⟩) (by show b0 < _; omega)]
  exact h5 b0 o h7 h8
theorem DcRel_set {w wr w1 : World} {kd n : Int} {acc : List Int} {o : Nat} (h : DcRel w wr w1 kd acc) (e1 : (evD kd acc).cells.toArray.setIfInBounds o (.int .i64 n) = (evD kd (acc ++ [n])).cells.toArray) (e2 : goodD kd (acc ++ [n]) = goodD kd acc) : DcRel w (wr.setCell ⟨w.heap.size + 1, o, none⟩ (.int .i64 n)) w1 kd (acc ++ [n]) := by
  obtain ⟨h1, h2, h3, h4, h5, h6⟩ := h
  refine ⟨h1.setCell (by simp) _, blk_set_ne h2 (by omega), ?_, ?_, fun b0 o h7 h8 => ?_, by simpa using h6⟩
  · rw [← e1]; exact blk_set h3 _
  · rw [e2]; exact blk_set_ne h4 (by omega)
  · rw [cell_set_ne (by omega)]; exact h5 b0 o h7 h8
theorem DcRel_good {w wr w1 : World} {kd n : Int} {acc : List Int} (h : DcRel w wr w1 kd acc) (e1 : evD kd (acc ++ [n]) = evD kd acc) (e2 : goodD kd (acc ++ [n]) = n) : DcRel w (wr.setCell ⟨w.heap.size + 1 + 1, 0, none⟩ (.int .i64 n)) w1 kd (acc ++ [n]) := by
  obtain ⟨h1, h2, h3, h4, h5, h6⟩ := h
  refine ⟨h1.setCell (by simp; omega) _, blk_set_ne h2 (by omega), ?_, ?_, fun b0 o h7 h8 => ?_, by simpa using h6⟩
  · rw [e1]; exact blk_set_ne h3 (by omega)
  · rw [e2]; exact blk_set h4 _
  · rw [cell_set_ne (by omega)]; exact h5 b0 o h7 h8
def DecPost (w : World) (x : Ev) (c : Int) (e : Ending) (w' : World) : Prop := e = .returned (.tuple #[x.agg, .int .i64 c]) ∧ Below w.heap.size w w'

set_option maxHeartbeats 8000000 in
set_option maxRecDepth 100000 in
theorem prog_Dec_bad (v : Value) (L : List Int) (c : Int) (w : World) (hB : IsB L) (r : RowAt w 1 v (byts L)) (h : (64 < L.length ∧ c = 1) ∨ (L.length = 0 ∧ c = 4) ∨ (0 < L.length ∧ L.length ≤ 64 ∧ ¬ (1 ≤ L.getD 0 0 ∧ L.getD 0 0 ≤ 7) ∧ c = 5)) :
    Calls Try.prog 15 #[v] w (DecPost w Ev.zero c) := by
  obtain ⟨a, cap, rfl, hlc, hcm, p⟩ := byte_at r
  have P := Lib.hid p
  have HIB := Lib.hid hB
  have hlm : (L.length : Int) ≤ 9223372036854775807 := by have := hcm; unfold maxLen at this; omega
  clear r p hB
  rcases h with ⟨h, rfl⟩ | ⟨h, rfl⟩ | ⟨h1, h2, h3, rfl⟩
  · have h' : (64 : Int) < (L.length : Int) := by omega
    go_enter Try.func15, Try.ntmps15
    go_wp2
    (refine bodyPost_ret (v := .tuple #[Ev.agg Ev.zero, .int .i64 1]) ?_ rfl ⟨rfl, (by repeat (first | (with_reducible exact Below.refl _ _) | (with_reducible assumption) | (with_reducible refine Below.drew ?_) | (with_reducible refine Below_drewN ?_) | (with_reducible refine Below.alloc ?_ (by first | omega | (simp; done) | (simp; omega)) _) | (with_reducible refine Below.setCell ?_ (by first | omega | (simp; done) | (simp; omega)) _) | (with_reducible refine Below.trans ?_ (Below.mono (by assumption) (by first | omega | (simp; done) | (simp; omega))))))⟩; (focus (first | (simp [results, Ev.agg, Ev.zero, Try.results15, go_sem]; done) | (simp [results, Ev.agg, Ev.zero, Try.results15, go_sem, *]; done))))
  · have h' : ¬ (64 : Int) < (L.length : Int) := by omega
    have hz : ((L.length : Int) == 0) = true := by rw [beq_iff_eq]; omega
    clear h
    go_enter Try.func15, Try.ntmps15
    go_wp2
    (refine bodyPost_ret (v := .tuple #[Ev.agg Ev.zero, .int .i64 4]) ?_ rfl ⟨rfl, (by repeat (first | (with_reducible exact Below.refl _ _) | (with_reducible assumption) | (with_reducible refine Below.drew ?_) | (with_reducible refine Below_drewN ?_) | (with_reducible refine Below.alloc ?_ (by first | omega | (simp; done) | (simp; omega)) _) | (with_reducible refine Below.setCell ?_ (by first | omega | (simp; done) | (simp; omega)) _) | (with_reducible refine Below.trans ?_ (Below.mono (by assumption) (by first | omega | (simp; done) | (simp; omega))))))⟩; (focus (first | (simp [results, Ev.agg, Ev.zero, Try.results15, go_sem]; done) | (simp [results, Ev.agg, Ev.zero, Try.results15, go_sem, *]; done))))
  · have h' : ¬ (64 : Int) < (L.length : Int) := by omega
    have hz : ((L.length : Int) == 0) = false := by rw [beq_eq_false_iff_ne]; omega
    obtain ⟨b, o, rfl, hb0, q⟩ := P.out (by intro h; rw [h] at h1; simp at h1)
    have a0 := q 0 h1
    rw [Nat.add_zero] at a0
    obtain ⟨kd, hkd⟩ : ∃ kd, kd = L.getD 0 0 := ⟨_, rfl⟩
    have hkb : 0 ≤ kd ∧ kd ≤ 255 := by rw [hkd]; exact HIB.out _ (by simp only [List.getD, List.getElem?_eq_getElem h1, Option.getD_some]; exact List.getElem_mem _)
    have hkw : wrap64 kd = kd := IntWalk.wrap64_in kd (by omega)
    rw [← hkd] at a0 h3
    have hbk : b < w.heap.size := hb0
    have H3 : Hid (false = decide (1 ≤ kd ∧ kd ≤ 7)) := by show false = _; simp only [h3, decide_false]
    clear q hkd h3
    go_enter Try.func15, Try.ntmps15
    go_wp2_with (go_at_call 28; refine (prog_fields (evZ kd) (w.heap.size + 1) (w.heap.size + 1 + 1) 0 false _ (by go_simp; rfl) H3.out).mono ?_)
    rintro e w1 ⟨v1, rfl, R1, hb1⟩
    have B1 := Lib.hid (((((Below.refl w.heap.size w).alloc (Nat.le_refl _) (.cells #[.int .i64 0, .int .i64 0, .int .i64 0, .int .i64 0, .bool false, .int .i64 0, .int .i64 0, .int .i64 0] 23)).alloc (by simp) (.cells #[.int .i64 kd, .int .i64 0, .int .i64 0, .int .i64 0, .bool false, .int .i64 0, .int .i64 0, .int .i64 0] 23)).alloc (by first | omega | (simp; done) | (simp; omega)) (.cells #[.int .i64 0] 3)).trans (hb1.mono (by first | omega | (simp; done) | (simp; omega))))
    have x0 := blk_below hb1 ((Below.heap_alloc (w := World.alloc _ _) _ _ (by first | omega | (simp; done) | (simp; omega))).trans ((Below.heap_alloc (w := w.alloc (.cells #[.int .i64 0, .int .i64 0, .int .i64 0, .int .i64 0, .bool false, .int .i64 0, .int .i64 0, .int .i64 0] 23)) (.cells #[.int .i64 kd, .int .i64 0, .int .i64 0, .int .i64 0, .bool false, .int .i64 0, .int .i64 0, .int .i64 0] 23) w.heap.size (by simp)).trans (heap_at _ rfl))) (by first | omega | (simp; done) | (simp; omega))
    have s1 := hb1.size
    simp at s1
    generalize evF (evZ kd) (w.heap.size + 1) (w.heap.size + 1 + 1) 0 = F at R1
    obtain ⟨a1, cap1, rfl, _⟩ := RowAt_shape R1.1
    have m0 : w.heap.size < w1.heap.size := by omega
    have d0 := blk_cell x0 0
    have g0 := blk_free x0 0
    have d1 := blk_cell x0 1
    have g1 := blk_free x0 1
    have d2 := blk_cell x0 2
    have g2 := blk_free x0 2
    have d3 := blk_cell x0 3
    have g3 := blk_free x0 3
    have d4 := blk_cell x0 4
    have g4 := blk_free x0 4
    have d5 := blk_cell x0 5
    have g5 := blk_free x0 5
    have d6 := blk_cell x0 6
    have g6 := blk_free x0 6
    have d7 := blk_cell x0 7
    have g7 := blk_free x0 7
    simp at d0 d1 d2 d3 d4 d5 d6 d7
    have B1' := B1.out
    clear R1 hb1 x0
    go_wp2
    (refine bodyPost_ret (v := .tuple #[Ev.agg Ev.zero, .int .i64 5]) ?_ rfl ⟨rfl, (by repeat (first | (with_reducible exact Below.refl _ _) | (with_reducible assumption) | (with_reducible refine Below.drew ?_) | (with_reducible refine Below_drewN ?_) | (with_reducible refine Below.alloc ?_ (by first | omega | (simp; done) | (simp; omega)) _) | (with_reducible refine Below.setCell ?_ (by first | omega | (simp; done) | (simp; omega)) _) | (with_reducible refine Below.trans ?_ (Below.mono (by assumption) (by first | omega | (simp; done) | (simp; omega))))))⟩; (focus (first | (simp [results, Ev.agg, Ev.zero, Try.results15, go_sem]; done) | (simp [results, Ev.agg, Ev.zero, Try.results15, go_sem, *]; done))))

set_option maxHeartbeats 8000000 in
set_option maxRecDepth 100000 in
theorem prog_Dec_ok (v : Value) (L : List Int) (x : Ev) (c : Int) (w : World) (hB : IsB L) (r : RowAt w 1 v (byts L)) (h : 0 < L.length ∧ L.length ≤ 64 ∧ (1 ≤ L.getD 0 0 ∧ L.getD 0 0 ≤ 7) ∧ c = (rd (bnds (L.getD 0 0)) (L.drop 1) []).1 ∧ x = (if c = 0 then decX (L.getD 0 0) (rd (bnds (L.getD 0 0)) (L.drop 1) []).2 else Ev.zero)) :
    Calls Try.prog 15 #[v] w (DecPost w x c) := by
  obtain ⟨h1, h2, h3, h4, h5⟩ := h
  obtain ⟨a, cap, rfl, hlc, hcm, p⟩ := byte_at r
  have hlm : (L.length : Int) ≤ 9223372036854775807 := by have := hcm; unfold maxLen at this; omega
  have h' : ¬ (64 : Int) < (L.length : Int) := by omega
  have hz : ((L.length : Int) == 0) = false := by rw [beq_eq_false_iff_ne]; omega
  obtain ⟨a', hsl0, r'⟩ := slice_rest (k := 1) r (by omega)
  have hsl : ∀ W, (Instr.slice 27 (.slice a L.length cap) (some (.int .i64 1)) none none).run Try.prog W = .ok (.slice a' (L.length - 1) (cap - 1)) W := hsl0
  clear hsl0
  obtain ⟨b, o, rfl, hb0, q⟩ := p (by intro h; rw [h] at h1; simp at h1)
  have a0 := q 0 h1
  rw [Nat.add_zero] at a0
  obtain ⟨kd, hkd⟩ : ∃ kd, kd = L.getD 0 0 := ⟨_, rfl⟩
  have hkb : 0 ≤ kd ∧ kd ≤ 255 := by rw [hkd]; exact hB _ (by simp only [List.getD, List.getElem?_eq_getElem h1, Option.getD_some]; exact List.getElem_mem _)
  have hkw : wrap64 kd = kd := IntWalk.wrap64_in kd (by omega)
  rw [← hkd] at a0 h3 h4 h5
  have hbk : b < w.heap.size := hb0
  have H3 : Hid (true = decide (1 ≤ kd ∧ kd ≤ 7)) := by show true = _; simp [h3]
  have H4 := Lib.hid h4
  have H5 := Lib.hid h5
  have HK := Lib.hid h3
  have R0 := Lib.hid r'
  have HB0 := Lib.hid (IsB_drop hB 1)
  clear q hkd h3 h4 h5 r' r hB p
  go_enter Try.func15, Try.ntmps15
  go_wp2_with (go_at_call 28; refine (prog_fields (evZ kd) (w.heap.size + 1) (w.heap.size + 1 + 1) 0 true _ (by go_simp; rfl) H3.out).mono ?_)
  rintro e w1 ⟨v1, rfl, R1, hb1⟩
  have B1 := Lib.hid (((((Below.refl w.heap.size w).alloc (Nat.le_refl _) (.cells #[.int .i64 0, .int .i64 0, .int .i64 0, .int .i64 0, .bool false, .int .i64 0, .int .i64 0, .int .i64 0] 23)).alloc (by simp) (.cells #[.int .i64 kd, .int .i64 0, .int .i64 0, .int .i64 0, .bool false, .int .i64 0, .int .i64 0, .int .i64 0] 23)).alloc (by first | omega | (simp; done) | (simp; omega)) (.cells #[.int .i64 0] 3)).trans (hb1.mono (by first | omega | (simp; done) | (simp; omega))))
  have x0 := blk_below hb1 ((Below.heap_alloc (w := World.alloc _ _) _ _ (by first | omega | (simp; done) | (simp; omega))).trans ((Below.heap_alloc (w := w.alloc (.cells #[.int .i64 0, .int .i64 0, .int .i64 0, .int .i64 0, .bool false, .int .i64 0, .int .i64 0, .int .i64 0] 23)) (.cells #[.int .i64 kd, .int .i64 0, .int .i64 0, .int .i64 0, .bool false, .int .i64 0, .int .i64 0, .int .i64 0] 23) w.heap.size (by simp)).trans (heap_at _ rfl))) (by first | omega | (simp; done) | (simp; omega))
  have x1 := blk_below hb1 ((Below.heap_alloc (w := World.alloc _ _) (.cells #[.int .i64 0] 3) (w.heap.size + 1) (by simp)).trans (heap_at (w := w.alloc (.cells #[.int .i64 0, .int .i64 0, .int .i64 0, .int .i64 0, .bool false, .int .i64 0, .int .i64 0, .int .i64 0] 23)) (.cells #[.int .i64 kd, .int .i64 0, .int .i64 0, .int .i64 0, .bool false, .int .i64 0, .int .i64 0, .int .i64 0] 23) (by simp))) (by first | omega | (simp; done) | (simp; omega))
  have x2 := blk_below hb1 (heap_at (w := World.alloc _ _) (k := w.heap.size + 1 + 1) (.cells #[.int .i64 0] 3) (by simp)) (by first | omega | (simp; done) | (simp; omega))
  have s1 := hb1.size
  simp at s1
  have HR0 : Hid (DcRel w w1 w1 kd []) := ⟨B1.out, x0, x1.trans (by rw [evD_nil]; rfl), x2.trans (by rw [goodD_nil]), fun _ _ _ _ => rfl, Nat.le_refl _⟩
  have HSp := Lib.hid (bnds_any kd (w.heap.size + 1) (w.heap.size + 1 + 1))
  have hlen := evF_len (evZ kd) (w.heap.size + 1) (w.heap.size + 1 + 1) 0
  have HPut := Lib.hid (fun (acc : List Int) (k : Nat) (f : FD) hk hf ha n => evD_put (kd := kd) HK.out (acc := acc) (k := k) (be := w.heap.size + 1) (bg := w.heap.size + 1 + 1) (f := f) hk hf ha n)
  have HAt := Lib.hid (fun (k : Nat) (f : FD) hk hf => bnds_at (kd := kd) (k := k) (be := w.heap.size + 1) (bg := w.heap.size + 1 + 1) (f := f) hk hf)
  generalize evF (evZ kd) (w.heap.size + 1) (w.heap.size + 1 + 1) 0 = F at R1 HSp hlen HPut HAt
  obtain ⟨af, capf, rfl, _, _, _, p⟩ := RowAt_fn FD.zero R1.1
  have hFar := R1.2
  have P := Lib.hid p
  have HFar := Lib.hid hFar
  clear p R1 hb1 x0 x1 x2 hFar
  go_wp2_with fail
  go_loopw [0, 37] (fun bs i wr => ∃ (k : Nat) (ab : Option Addr) (R : List Int) (cb : Nat) (acc : List Int), k ≤ F.length ∧ bs = .slice ab R.length cb ∧ i = .int .i64 k ∧ acc.length = k ∧ RowAt w 1 (.slice ab R.length cb) (byts R) ∧ IsB R ∧ rd (bnds kd) (L.drop 1) [] = rd ((bnds kd).drop k) R acc ∧ DcRel w wr w1 kd acc) (fun _ i _ => F.length - (intOf i).toNat)
  case atStart => exact ⟨0, a', L.drop 1, cap - 1, [], Nat.zero_le _, by simp, rfl, rfl, by simpa using R0.out, HB0.out, rfl, HR0.out⟩
  case round =>
    clear HR0 R0 HB0 hsl
    obtain ⟨k, ab, R, cb, acc, hk, rfl, rfl, hal, hrow, hib, hrd, hdc⟩ := hrel
    have HRow := Lib.hid hrow
    have HIB := Lib.hid hib
    have HRd := Lib.hid hrd
    have HD := Lib.hid hdc
    have HAl := Lib.hid hal
    have hrl := RowAt_lt hrow
    have hrm : (R.length : Int) ≤ 9223372036854775807 := by simp [byts] at hrl; unfold maxLen at hrl; omega
    obtain ⟨q1, q2, q3, q4, q5, q6⟩ := hdc
    have hsz := q1.size
    clear hrow hib hrd hal hrl
    rcases (show k < F.length ∨ F.length = k by omega) with hlt | heq
    · have hlt' : (k : Int) < (F.length : Int) := by omega
      obtain ⟨bf, of, rfl, hbf, q⟩ := P.out (by intro h; rw [h] at hlt; simp at hlt)
      have hfar := HFar.out _ _ _ rfl
      simp at hfar
      obtain ⟨f, hf⟩ : ∃ f, f = F.getD k FD.zero := ⟨_, rfl⟩
      have hold : ∀ j, j < 3 → wr.cell? ⟨bf, of + k * 3 + j, none⟩ = f.cells[j]? := fun j hj => by
        rw [q5 bf _ (by omega) hbf, hf]; exact q k j hlt hj
      have a0 := hold 0 (by omega)
      have a1 := hold 1 (by omega)
      have a2 := hold 2 (by omega)
      have HPt := Lib.hid (HPut.out acc k f hlt hf HAl.out)
      have HA := Lib.hid (HAt.out k f hlt hf)
      clear hold q hf
      obtain ⟨fa, lo, hi, vl⟩ := f
      simp only [FD.cells, List.getElem?_cons_zero, List.getElem?_cons_succ, Nat.add_zero] at a0 a1 a2
      obtain ⟨c0, hc0⟩ : ∃ c0, c0 = getC R := ⟨_, rfl⟩
      obtain ⟨n0, hn0⟩ : ∃ n0, n0 = (if getC R = 0 then getV R else 0) := ⟨_, rfl⟩
      obtain ⟨u0, hu0⟩ : ∃ u0, u0 = (if getC R = 0 then ((endOf R + 1 : Nat) : Int) else 0) := ⟨_, rfl⟩
      have HG : Hid (∀ W, RowAt W 1 (.slice ab R.length cb) (byts R) → Calls Try.prog 35 #[.slice ab R.length cb] W fun e w' => e = .returned (.tuple #[.int .i64 n0, .int .i64 u0, .int .i64 c0]) ∧ Below W.heap.size W w') := by
        intro W hW
        have := prog_get _ R W HIB.out hW
        rw [← hn0, ← hu0, ← hc0] at this
        exact this
      have HRw : Hid (RowAt wr 1 (.slice ab R.length cb) (byts R)) := RowAt_below HRow.out q1
      have HN0 := Lib.hid hn0
      have HU0 := Lib.hid hu0
      have HC0 := Lib.hid hc0
      have lb : bf < wr.heap.size := cell_lt a0
      clear hn0 hu0 hc0 q1 q2 q3 q4 q5 hfar hbf
      go_wp2_with fail
      refine (HG.out _ (RowAt_alloc HRw.out _)).mono ?_
      rintro e w2 ⟨rfl, hb2⟩
      have KB := Lib.hid (((Below.refl wr.heap.size wr).alloc (Nat.le_refl _) (.cells #[.pointer (some fa), .int .i64 lo, .int .i64 hi] 80)).trans (hb2.mono (by first | omega | (simp; done) | (simp; omega))))
      have HD2 := Lib.hid (DcRel_keep HD.out KB.out)
      obtain ⟨q1, q2, q3, q4, q5, q6⟩ := HD2.out
      have hy2 := hb2.size
      simp at hy2
      have xf := blk_below hb2 (heap_at (w := wr) (.cells #[.pointer (some fa), .int .i64 lo, .int .i64 hi] 80) rfl) (by first | omega | (simp; done) | (simp; omega))
      have f0 := blk_cell xf 0
      have f1 := blk_cell xf 1
      have f2 := blk_cell xf 2
      simp at f0 f1 f2
      have m0 : w.heap.size < w2.heap.size := by omega
      have m1 : wr.heap.size < w2.heap.size := by omega
      by_cases hcz : c0 = 0
      · subst hcz
        have hg0 : getC R = 0 := HC0.out.symm
        have hnv : n0 = getV R := by rw [HN0.out, if_pos hg0]
        have huv : u0 = ((endOf R + 1 : Nat) : Int) := by rw [HU0.out, if_pos hg0]
        have HG0 := Lib.hid hg0
        have HNV := Lib.hid hnv
        have hub : endOf R + 1 ≤ R.length := getC_lt hg0
        have HUB := Lib.hid hub
        clear hg0 hnv hb2 xf q3 q4 q5
        rcases (show n0 < lo ∨ (lo ≤ n0 ∧ hi < n0) ∨ (lo ≤ n0 ∧ n0 ≤ hi) by omega) with e1 | ⟨e1, e2⟩ | ⟨e1, e2⟩
        · have hc : c = 2 := by rw [H4.out, HRd.out, HA.out]; exact congrArg Prod.fst (rd_out HG0.out (Or.inl (by rw [← HNV.out]; exact e1)))
          have hx : x = Ev.zero := by rw [H5.out, hc]; rfl
          subst hc hx
          have hd : decide (n0 < lo) = true := by simpa using e1
          have d0 := blk_cell q2 0
          have df0 := blk_free q2 0
          have d1 := blk_cell q2 1
          have df1 := blk_free q2 1
          have d2 := blk_cell q2 2
          have df2 := blk_free q2 2
          have d3 := blk_cell q2 3
          have df3 := blk_free q2 3
          have d4 := blk_cell q2 4
          have df4 := blk_free q2 4
          have d5 := blk_cell q2 5
          have df5 := blk_free q2 5
          have d6 := blk_cell q2 6
          have df6 := blk_free q2 6
          have d7 := blk_cell q2 7
          have df7 := blk_free q2 7
          simp at d0 d1 d2 d3 d4 d5 d6 d7
          clear q2 hub huv
          go_wp2
          (refine bodyPost_ret (v := .tuple #[Ev.agg Ev.zero, .int .i64 2]) ?_ rfl ⟨rfl, (by repeat (first | (with_reducible exact Below.refl _ _) | (with_reducible assumption) | (with_reducible refine Below.drew ?_) | (with_reducible refine Below_drewN ?_) | (with_reducible refine Below.alloc ?_ (by first | omega | (simp; done) | (simp; omega)) _) | (with_reducible refine Below.setCell ?_ (by first | omega | (simp; done) | (simp; omega)) _) | (with_reducible refine Below.trans ?_ (Below.mono (by assumption) (by first | omega | (simp; done) | (simp; omega))))))⟩; (focus (first | (simp [results, Ev.agg, Ev.zero, Try.results15, go_sem]; done) | (simp [results, Ev.agg, Ev.zero, Try.results15, go_sem, *]; done))))
        · have hc : c = 2 := by rw [H4.out, HRd.out, HA.out]; exact congrArg Prod.fst (rd_out HG0.out (Or.inr (by rw [← HNV.out]; exact e2)))
          have hx : x = Ev.zero := by rw [H5.out, hc]; rfl
          subst hc hx
          have hd : decide (n0 < lo) = false := by simpa using e1
          have hd2 : decide (hi < n0) = true := by simpa using e2
          have d0 := blk_cell q2 0
          have df0 := blk_free q2 0
          have d1 := blk_cell q2 1
          have df1 := blk_free q2 1
          have d2 := blk_cell q2 2
          have df2 := blk_free q2 2
          have d3 := blk_cell q2 3
          have df3 := blk_free q2 3
          have d4 := blk_cell q2 4
          have df4 := blk_free q2 4
          have d5 := blk_cell q2 5
          have df5 := blk_free q2 5
          have d6 := blk_cell q2 6
          have df6 := blk_free q2 6
          have d7 := blk_cell q2 7
          have df7 := blk_free q2 7
          simp at d0 d1 d2 d3 d4 d5 d6 d7
          clear q2 hub huv
          go_wp2
          (refine bodyPost_ret (v := .tuple #[Ev.agg Ev.zero, .int .i64 2]) ?_ rfl ⟨rfl, (by repeat (first | (with_reducible exact Below.refl _ _) | (with_reducible assumption) | (with_reducible refine Below.drew ?_) | (with_reducible refine Below_drewN ?_) | (with_reducible refine Below.alloc ?_ (by first | omega | (simp; done) | (simp; omega)) _) | (with_reducible refine Below.setCell ?_ (by first | omega | (simp; done) | (simp; omega)) _) | (with_reducible refine Below.trans ?_ (Below.mono (by assumption) (by first | omega | (simp; done) | (simp; omega))))))⟩; (focus (first | (simp [results, Ev.agg, Ev.zero, Try.results15, go_sem]; done) | (simp [results, Ev.agg, Ev.zero, Try.results15, go_sem, *]; done))))
        · have hd : decide (n0 < lo) = false := by simpa using e1
          have hd2 : decide (hi < n0) = false := by simpa using e2
          have HNx : Hid (rd (bnds kd) (L.drop 1) [] = rd ((bnds kd).drop (k + 1)) (R.drop (endOf R + 1)) (acc ++ [n0])) := by
            show _ = _
            rw [HRd.out, HA.out, rd_in HG0.out (by rw [← HNV.out]; exact e1) (by rw [← HNV.out]; exact e2), HNV.out]
          obtain ⟨ax, hsl0, rs⟩ := slice_rest (k := endOf R + 1) HRow.out hub
          have hsl : ∀ W, (Instr.slice 27 (.slice ab R.length cb) (some (.int .i64 u0)) none none).run Try.prog W = .ok (.slice ax (R.length - (endOf R + 1)) (cb - (endOf R + 1))) W := by rw [huv]; exact hsl0
          have HRs : Hid (RowAt w 1 (.slice ax (R.drop (endOf R + 1)).length (cb - (endOf R + 1))) (byts (R.drop (endOf R + 1)))) := by simpa [Hid] using rs
          clear hsl0 rs q2 hub huv
          rcases HPt.out n0 with ⟨o, ha, ho, hp1, hp2⟩ | ⟨ha, hp1, hp2⟩
          · obtain rfl : fa = ⟨w.heap.size + 1, o, none⟩ := ha
            have HS := Lib.hid (DcRel_set HD2.out hp1 hp2)
            obtain ⟨_, _, r3, _, _, _⟩ := HD2.out
            have t1 := blk_free r3 o
            obtain ⟨v0, hv0⟩ : ∃ v0, w2.cell? ⟨w.heap.size + 1, o, none⟩ = some v0 := by
              rw [blk_cell r3 o, Array.getElem?_eq_getElem (by simpa [Ev.cells] using ho)]
              exact ⟨_, rfl⟩
            have m2 : w.heap.size + 1 < w2.heap.size := by omega
            clear r3 hp1 hp2
            go_wp2
            go_roundw
            case rel => exact ⟨k + 1, ax, R.drop (endOf R + 1), cb - (endOf R + 1), acc ++ [n0], by omega, by simp, by go_num, by simp [HAl.out], HRs.out, IsB_drop HIB.out _, HNx.out, HS.out⟩
            case measure => simp [intOf]; omega
          · obtain rfl : fa = ⟨w.heap.size + 1 + 1, 0, none⟩ := ha
            have HS := Lib.hid (DcRel_good HD2.out hp1 hp2)
            obtain ⟨_, _, _, r4, _, _⟩ := HD2.out
            have t1 := blk_free r4 0
            have hv0 := blk_cell r4 0
            simp at hv0
            have m2 : w.heap.size + 1 + 1 < w2.heap.size := by omega
            clear r4 hp1 hp2
            go_wp2
            go_roundw
            case rel => exact ⟨k + 1, ax, R.drop (endOf R + 1), cb - (endOf R + 1), acc ++ [n0], by omega, by simp, by go_num, by simp [HAl.out], HRs.out, IsB_drop HIB.out _, HNx.out, HS.out⟩
            case measure => simp [intOf]; omega
      · have hc : c = c0 := by rw [H4.out, HRd.out, HA.out, HC0.out]; exact congrArg Prod.fst (rd_err (by rw [← HC0.out]; exact hcz))
        have hx : x = Ev.zero := by rw [H5.out, hc, if_neg hcz]
        subst hx
        subst hc
        have hd : (c == 0) = false := by simpa using hcz
        have hd2 : (c != 0) = true := by simpa using hcz
        have d0 := blk_cell q2 0
        have df0 := blk_free q2 0
        have d1 := blk_cell q2 1
        have df1 := blk_free q2 1
        have d2 := blk_cell q2 2
        have df2 := blk_free q2 2
        have d3 := blk_cell q2 3
        have df3 := blk_free q2 3
        have d4 := blk_cell q2 4
        have df4 := blk_free q2 4
        have d5 := blk_cell q2 5
        have df5 := blk_free q2 5
        have d6 := blk_cell q2 6
        have df6 := blk_free q2 6
        have d7 := blk_cell q2 7
        have df7 := blk_free q2 7
        simp at d0 d1 d2 d3 d4 d5 d6 d7
        clear q2 q3 q4 q5 hb2 xf hcz
        go_wp2
        (refine bodyPost_ret (v := .tuple #[Ev.agg Ev.zero, .int .i64 c]) ?_ rfl ⟨rfl, (by repeat (first | (with_reducible exact Below.refl _ _) | (with_reducible assumption) | (with_reducible refine Below.drew ?_) | (with_reducible refine Below_drewN ?_) | (with_reducible refine Below.alloc ?_ (by first | omega | (simp; done) | (simp; omega)) _) | (with_reducible refine Below.setCell ?_ (by first | omega | (simp; done) | (simp; omega)) _) | (with_reducible refine Below.trans ?_ (Below.mono (by assumption) (by first | omega | (simp; done) | (simp; omega))))))⟩; (focus (first | (simp [results, Ev.agg, Ev.zero, Try.results15, go_sem]; done) | (simp [results, Ev.agg, Ev.zero, Try.results15, go_sem, *]; done))))
    · have hge : ¬ (k : Int) < (F.length : Int) := by omega
      have hnil : (bnds kd).drop k = [] := by
        rw [← HSp.out, List.drop_of_length_le (by simp; omega)]
      have HRd2 : Hid (rd (bnds kd) (L.drop 1) [] = rd [] R acc) := by show _ = _; rw [HRd.out, hnil]
      have m0 : w.heap.size < wr.heap.size := by omega
      have m1 : w.heap.size + 1 < wr.heap.size := by omega
      have m2 : w.heap.size + 1 + 1 < wr.heap.size := by omega
      have d0 := blk_cell q2 0
      have df0 := blk_free q2 0
      have d1 := blk_cell q2 1
      have df1 := blk_free q2 1
      have d2 := blk_cell q2 2
      have df2 := blk_free q2 2
      have d3 := blk_cell q2 3
      have df3 := blk_free q2 3
      have d4 := blk_cell q2 4
      have df4 := blk_free q2 4
      have d5 := blk_cell q2 5
      have df5 := blk_free q2 5
      have d6 := blk_cell q2 6
      have df6 := blk_free q2 6
      have d7 := blk_cell q2 7
      have df7 := blk_free q2 7
      simp at d0 d1 d2 d3 d4 d5 d6 d7
      have xg := blk_cell q4 0
      simp at xg
      rcases (show R.length = 0 ∨ 0 < R.length by omega) with hr0 | hr0
      · have hc : c = 0 := by rw [H4.out, HRd2.out, rd_end0 hr0]
        have hx : x = decX kd acc := by rw [H5.out, hc, if_pos rfl, HRd2.out, rd_end0 hr0]
        have HX := Lib.hid hx
        subst hc
        clear hx
        have hr1 : ¬ (0 : Int) < (R.length : Int) := by omega
        obtain ⟨ev, hev⟩ : ∃ ev, ev = evD kd acc := ⟨_, rfl⟩
        have HEv := Lib.hid hev
        rw [← hev] at q3
        obtain ⟨g, hg⟩ : ∃ g, g = goodD kd acc := ⟨_, rfl⟩
        have HGd := Lib.hid hg
        rw [← hg] at xg
        obtain ⟨z0, z1, z2, z3, z4, z5, z6, z7⟩ := ev
        have e0 := blk_cell q3 0
        have ef0 := blk_free q3 0
        have e1 := blk_cell q3 1
        have ef1 := blk_free q3 1
        have e2 := blk_cell q3 2
        have ef2 := blk_free q3 2
        have e3 := blk_cell q3 3
        have ef3 := blk_free q3 3
        have e4 := blk_cell q3 4
        have ef4 := blk_free q3 4
        have e5 := blk_cell q3 5
        have ef5 := blk_free q3 5
        have e6 := blk_cell q3 6
        have ef6 := blk_free q3 6
        have e7 := blk_cell q3 7
        have ef7 := blk_free q3 7
        simp [Ev.cells] at e0 e1 e2 e3 e4 e5 e6 e7
        have hx2 : x = ⟨z0, z1, z2, z3, decide (g = 1), z5, z6, z7⟩ := by
          rw [HX.out]
          unfold decX
          rw [← HEv.out, ← HGd.out]
        clear HX
        subst hx2
        clear q2 q3 q4 q5 hev hg hnil
        go_wp2
        refine bodyPost_ret (v := .tuple #[Ev.agg ⟨z0, z1, z2, z3, decide (g = 1), z5, z6, z7⟩, .int .i64 0]) ?_ rfl ⟨rfl, (by repeat (first | (with_reducible exact Below.refl _ _) | (with_reducible assumption) | (with_reducible refine Below.drew ?_) | (with_reducible refine Below_drewN ?_) | (with_reducible refine Below.alloc ?_ (by first | omega | (simp; done) | (simp; omega)) _) | (with_reducible refine Below.setCell ?_ (by first | omega | (simp; done) | (simp; omega)) _) | (with_reducible refine Below.trans ?_ (Below.mono (by assumption) (by first | omega | (simp; done) | (simp; omega))))))⟩
        simp [results, Ev.agg, Try.results15, go_sem, *]
        rfl
      · have hc : c = 3 := by rw [H4.out, HRd2.out, rd_end3 (by omega)]
        have hx : x = Ev.zero := by rw [H5.out, hc]; rfl
        subst hc hx
        have hr1 : (0 : Int) < (R.length : Int) := by omega
        clear q2 q3 q4 q5 hnil xg
        go_wp2
        (refine bodyPost_ret (v := .tuple #[Ev.agg Ev.zero, .int .i64 3]) ?_ rfl ⟨rfl, (by repeat (first | (with_reducible exact Below.refl _ _) | (with_reducible assumption) | (with_reducible refine Below.drew ?_) | (with_reducible refine Below_drewN ?_) | (with_reducible refine Below.alloc ?_ (by first | omega | (simp; done) | (simp; omega)) _) | (with_reducible refine Below.setCell ?_ (by first | omega | (simp; done) | (simp; omega)) _) | (with_reducible refine Below.trans ?_ (Below.mono (by assumption) (by first | omega | (simp; done) | (simp; omega))))))⟩; (focus (first | (simp [results, Ev.agg, Ev.zero, Try.results15, go_sem]; done) | (simp [results, Ev.agg, Ev.zero, Try.results15, go_sem, *]; done))))
end Go.Proofs.Ytjfnnbbnkcdbcaa
