/- table.Counts and usherref.FlowCounts: their contracts. -/
import Derived.Test.YtbemdijjdeimgaaTabOfP
import Derived.Test.YtbemdijjdeimgaaTabCopy
import Derived.Test.YtbemdijjdeimgaaOwn
namespace Go.Proofs.Ytbemdijjdeimgaa
open Go.RowKit

theorem info_cint : (Try.prog.info? 3).map (fun i => (i.zero, i.size, i.bytes)) = some (some (.int .i64 0), 1, 8) := by kernel_rfl
/-- P5.7: the flows of each backend among the first k slots. -/
def cntL (X : List Sl) (k : Nat) : List Int := (List.range 12).map fun b => ((ofL X (b : Nat) k).length : Int)
def icells (l : List Int) : List (List Value) := l.map fun x => [Value.int .i64 x]
theorem cntL_len (X : List Sl) (k : Nat) : (cntL X k).length = 12 := by simp [cntL]
theorem icells_len (l : List Int) : ∀ c ∈ icells l, c.length = 1 := by
  intro c hc
  simp only [icells, List.mem_map] at hc
  obtain ⟨x, _, rfl⟩ := hc
  rfl
theorem icells_flat (l : List Int) : (icells l).flatten = l.map (Value.int .i64) := by
  induction l with
  | nil => rfl
  | cons x l ih => simp only [icells, List.map_cons, List.flatten_cons] at ih ⊢; rw [ih]; rfl
theorem cntL_get (X : List Sl) (k : Nat) (m : Nat) (h : m < 12) : (cntL X k)[m]? = some ((ofL X (m : Nat) k).length : Int) := by
  simp [cntL, h]
theorem cntL_no {X : List Sl} {k : Nat} {s : Sl} (hs : s = X.getD k Sl.zero) (h : s.used = false) : cntL X (k + 1) = cntL X k := by
  unfold cntL
  refine List.map_congr_left fun b _ => ?_
  rw [ofL_no hs (by rw [h]; simp)]
theorem cntL_yes {X : List Sl} {k m : Nat} {s : Sl} (hs : s = X.getD k Sl.zero) (h : s.used = true) (hm : s.backend = (m : Int)) (h12 : m < 12) : cntL X (k + 1) = (cntL X k).set m (((ofL X (m : Nat) k).length : Int) + 1) := by
  apply List.ext_getElem?
  intro j
  rw [List.getElem?_set]
  by_cases hj : j < 12
  · rw [cntL_get _ _ _ hj]
    by_cases hmj : m = j
    · subst hmj
      rw [if_pos rfl, if_pos (by simpa [cntL] using hj), ofL_yes hs h hm]; simp
    · rw [if_neg hmj, cntL_get _ _ _ hj, ofL_no hs (by rw [hm]; intro h'; have := h'.2; omega)]
  · rw [if_neg (by omega), List.getElem?_eq_none (by rw [cntL_len]; omega), List.getElem?_eq_none (by rw [cntL_len]; omega)]
theorem cntL_0 (X : List Sl) : (cntL X 0).map (Value.int .i64) = List.replicate 12 (.int .i64 0) := by
  simp [cntL, ofL]; rfl
theorem made_ints12 : (madeCells #[Value.int .i64 0] 12).toList = List.replicate 12 (.int .i64 0) := (madeCells_toList #[Value.int .i64 0] 12 (by decide)).trans rfl

/-- The end of Counts: a list of numbers. -/
def CntPost (w : World) (L : List Int) (code : Int) (e : Ending) (w' : World) : Prop := ∃ v, e = .returned (.tuple #[v, .int .i64 code]) ∧ RowNew w.heap.size w' 1 v (L.map fun x => [Value.int .i64 x]) ∧ Below w.heap.size w w'
theorem RowNew_none (B : Nat) (w : World) (sz : Nat) : RowNew B w sz (.slice none 0 0) [] := ⟨⟨none, 0, rfl, by simp, by unfold maxLen; omega, fun _ => rfl, fun h => absurd rfl h⟩, fun a n c h => by cases h⟩

set_option maxHeartbeats 2000000 in
set_option maxRecDepth 100000 in
theorem prog_Counts_bad (v : Value) (X : List Sl) (w : World) (r : RowAt w 4 v (X.map Sl.cells)) (h : ¬ TabMay X) : Calls Try.prog 12 #[.agg #[v]] w (CntPost w [] 6) := by
  have R := Lib.hid r
  have H := Lib.hid h
  obtain ⟨a, c, rfl, _⟩ := RowAt_shape r
  clear r h
  go_enter Try.func12, Try.ntmps12
  go_wp2_with (go_at_call 25; refine (tabCheck_bad _ X _ (RowAt_alloc R.out _) H.out).mono ?_; rintro e w1 ⟨rfl, hb1⟩; obtain ⟨hc1, hf1⟩ := bcell hb1; have hz1 := blt hb1; have hy1 := hb1.size; (try simp at hy1))
  refine bodyPost_ret (v := .tuple #[.slice none 0 0, .int .i64 6]) ?_ rfl ⟨_, rfl, RowNew_none _ _ _, (by repeat (first | (with_reducible exact Below.refl _ _) | (with_reducible assumption) | (with_reducible refine Below.drew ?_) | (with_reducible refine Below_drewN ?_) | (with_reducible refine Below.alloc ?_ (by first | omega | (simp; done) | (simp; omega)) _) | (with_reducible refine Below.setCell ?_ (by first | omega | (simp; done) | (simp; omega)) _) | (with_reducible refine Below.trans ?_ (Below.mono (by assumption) (by first | omega | (simp; done) | (simp; omega))))))⟩
  simp [results, Try.results12, go_sem, *]
set_option maxHeartbeats 2000000 in
set_option maxRecDepth 100000 in
theorem ref_Counts_bad (v : Value) (X : List Sl) (w : World) (r : RowAt w 4 v (X.map Sl.cells)) (h : ¬ TabMay X) : Calls Try.prog 13 #[.agg #[v]] w (CntPost w [] 6) := by
  have R := Lib.hid r
  have H := Lib.hid h
  obtain ⟨a, c, rfl, _⟩ := RowAt_shape r
  clear r h
  go_enter Try.func13, Try.ntmps13
  go_wp2_with (go_at_call 26; refine (tabFault_bad _ X _ (RowAt_alloc R.out _) H.out).mono ?_; rintro e w1 ⟨rfl, hb1⟩; obtain ⟨hc1, hf1⟩ := bcell hb1; have hz1 := blt hb1; have hy1 := hb1.size; (try simp at hy1))
  refine bodyPost_ret (v := .tuple #[.slice none 0 0, .int .i64 6]) ?_ rfl ⟨_, rfl, RowNew_none _ _ _, (by repeat (first | (with_reducible exact Below.refl _ _) | (with_reducible assumption) | (with_reducible refine Below.drew ?_) | (with_reducible refine Below_drewN ?_) | (with_reducible refine Below.alloc ?_ (by first | omega | (simp; done) | (simp; omega)) _) | (with_reducible refine Below.setCell ?_ (by first | omega | (simp; done) | (simp; omega)) _) | (with_reducible refine Below.trans ?_ (Below.mono (by assumption) (by first | omega | (simp; done) | (simp; omega))))))⟩
  simp [results, Try.results13, go_sem, *]

/-- What holds at the head of Counts' loop: the numbers lie in block g. -/
def CntRel (w wr : World) (s : Value) (X : List Sl) (g k : Nat) : Prop := Below w.heap.size w wr ∧ w.heap.size < g ∧ wr.cell? ⟨w.heap.size, 0, none⟩ = some s ∧ wr.ownsRow (w.heap.size + 1) 3 1 (.slice (some ⟨g, 0, none⟩) 12 12) 12 ((cntL X k).map (Value.int .i64))

set_option maxHeartbeats 4000000 in
set_option maxRecDepth 100000 in
theorem prog_Counts_row (b0 o0 c0 : Nat) (X : List Sl) (w : World) (hb0 : b0 < w.heap.size) (hm : TabMay X) (r : RowAt w 4 (.slice (some ⟨b0, o0, none⟩) X.length c0) (X.map Sl.cells)) (h1 : ∀ i j, i < X.length → j < 4 → w.cell? ⟨b0, o0 + i * 4 + j, none⟩ = (X.getD i Sl.zero).cells[j]?) :
    Calls Try.prog 12 #[.agg #[.slice (some ⟨b0, o0, none⟩) X.length c0]] w (CntPost w (cntL X X.length) 0) := by
  obtain ⟨i0, hi, hi0, hi1, hi2⟩ := info_parts info_cint
  have H1 := Lib.hid h1
  have R := Lib.hid r
  have M := Lib.hid hm
  have g2 : X.length ≤ 40 := hm.2.1
  clear h1 r hm
  go_enter Try.func12, Try.ntmps12
  go_wp2_with (first | (go_at_call 25; refine (tabCheck_ok _ X _ (RowAt_alloc R.out _) M.out).mono ?_; rintro e w1 ⟨rfl, hb1⟩; obtain ⟨hc1, hf1⟩ := bcell hb1; have hz1 := blt hb1; have hy1 := hb1.size; (try simp at hy1)) | (at_make; go_loud (refine wpList_make_full _ rfl _ _ 34 rfl (w.heap.size + 1) 3 i0 (.int .i64 0) 1 Try.underlying34 hi hi0 hi1 .i64 .i64 12 12 12 rfl rfl rfl rfl ?c1 ?c2 ?c3 ?_)))
  case c1 => rw [hi2]; omega
  case c2 => unfold maxLen; omega
  case c3 => omega
  intro w2 hown hgrow
  rw [show (madeCells #[.int .i64 0] (12 * 1)).toList = (cntL X 0).map (Value.int .i64) from made_ints12.trans (cntL_0 X).symm] at hown
  have B0 : Below w1.heap.size w1 w2 := (Below.refl _ _).grown hgrow (by simp) (fun k hk => by cases hk)
  have BB := Lib.hid ((((Below.refl w.heap.size w).alloc (Nat.le_refl _) _).trans (hb1.mono (by simp))).trans (B0.mono (by omega)))
  have c1 : w2.cell? ⟨w.heap.size, 0, none⟩ = some (.slice (some ⟨b0, o0, none⟩) X.length c0) := by
    rw [B0.cell (p := ⟨w.heap.size, 0, none⟩) (by simp; omega), hc1 _ _ (by simp)]; go_simp
  have HO := Lib.hid hown
  obtain ⟨g, hg⟩ : ∃ g, g = w1.heap.size := ⟨_, rfl⟩
  have hg1 : w.heap.size < g := by omega
  rw [← hg] at HO ⊢
  clear hown hgrow B0 hc1 hf1 hz1 hb1 hy1 hg
  go_wp2_with fail
  go_loopw [17] (fun i wr => ∃ k : Nat, k ≤ X.length ∧ i = .int .i64 k ∧ CntRel w wr (.slice (some ⟨b0, o0, none⟩) X.length c0) X g k) (fun i _ => X.length - (intOf i).toNat)
  case atStart => exact ⟨0, Nat.zero_le _, rfl, BB.out, hg1, c1, HO.out⟩
  case round =>
    obtain ⟨k, hk, rfl, hb, hsz, c1, hown⟩ := hrel
    clear HO BB
    rcases (show k < X.length ∨ X.length = k by omega) with hlt | heq
    · have hlt' : (k : Int) < (X.length : Int) := by omega
      obtain ⟨s, hs⟩ : ∃ s, s = X.getD k Sl.zero := ⟨_, rfl⟩
      have hmem : SlMay s := by rw [hs]; refine M.out.2.2 _ ?_; simp only [List.getD, List.getElem?_eq_getElem hlt, Option.getD_some]; exact List.getElem_mem _
      have hold : ∀ j, j < 4 → wr.cell? ⟨b0, o0 + k * 4 + j, none⟩ = s.cells[j]? := fun j hj => by
        rw [hb.cell (p := ⟨b0, o0 + k * 4 + j, none⟩) hb0, hs]; exact H1.out k j hlt hj
      have a0 := hold 0 (by omega)
      have a1 := hold 1 (by omega)
      have a2 := hold 2 (by omega)
      have a3 := hold 3 (by omega)
      clear hold
      have HS := Lib.hid hs
      have HB := Lib.hid hb
      have HO := Lib.hid hown
      clear hs hb hown
      obtain ⟨g', u, ky, bb⟩ := s
      simp only [Sl.cells, List.getElem?_cons_zero, List.getElem?_cons_succ, Nat.add_zero] at a0 a1 a2 a3
      have gl : g < wr.heap.size := (HO.out.lt _ rfl).2
      cases u with
      | false =>
        have KB := Lib.hid ((Below.refl wr.heap.size wr).alloc (Nat.le_refl _) (.cells #[.int .i64 g', .bool false, .int .i64 ky, .int .i64 bb] 28))
        go_wp2
        go_roundw
        case rel => exact ⟨k + 1, by omega, by go_num, by unfold CntRel; rw [cntL_no HS.out rfl]; exact ⟨HB.out.trans (KB.out.mono (HB.out.size)), hsz, cell_alloc _ c1, own_below HO.out KB.out⟩⟩
        case measure => simp [intOf]; omega
      | true =>
        obtain ⟨f1, f2, f3, f4, f5, f6⟩ : 0 ≤ g' ∧ g' ≤ 1048575 ∧ 0 ≤ ky ∧ ky ≤ 4294967295 ∧ 0 ≤ bb ∧ bb ≤ 11 := by simpa [SlMay] using hmem
        obtain ⟨m, rfl⟩ := Int.eq_ofNat_of_zero_le f5
        have hm12 : m < 12 := by omega
        have e1 : wr.cell? ⟨g, m, none⟩ = some (.int .i64 ((ofL X (m : Nat) k).length : Int)) := by rw [HO.out.cellAt m (by omega), List.getElem?_map, cntL_get _ _ _ hm12]; rfl
        have e2 : wr.frozen? ⟨g, m, none⟩ = false := HO.out.frozenAt m
        have hL := ofL_len X (m : Nat) k
        have KB := Lib.hid ((Below.refl wr.heap.size wr).alloc (Nat.le_refl _) (.cells #[.int .i64 g', .bool true, .int .i64 ky, .int .i64 m] 28))
        have hm12' : (m : Int) < 12 := by omega
        clear hmem
        go_wp2
        go_roundw
        case rel =>
          refine ⟨k + 1, by omega, by go_num, (HB.out.setCell (by simp; omega) _).alloc (by simp; have := HB.out.size; omega) _, hsz, (by repeat (first | (with_reducible assumption) | (with_reducible refine cell_alloc _ ?_) | (with_reducible refine cell_drewN _ ?_) | (refine (cell_set_ne (by omega)).trans ?_))), ?_⟩
          rw [cntL_yes HS.out rfl rfl hm12, List.map_set]; exact (HO.out.stored m _).1.alloc _
        case measure => simp [intOf]; omega
    · have hge : ¬ (k : Int) < (X.length : Int) := by omega
      have HB := Lib.hid hb
      have HO := Lib.hid hown
      clear hb hown
      go_wp2
      refine bodyPost_ret (v := .tuple #[.slice (some ⟨g, 0, none⟩) 12 12, .int .i64 0]) ?_ rfl ?_
      · simp [results, Try.results12, go_sem, *]
      · refine ⟨_, rfl, RowNew_mono (RowNew_of_owns (e := 3) (n := 12) (L := icells (cntL X k)) ?_ ((List.length_map ..).trans (cntL_len _ _)) (icells_len _)) (Nat.le_succ _), HB.out⟩
        rw [icells_flat]; exact HO.out

/-- What holds at the head of FlowCounts' loop. -/
def FCRel (w wr : World) (s : Value) (X : List Sl) (k : Nat) (l : Value) : Prop := Below w.heap.size w wr ∧ w.heap.size < wr.heap.size ∧ wr.cell? ⟨w.heap.size, 0, none⟩ = some s ∧
  ∃ (a : Option Addr) (cap : Nat), l = .slice a k cap ∧ wr.ownsRow (w.heap.size + 1) 3 1 (.slice a k cap) k (((cntL X X.length).take k).map (Value.int .i64))
theorem cntL_take (X : List Sl) (n k : Nat) (h : k < 12) : ((cntL X n).take (k + 1)).map (Value.int .i64) = ((cntL X n).take k).map (Value.int .i64) ++ [Value.int .i64 ((ofL X (k : Nat) n).length : Int)] := by
  rw [List.take_succ_eq_append_getElem (by rw [cntL_len]; exact h), List.map_append]
  congr 1
  have := cntL_get X n k h
  rw [List.getElem?_eq_getElem (by rw [cntL_len]; exact h)] at this
  simp only [Option.some.injEq] at this
  simp [this]

set_option maxHeartbeats 4000000 in
set_option maxRecDepth 100000 in
theorem ref_Counts_row (b0 o0 c0 : Nat) (X : List Sl) (w : World) (hb0 : b0 < w.heap.size) (hm : TabMay X) (r : RowAt w 4 (.slice (some ⟨b0, o0, none⟩) X.length c0) (X.map Sl.cells)) (h1 : ∀ i j, i < X.length → j < 4 → w.cell? ⟨b0, o0 + i * 4 + j, none⟩ = (X.getD i Sl.zero).cells[j]?) :
    Calls Try.prog 13 #[.agg #[.slice (some ⟨b0, o0, none⟩) X.length c0]] w (CntPost w (cntL X X.length) 0) := by
  obtain ⟨i0, hi, hi0, hi1, hi2⟩ := info_parts info_cint
  have H1 := Lib.hid h1
  have R := Lib.hid r
  have M := Lib.hid hm
  have g2 : X.length ≤ 40 := hm.2.1
  clear h1 r hm
  go_enter Try.func13, Try.ntmps13
  go_wp2_with (go_at_call 26; refine (tabFault_ok _ X _ (RowAt_alloc R.out _) M.out).mono ?_; rintro e w1 ⟨rfl, hb1⟩; obtain ⟨hc1, hf1⟩ := bcell hb1; have hz1 := blt hb1; have hy1 := hb1.size; (try simp at hy1))
  go_loopw [5, 6] (fun l i wr => ∃ k : Nat, k ≤ 12 ∧ i = .int .i64 k ∧ FCRel w wr (.slice (some ⟨b0, o0, none⟩) X.length c0) X k l) (fun _ i _ => 12 - (intOf i).toNat)
  case atStart =>
    refine ⟨0, Nat.zero_le _, rfl, ((Below.refl _ _).alloc (Nat.le_refl _) _).trans (hb1.mono (by simp)), by omega, ?_, none, 0, rfl, World.ownsRow_nil _ _ _ _⟩
    rw [hc1 _ _ (by simp)]; go_simp
  case round =>
    obtain ⟨k, hk, rfl, hb, hsz, c1, a, cap, rfl, hown⟩ := hrel
    clear hc1 hf1 hz1 hb1
    have HB := Lib.hid hb
    have HO := Lib.hid hown
    clear hb hown
    rcases (show k < 12 ∨ k = 12 by omega) with hlt | rfl
    · have hlt' : (k : Int) < 12 := by omega
      have hL := ofL_len X (k : Nat) X.length
      have HR : Hid (RowAt wr 4 (.slice (some ⟨b0, o0, none⟩) X.length c0) (X.map Sl.cells)) := RowAt_below R.out HB.out
      have HC : Hid (∀ i j, i < X.length → j < 4 → wr.cell? ⟨b0, o0 + i * 4 + j, none⟩ = (X.getD i Sl.zero).cells[j]?) := fun i j hi hj => by rw [HB.out.cell (p := ⟨b0, o0 + i * 4 + j, none⟩) hb0]; exact H1.out i j hi hj
      go_wp2_with fail
      refine (FlowsOf_ok b0 o0 c0 X k _ (Nat.lt_of_lt_of_le hb0 HB.out.size) M.out HR.out HC.out).mono ?_
      rintro e w2 ⟨v2, rfl, R2, hb2⟩
      have c2 := cell_below' hb2 c1
      have HB2 := Lib.hid (HB.out.trans (hb2.mono HB.out.size))
      have HO2 := Lib.hid (own_below HO.out hb2)
      have hz2 := hb2.size
      obtain ⟨a2, cap2, rfl, _⟩ := RowAt_shape R2.1
      clear c1 HB HO R2 HR HC hb2
      go_wp2_with (at_builtin; go_loud (refine wpList_append_own _ rfl _ _ 34 rfl (w.heap.size + 1) 3 i0 (.int .i64 0) 1 8 Try.underlying34 hi hi0 hi1 hi2 rfl (by decide) _ k _ rfl (HO2.out.alloc _) ⟨w2.heap.size, 0, none⟩ 1 1 [.int .i64 ((ofL X (k : Nat) X.length).length : Int)] rfl rfl (news_one [.int .i64 ((ofL X (k : Nat) X.length).length : Int)] 3) ?c1 ?c2 ?c3 ?c4 ?_))
      case c1 => intro u hu; simp at hu; subst hu; rfl
      case c2 => unfold maxLen; omega
      case c3 => omega
      case c4 => simp; omega
      intro v' w3 hown' hgrow _
      have hB := own_grown (by omega) HO2.out hgrow
      obtain ⟨a', cap', rfl, _, _⟩ := owns_shape hown'
      have c3 := cell_below hB c2 (by omega)
      have HB3 := Lib.hid (HB2.out.trans (hB.mono (by omega)))
      have HO3 := Lib.hid hown'
      have hz3 := hB.size
      clear hown' hgrow hB
      go_wp2
      go_roundw
      case rel => exact ⟨k + 1, by omega, by go_num, HB3.out, by omega, c3, a', cap', rfl, by rw [cntL_take _ _ _ hlt, List.map_take]; exact HO3.out⟩
      case measure => simp [intOf]; omega
    · go_wp2
      refine bodyPost_ret (v := .tuple #[.slice a 12 cap, .int .i64 0]) ?_ rfl ?_
      · simp [results, Try.results13, go_sem, *]
      · refine ⟨_, rfl, RowNew_mono (RowNew_of_owns (e := 3) (n := 12) (L := icells (cntL X X.length)) ?_ ((List.length_map ..).trans (cntL_len _ _)) (icells_len _)) (Nat.le_succ _), HB.out⟩
        have := HO.out
        rw [List.take_of_length_le (by rw [cntL_len]; omega)] at this
        rw [icells_flat]; exact this
end Go.Proofs.Ytbemdijjdeimgaa
