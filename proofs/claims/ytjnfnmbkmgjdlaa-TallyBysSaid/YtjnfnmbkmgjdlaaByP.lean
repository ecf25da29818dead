/- tally.By: its contract. -/
import Derived.Test.YtjnfnmbkmgjdlaaByL
namespace Go.Proofs.Ytjnfnmbkmgjdlaa
open Go.RowKit Go.ChangeMaps Go.Maps

def InB (x : Out) : Prop := 0 ≤ x.backend ∧ x.backend ≤ 11
def ByAns (X : List Out) (ans : List Int) (code : Int) : Prop := ((∃ x ∈ X, ¬ InB x) ∧ ans = [] ∧ code = 2) ∨ ((∀ x ∈ X, InB x) ∧ ans = outB (cntB X X.length) ∧ code = 0)
def ByPost (w : World) (ans : List Int) (code : Int) (e : Ending) (w' : World) : Prop := ∃ v, e = .returned (.tuple #[v, .int .i64 code]) ∧ RowAt w' 1 v (ans.map fun c => [.int .i64 c]) ∧ Below w.heap.size w w'
/-- What holds at the head of By's first loop. -/
def ByRel (w wr : World) (M : Nat) (X : List Out) (k : Nat) : Prop := k ≤ X.length ∧ Below w.heap.size w wr ∧ M < wr.heap.size ∧ (∃ (D : DataW Unit) (n : Nat), wr.ownsMap Try.prog 62 bkR M n D ∧ n ≤ k ∧ MapIs D (X.take k)) ∧ ∀ i, i < k → InB (X.getD i Out.zero)

set_option maxHeartbeats 4000000 in
set_option maxRecDepth 100000 in
theorem prog_By_bad (v : Value) (X : List Out) (w : World) (r : RowAt w 7 v (X.map Out.cells)) (hn : X.length * 56 ≤ 140737488351232) (hf : ∃ x ∈ X, ¬ Fits x) :
    Calls Try.prog 12 #[v] w (ByPost w [] 5) := by
  obtain ⟨a, c, rfl, _⟩ := RowAt_shape r
  have HF := Lib.hid hf
  clear hf
  go_enter Try.func12, Try.ntmps12
  go_wp2_with fail
  refine (prog_Of_bad _ X _ r hn HF.out).mono ?_
  rintro e w1 ⟨rfl, hb1⟩
  have B1 := Lib.hid (setRow_below (arr := talV []) (hb1.alloc hb1.size (.cells #[.int .i64 0, .int .i64 0, .int .i64 0, .int .i64 0, .int .i64 0, .int .i64 0, .int .i64 0, .int .i64 0, .int .i64 0, .int .i64 0, .int .i64 0, .int .i64 0, .int .i64 0, .int .i64 0, .int .i64 0, .int .i64 0, .int .i64 0] 56)) hb1.size)
  clear hb1 r
  go_wp2_with (refine wpList_store_row rfl 56 (.tmp 4) (.tmp 16) rfl w1.heap.size (talV []) rfl rfl 56 (talV []) (heap_at _ rfl) (by kernel_rfl) rfl (one_talV []) ?_)
  refine bodyPost_ret (v := .tuple #[.slice none 0 0, .int .i64 5]) ?_ rfl ⟨_, rfl, RowAt_nil _ _, B1.out⟩
  simp [results, Try.results12, go_sem, *]

set_option maxHeartbeats 8000000 in
set_option maxRecDepth 100000 in
theorem prog_By_fits (v : Value) (X : List Out) (ans : List Int) (code : Int) (w : World) (r : RowAt w 7 v (X.map Out.cells)) (hn : X.length * 56 ≤ 140737488351232) (hok : ∀ x ∈ X, x.ok) (hf : ∀ x ∈ X, Fits x) (hA : ByAns X ans code) :
    Calls Try.prog 12 #[v] w (ByPost w ans code) := by
  have r0 := r
  obtain ⟨a, c, rfl, _, _, _, p⟩ := RowAt_fn Out.zero r
  have HF := Lib.hid hf
  have HA := Lib.hid hA
  have HOk := Lib.hid hok
  have HP := Lib.hid p
  have hlm : (X.length : Int) ≤ 9223372036854775807 := by omega
  clear hf hA hok r p
  have hmm := @run_makeMap Try.prog
  have hmk : ∀ W, (Instr.makeSlice 31 (.int .i64 12) (.int .i64 12)).run Try.prog W = .ok (.slice (some ⟨W.heap.size, 0, none⟩) 12 12) (W.alloc (.cells #[.int .i64 0, .int .i64 0, .int .i64 0, .int .i64 0, .int .i64 0, .int .i64 0, .int .i64 0, .int .i64 0, .int .i64 0, .int .i64 0, .int .i64 0, .int .i64 0] 3)) := by
    intro W
    kernel_rfl
  go_enter Try.func12, Try.ntmps12
  go_wp2_with fail
  refine (prog_Of_ok _ X _ r0 hn HF.out).mono ?_
  rintro e w1 ⟨rfl, hb1⟩
  have B1 := Lib.hid (setRow_below (arr := talV X) (hb1.alloc hb1.size (.cells #[.int .i64 0, .int .i64 0, .int .i64 0, .int .i64 0, .int .i64 0, .int .i64 0, .int .i64 0, .int .i64 0, .int .i64 0, .int .i64 0, .int .i64 0, .int .i64 0, .int .i64 0, .int .i64 0, .int .i64 0, .int .i64 0, .int .i64 0] 56)) hb1.size)
  have hs1 := hb1.size
  clear hb1 r0
  go_wp2_with (refine wpList_store_row rfl 56 (.tmp 4) (.tmp 16) rfl w1.heap.size (talV X) rfl rfl 56 (talV []) (heap_at _ rfl) (by kernel_rfl) rfl (one_talV X) ?_)
  obtain ⟨M, hM⟩ : ∃ M, M = w1.heap.size + 1 := ⟨_, rfl⟩
  rw [← hM]
  have eM : ((w1.alloc (.cells #[.int .i64 0, .int .i64 0, .int .i64 0, .int .i64 0, .int .i64 0, .int .i64 0, .int .i64 0, .int .i64 0, .int .i64 0, .int .i64 0, .int .i64 0, .int .i64 0, .int .i64 0, .int .i64 0, .int .i64 0, .int .i64 0, .int .i64 0] 56)).setRow w1.heap.size (talV X)).heap.size = M := by rw [hM]; simp [World.setRow]
  have HMade : Hid ((((w1.alloc (.cells #[.int .i64 0, .int .i64 0, .int .i64 0, .int .i64 0, .int .i64 0, .int .i64 0, .int .i64 0, .int .i64 0, .int .i64 0, .int .i64 0, .int .i64 0, .int .i64 0, .int .i64 0, .int .i64 0, .int .i64 0, .int .i64 0, .int .i64 0] 56)).setRow w1.heap.size (talV X)).alloc (.map #[] 0)).ownsMap Try.prog 62 bkR M 0 (.map [])) := by
    have := World.ownsMap_made ((w1.alloc (.cells #[.int .i64 0, .int .i64 0, .int .i64 0, .int .i64 0, .int .i64 0, .int .i64 0, .int .i64 0, .int .i64 0, .int .i64 0, .int .i64 0, .int .i64 0, .int .i64 0, .int .i64 0, .int .i64 0, .int .i64 0, .int .i64 0, .int .i64 0] 56)).setRow w1.heap.size (talV X)) Try.prog 62 bkR
    rwa [eM] at this
  have hMw : w.heap.size ≤ M := by omega
  have HMl : Hid (M < (((w1.alloc (.cells #[.int .i64 0, .int .i64 0, .int .i64 0, .int .i64 0, .int .i64 0, .int .i64 0, .int .i64 0, .int .i64 0, .int .i64 0, .int .i64 0, .int .i64 0, .int .i64 0, .int .i64 0, .int .i64 0, .int .i64 0, .int .i64 0, .int .i64 0] 56)).setRow w1.heap.size (talV X)).alloc (.map #[] 0)).heap.size) := by show M < _; simp [eM]
  clear hM eM
  go_loopw [24] (fun i wr => ∃ k : Nat, i = .int .i64 k ∧ ByRel w wr M X k) (fun i _ => X.length - (intOf i).toNat)
  case atStart => exact ⟨0, rfl, Nat.zero_le _, B1.out.alloc B1.out.size _, HMl.out, ⟨.map [], 0, HMade.out, Nat.le_refl _, MapIs_nil⟩, fun i hi => by omega⟩
  case round =>
    clear HMade HMl
    obtain ⟨k, rfl, hk, hb, hMl, ⟨D, n, hown, hnk, hmap⟩, hin⟩ := hrel
    have HB := Lib.hid hb
    have HO := Lib.hid hown
    have HMp := Lib.hid hmap
    have HIn := Lib.hid hin
    have HIs : Hid (IsMap D) := by obtain ⟨es, h, _⟩ := hown.entries key_end; exact ⟨es, h⟩
    clear hown hmap hin
    rcases (show k < X.length ∨ X.length = k by omega) with hlt | heq
    · have hlt' : (k : Int) < (X.length : Int) := by omega
      obtain ⟨b0, o0, rfl, hb0, q⟩ := HP.out (by intro h; rw [h] at hlt; simp at hlt)
      obtain ⟨s, hs⟩ : ∃ s, s = X.getD k Out.zero := ⟨_, rfl⟩
      have hold : ∀ j, j < 7 → wr.cell? ⟨b0, o0 + k * 7 + j, none⟩ = s.cells[j]? := fun j hj => by
        rw [hb.cell (p := ⟨b0, o0 + k * 7 + j, none⟩) hb0, hs]; exact q k j hlt hj
      have a0 := hold 0 (by omega)
      have a1 := hold 1 (by omega)
      have a2 := hold 2 (by omega)
      have a3 := hold 3 (by omega)
      have a4 := hold 4 (by omega)
      have a5 := hold 5 (by omega)
      have a6 := hold 6 (by omega)
      have hmem : s ∈ X := by rw [hs]; simp only [List.getD, List.getElem?_eq_getElem hlt, Option.getD_some]; exact List.getElem_mem _
      have HSm := Lib.hid hmem
      have HSok := Lib.hid (HOk.out s hmem)
      have HSn : Hid (X.take (k + 1) = X.take k ++ [s]) := by show _ = _; rw [take_snoc' hlt, ← hs]
      have HSg := Lib.hid hs
      have HL : Hid (n < maxLen) := by show n < _; unfold maxLen; omega
      have lb : b0 < wr.heap.size := cell_lt (v := .int .i64 s.kind) (by simpa [Out.cells] using a0)
      clear hold q hs hmem hb
      obtain ⟨kd, sl, gn, bk, rq, cd, wy⟩ := s
      simp only [Out.cells, List.getElem?_cons_zero, List.getElem?_cons_succ, Nat.add_zero] at a0 a1 a2 a3 a4 a5 a6
      have HK : Hid (keyOf Try.prog 62 (.agg #[.int .i64 sl, .int .i64 gn]) = some (kE sl gn)) := keyOf_end HSok.out.2.1 HSok.out.2.2.1
      by_cases hbk : 0 ≤ bk ∧ bk ≤ 11
      · have HIn2 : Hid (∀ i, i < k + 1 → InB (X.getD i Out.zero)) := fun i hi => by
          by_cases h : i = k
          · subst h; rw [← HSg.out]; exact hbk
          · exact HIn.out i (by omega)
        have g1 : ¬ bk < 0 := by omega
        have g2 : ¬ 12 ≤ bk := by omega
        have g3 : decide (bk < 0) = false := by simpa using hbk.1
        have g4 : decide (12 ≤ bk) = false := by simp; omega
        clear hbk
        rcases (show kd = 1 ∨ kd = 5 ∨ kd = 6 ∨ kd = 7 ∨ (¬ kd = 1 ∧ ¬ kd = 5 ∧ ¬ kd = 6 ∧ ¬ kd = 7) by omega) with rfl | rfl | rfl | rfl | ⟨n1, n5, n6, n7⟩
        · skip
          go_wp2_with (at_mapUpdate; refine wpList_mapUpdate_own _ rfl _ _ _ 65 rfl 62 66 key_end Try.underlying65 bkR M n D rfl (mapB_keep HO.out (((Below.refl _ _).alloc (Nat.le_refl _) _).alloc (by simp) _)) HL.out (.agg #[.int .i64 sl, .int .i64 gn]) (.agg #[.int .i64 bk]) (kE sl gn) rfl rfl HK.out (.lit (.int .i64 bk)) [] (bkR_mk bk) ?_)
          intro w2 hown2 hgrow2
          have hB1 : Below w.heap.size w ((wr.alloc (.cells #[.int .i64 1, .int .i64 sl, .int .i64 gn, .int .i64 bk, .int .i64 rq, .int .i64 cd, .int .i64 wy] 60)).alloc (.cells #[.int .i64 sl, .int .i64 gn] 62)) := (HB.out.alloc HB.out.size _).alloc (by have := HB.out.size; simp; omega) _
          have hB2 := Lib.hid (mapB_below hB1 hgrow2 hB1.size hMw)
          have s2 := hgrow2.size
          simp at s2
          have HN : Hid (∃ (D : DataW Unit) (n : Nat), w2.ownsMap Try.prog 62 bkR M n D ∧ n ≤ k + 1 ∧ MapIs D (X.take (k + 1))) := ⟨_, n + 1, hown2, by omega, by rw [HSn.out]; exact MapIs_put (x := ⟨1, sl, gn, bk, rq, cd, wy⟩) HMp.out HIs.out HSok.out (by first | exact Or.inl rfl | exact Or.inr rfl)⟩
          clear hown2 hgrow2 hB1
          go_wp2
          go_roundw
          case rel => exact ⟨k + 1, by go_num, by omega, hB2.out, by omega, HN.out, HIn2.out⟩
          case measure => simp [intOf]; omega
        · skip
          go_wp2_with (at_mapUpdate; refine wpList_mapUpdate_own _ rfl _ _ _ 65 rfl 62 66 key_end Try.underlying65 bkR M n D rfl (mapB_keep HO.out (((Below.refl _ _).alloc (Nat.le_refl _) _).alloc (by simp) _)) HL.out (.agg #[.int .i64 sl, .int .i64 gn]) (.agg #[.int .i64 bk]) (kE sl gn) rfl rfl HK.out (.lit (.int .i64 bk)) [] (bkR_mk bk) ?_)
          intro w2 hown2 hgrow2
          have hB1 : Below w.heap.size w ((wr.alloc (.cells #[.int .i64 5, .int .i64 sl, .int .i64 gn, .int .i64 bk, .int .i64 rq, .int .i64 cd, .int .i64 wy] 60)).alloc (.cells #[.int .i64 sl, .int .i64 gn] 62)) := (HB.out.alloc HB.out.size _).alloc (by have := HB.out.size; simp; omega) _
          have hB2 := Lib.hid (mapB_below hB1 hgrow2 hB1.size hMw)
          have s2 := hgrow2.size
          simp at s2
          have HN : Hid (∃ (D : DataW Unit) (n : Nat), w2.ownsMap Try.prog 62 bkR M n D ∧ n ≤ k + 1 ∧ MapIs D (X.take (k + 1))) := ⟨_, n + 1, hown2, by omega, by rw [HSn.out]; exact MapIs_put (x := ⟨5, sl, gn, bk, rq, cd, wy⟩) HMp.out HIs.out HSok.out (by first | exact Or.inl rfl | exact Or.inr rfl)⟩
          clear hown2 hgrow2 hB1
          go_wp2
          go_roundw
          case rel => exact ⟨k + 1, by go_num, by omega, hB2.out, by omega, HN.out, HIn2.out⟩
          case measure => simp [intOf]; omega
        · skip
          go_wp2_with (at_delete; refine wpList_delete_own _ rfl _ _ 65 62 rfl 66 key_end Try.underlying65 bkR M n D rfl (mapB_keep HO.out (((Below.refl _ _).alloc (Nat.le_refl _) _).alloc (by simp) _)) (.agg #[.int .i64 sl, .int .i64 gn]) (kE sl gn) rfl HK.out ?_)
          intro w2 hown2 hturn2
          have hgrow2 := hturn2.grown
          have hB1 : Below w.heap.size w ((wr.alloc (.cells #[.int .i64 6, .int .i64 sl, .int .i64 gn, .int .i64 bk, .int .i64 rq, .int .i64 cd, .int .i64 wy] 60)).alloc (.cells #[.int .i64 sl, .int .i64 gn] 62)) := (HB.out.alloc HB.out.size _).alloc (by have := HB.out.size; simp; omega) _
          have hB2 := Lib.hid (mapB_below hB1 hgrow2 hB1.size hMw)
          have s2 := hgrow2.size
          simp at s2
          have HN : Hid (∃ (D : DataW Unit) (n : Nat), w2.ownsMap Try.prog 62 bkR M n D ∧ n ≤ k + 1 ∧ MapIs D (X.take (k + 1))) := ⟨_, n, hown2, by omega, by rw [HSn.out]; exact MapIs_del (x := ⟨6, sl, gn, bk, rq, cd, wy⟩) HMp.out HSok.out (by first | exact Or.inl rfl | exact Or.inr rfl)⟩
          clear hown2 hgrow2 hturn2 hB1
          go_wp2
          go_roundw
          case rel => exact ⟨k + 1, by go_num, by omega, hB2.out, by omega, HN.out, HIn2.out⟩
          case measure => simp [intOf]; omega
        · skip
          go_wp2_with (at_delete; refine wpList_delete_own _ rfl _ _ 65 62 rfl 66 key_end Try.underlying65 bkR M n D rfl (mapB_keep HO.out (((Below.refl _ _).alloc (Nat.le_refl _) _).alloc (by simp) _)) (.agg #[.int .i64 sl, .int .i64 gn]) (kE sl gn) rfl HK.out ?_)
          intro w2 hown2 hturn2
          have hgrow2 := hturn2.grown
          have hB1 : Below w.heap.size w ((wr.alloc (.cells #[.int .i64 7, .int .i64 sl, .int .i64 gn, .int .i64 bk, .int .i64 rq, .int .i64 cd, .int .i64 wy] 60)).alloc (.cells #[.int .i64 sl, .int .i64 gn] 62)) := (HB.out.alloc HB.out.size _).alloc (by have := HB.out.size; simp; omega) _
          have hB2 := Lib.hid (mapB_below hB1 hgrow2 hB1.size hMw)
          have s2 := hgrow2.size
          simp at s2
          have HN : Hid (∃ (D : DataW Unit) (n : Nat), w2.ownsMap Try.prog 62 bkR M n D ∧ n ≤ k + 1 ∧ MapIs D (X.take (k + 1))) := ⟨_, n, hown2, by omega, by rw [HSn.out]; exact MapIs_del (x := ⟨7, sl, gn, bk, rq, cd, wy⟩) HMp.out HSok.out (by first | exact Or.inl rfl | exact Or.inr rfl)⟩
          clear hown2 hgrow2 hturn2 hB1
          go_wp2
          go_roundw
          case rel => exact ⟨k + 1, by go_num, by omega, hB2.out, by omega, HN.out, HIn2.out⟩
          case measure => simp [intOf]; omega
        · have e1 : (kd == 1) = false := by simpa using n1
          have e5 : (kd == 5) = false := by simpa using n5
          have e6 : (kd == 6) = false := by simpa using n6
          have e7 : (kd == 7) = false := by simpa using n7
          have hB1 : Below w.heap.size w ((wr.alloc (.cells #[.int .i64 kd, .int .i64 sl, .int .i64 gn, .int .i64 bk, .int .i64 rq, .int .i64 cd, .int .i64 wy] 60)).alloc (.cells #[.int .i64 sl, .int .i64 gn] 62)) := (HB.out.alloc HB.out.size _).alloc (by have := HB.out.size; simp; omega) _
          have hB2 := Lib.hid hB1
          have HN : Hid (∃ (D : DataW Unit) (n : Nat), ((wr.alloc (.cells #[.int .i64 kd, .int .i64 sl, .int .i64 gn, .int .i64 bk, .int .i64 rq, .int .i64 cd, .int .i64 wy] 60)).alloc (.cells #[.int .i64 sl, .int .i64 gn] 62)).ownsMap Try.prog 62 bkR M n D ∧ n ≤ k + 1 ∧ MapIs D (X.take (k + 1))) := ⟨D, n, mapB_keep HO.out (((Below.refl _ _).alloc (Nat.le_refl _) _).alloc (by simp) _), by omega, by rw [HSn.out]; exact MapIs_skip HMp.out (by rintro (h | h); exact n1 h; exact n5 h) (by rintro (h | h); exact n6 h; exact n7 h)⟩
          clear hB1
          go_wp2
          go_roundw
          case rel => exact ⟨k + 1, by go_num, by omega, hB2.out, by simp; omega, HN.out, HIn2.out⟩
          case measure => simp [intOf]; omega
      · have hbad : ans = [] ∧ code = 2 := by
          rcases HA.out with ⟨_, h⟩ | ⟨h, _⟩
          · exact h
          · exact absurd (h _ HSm.out) hbk
        obtain ⟨rfl, rfl⟩ := hbad
        have B2 := HB.out
        rcases (show bk < 0 ∨ (0 ≤ bk ∧ 12 ≤ bk) by omega) with h | ⟨h, h2⟩
        · clear hbk
          go_wp2
          refine bodyPost_ret (v := .tuple #[.slice none 0 0, .int .i64 2]) ?_ rfl ⟨_, rfl, RowAt_nil _ _, (by repeat (first | (with_reducible exact Below.refl _ _) | (with_reducible assumption) | (with_reducible refine Below.drew ?_) | (with_reducible refine Below_drewN ?_) | (with_reducible refine Below.alloc ?_ (by first | omega | (simp; done) | (simp; omega)) _) | (with_reducible refine Below.setCell ?_ (by first | omega | (simp; done) | (simp; omega)) _) | (with_reducible refine Below.trans ?_ (Below.mono (by assumption) (by first | omega | (simp; done) | (simp; omega))))))⟩
          simp [results, Try.results12, go_sem, *]
        · clear hbk
          have h3 : decide (bk < 0) = false := by simpa using h
          go_wp2
          refine bodyPost_ret (v := .tuple #[.slice none 0 0, .int .i64 2]) ?_ rfl ⟨_, rfl, RowAt_nil _ _, (by repeat (first | (with_reducible exact Below.refl _ _) | (with_reducible assumption) | (with_reducible refine Below.drew ?_) | (with_reducible refine Below_drewN ?_) | (with_reducible refine Below.alloc ?_ (by first | omega | (simp; done) | (simp; omega)) _) | (with_reducible refine Below.setCell ?_ (by first | omega | (simp; done) | (simp; omega)) _) | (with_reducible refine Below.trans ?_ (Below.mono (by assumption) (by first | omega | (simp; done) | (simp; omega))))))⟩
          simp [results, Try.results12, go_sem, *]
    · have hge : ¬ (k : Int) < (X.length : Int) := by omega
      have hall : ∀ x ∈ X, InB x := by
        intro x hx
        obtain ⟨i, hi, rfl⟩ := List.mem_iff_getElem.1 hx
        have := HIn.out i (by omega)
        simpa [List.getD, hi] using this
      obtain ⟨rfl, rfl⟩ : ans = outB (cntB X X.length) ∧ code = 0 := by
        rcases HA.out with ⟨⟨x, hx, h⟩, _⟩ | ⟨_, h⟩
        · exact absurd (hall x hx) h
        · exact h
      have HAll := Lib.hid hall
      have HMp2 : Hid (MapIs D X) := by have := HMp.out; rwa [List.take_of_length_le (by omega)] at this
      clear hall HMp
      go_wp2_with (at_range; refine wpList_range_own _ rfl _ 65 rfl 62 66 key_end Try.underlying65 bkR M n D rfl (mapB_keep HO.out ((Below.refl _ _).alloc (Nat.le_refl _) _)) ?_)
      intro w3 hrg0 hg0 hs0
      obtain ⟨S0, hS0⟩ : ∃ S0, S0 = wr.heap.size := ⟨_, rfl⟩
      have hr0 : (wr.alloc (.cells #[.int .i64 0, .int .i64 0, .int .i64 0, .int .i64 0, .int .i64 0, .int .i64 0, .int .i64 0, .int .i64 0, .int .i64 0, .int .i64 0, .int .i64 0, .int .i64 0] 3)).heap.size = S0 + 1 := by rw [hS0]; simp
      rw [← hS0] at hrg0
      try simp only [World.size_alloc] at hs0
      rw [← hS0] at hs0
      try simp only [World.size_alloc]
      rw [← hS0]
      have hb3 : Below w.heap.size w w3 := (HB.out.alloc HB.out.size (.cells #[.int .i64 0, .int .i64 0, .int .i64 0, .int .i64 0, .int .i64 0, .int .i64 0, .int .i64 0, .int .i64 0, .int .i64 0, .int .i64 0, .int .i64 0, .int .i64 0] 3)).grown hg0 (by have := HB.out.size; simp; omega) (by intro r hr; cases hr)
      have h0 : w3.heap[S0]? = some (.cells #[.int .i64 0, .int .i64 0, .int .i64 0, .int .i64 0, .int .i64 0, .int .i64 0, .int .i64 0, .int .i64 0, .int .i64 0, .int .i64 0, .int .i64 0, .int .i64 0] 3 (0, 0)) := (hg0.block S0 (by rw [hr0]; omega) (by simp)).trans (heap_at (w := wr) _ hS0)
      have hz : ((outB (cntL X (has D))).map fun c => Value.int .i64 c).toArray = #[.int .i64 0, .int .i64 0, .int .i64 0, .int .i64 0, .int .i64 0, .int .i64 0, .int .i64 0, .int .i64 0, .int .i64 0, .int .i64 0, .int .i64 0, .int .i64 0] := by
        rw [outB_congr (f' := fun _ => 0) (cntL_start HOk.out HMp2.out)]; rfl
      have HS : Hid (∃ left cnt, w3.ranges Try.prog 62 bkR M (S0 + 1) n D left cnt ∧ Below w.heap.size w w3 ∧ w3.heap[S0]? = some (.cells ((outB (cntL X left)).map fun c => Value.int .i64 c).toArray 3 (0, 0))) := ⟨has D, _, hrg0, hb3, by rw [hz]; exact h0⟩
      have hMS : M < S0 := by rw [hS0]; exact hMl
      clear hrg0 hb3 h0 hz hg0 hs0 hr0 hS0 HB HO hMl
      go_wp2_with fail
      go_loopw [60] (fun _ wq => ∃ left cnt, wq.ranges Try.prog 62 bkR M (S0 + 1) n D left cnt ∧ Below w.heap.size w wq ∧ wq.heap[S0]? = some (.cells ((outB (cntL X left)).map fun c => Value.int .i64 c).toArray 3 (0, 0))) (fun _ wq => wq.rangeLeft M (S0 + 1))
      case atStart => exact HS.out
      case round =>
        clear HS
        obtain ⟨left, cnt, hrg, hbq, hxq⟩ := hrel
        have HRg := Lib.hid hrg
        have HBq := Lib.hid hbq
        have HXq := Lib.hid hxq
        have lS := lt_of_block hxq
        clear hrg hbq hxq
        go_wp2_with (at_next; refine wpList_next_ranges _ rfl _ rfl 62 key_end bkR (fun p : Int × Int => .agg #[.int .i64 p.1, .int .i64 p.2]) (fun c : Int => .agg #[.int .i64 c]) (fun _ _ h => keyOf_inv h) (fun _ _ h => bkR_inv h) M (S0 + 1) n D left cnt rfl HRg.out ?_ ?_)
        · intro _ hl0
          have HL0 := Lib.hid hl0
          clear hl0
          go_wp2
          refine bodyPost_ret (v := .tuple #[.slice (some ⟨S0, 0, none⟩) 12 12, .int .i64 0]) ?_ rfl ⟨_, rfl, ?_, HBq.out⟩
          · simp [results, Try.results12, go_sem, *]
          · have e := outB_congr (fun b => cntL_end (X := X) HL0.out b)
            have h1 := HXq.out
            rw [e] at h1
            first | exact row_blk12 h1 (outB_len _) | (rw [heq] at h1; exact row_blk12 h1 (outB_len _))
        · intro s1 g1 c kl yd yp w4 cnt4 hkx hlx hbx hat hrg1 hlt hg1 hs1 hen
          obtain ⟨I1, I2, rfl⟩ := keyOf_inv2 hkx
          have hy : bkR (.agg #[.int .i64 c]) = some (yd, yp) := hbx
          rw [bkR_mk] at hy
          simp only [Option.some.injEq, Prod.mk.injEq] at hy
          obtain ⟨rfl, rfl⟩ := hy
          have hat' : ∀ z, D.atKey (kE s1 g1) z = .lit (.int .i64 c) := hat
          obtain ⟨i, hi, hie⟩ := lv_range HMp2.out I1 I2 hat'
          have hcr : 0 ≤ c ∧ c ≤ 11 := by
            have := HAll.out (X.getD i Out.zero) (by simp only [List.getD, List.getElem?_eq_getElem hi, Option.getD_some]; exact List.getElem_mem _)
            unfold InB at this; rw [hie] at this; exact this
          obtain ⟨cn, rfl⟩ := Int.eq_ofNat_of_zero_le hcr.1
          have hc12 : cn < 12 := by omega
          have hlx' : left (kE s1 g1) = true := hlx
          have HStep := Lib.hid (fun b => cntL_step HOk.out HMp2.out I1 I2 hlx' hat' b)
          have hen' : (Instr.entry (.pointer (some ⟨S0 + 1, 0, none⟩))).run Try.prog w4 = .ok (.tuple #[.agg #[.int .i64 s1, .int .i64 g1], .agg #[.int .i64 (cn : Int)]]) w4 := hen
          have hx4 : w4.heap[S0]? = some (.cells ((outB (cntL X left)).map fun c => Value.int .i64 c).toArray 3 (0, 0)) := (hg1.block S0 lS (by simp)).trans HXq.out
          have l4 := lt_of_block hx4
          have y0 : w4.cell? ⟨S0, cn, none⟩ = some (.int .i64 (cntL X left (cn : Int) : Int)) := by
            rw [blk_cell hx4]; simp [outB, hc12]
          have yf0 := blk_free hx4 cn
          have hle := cntL_le X left (cn : Int)
          obtain ⟨q, hq⟩ : ∃ q : Nat, q = cntL X left (cn : Int) := ⟨_, rfl⟩
          rw [← hq] at y0 hle
          have hci : (cn : Int) < 12 := by omega
          have hc0 : (0 : Int) ≤ (cn : Int) := by omega
          have hq2 : (q : Int) + 1 ≤ 9223372036854775807 := by omega
          have HNx : Hid (∃ left' cnt', ((w4.setCell ⟨S0, cn, none⟩ (.int .i64 ((q : Int) + 1))).alloc (.cells #[.int .i64 (cn : Int)] 66)).ranges Try.prog 62 bkR M (S0 + 1) n D left' cnt' ∧ Below w.heap.size w ((w4.setCell ⟨S0, cn, none⟩ (.int .i64 ((q : Int) + 1))).alloc (.cells #[.int .i64 (cn : Int)] 66)) ∧ ((w4.setCell ⟨S0, cn, none⟩ (.int .i64 ((q : Int) + 1))).alloc (.cells #[.int .i64 (cn : Int)] 66)).heap[S0]? = some (.cells ((outB (cntL X left')).map fun c => Value.int .i64 c).toArray 3 (0, 0))) := by
            refine ⟨_, cnt4, (hrg1.kept (set_grown _ S0 cn _) (by simp; omega) (by simp)).alloc _, ?_, ?_⟩
            · have h1 : Below w.heap.size w w4 := HBq.out.grown hg1 HBq.out.size (by intro r hr; cases hr; omega)
              have h2 := h1.setCell (p := ⟨S0, cn, none⟩) (by show _ ≤ S0; omega) (.int .i64 ((q : Int) + 1))
              exact h2.alloc h2.size _
            · rw [Below.heap_alloc _ _ _ (by simpa using l4), blk_set hx4, hq, List.setIfInBounds_toArray, ← List.map_set, outB_set HStep.out]
          have HMs : Hid (((w4.setCell ⟨S0, cn, none⟩ (.int .i64 ((q : Int) + 1))).alloc (.cells #[.int .i64 (cn : Int)] 66)).rangeLeft M (S0 + 1) < wr.rangeLeft M (S0 + 1)) := by
            show _ < _
            rw [((hrg1.kept (set_grown _ S0 cn _) (by simp; omega) (by simp)).alloc _).left_eq, HRg.out.left_eq]; exact hlt
          clear hkx hlx hbx hat hrg1 hlt hg1 hs1 hen I1 I2 hat' hlx' hi hie hcr hx4 hq hle
          go_wp2
          go_roundw
          case rel => exact HNx.out
          case measure => exact HMs.out
end Go.Proofs.Ytjnfnmbkmgjdlaa
