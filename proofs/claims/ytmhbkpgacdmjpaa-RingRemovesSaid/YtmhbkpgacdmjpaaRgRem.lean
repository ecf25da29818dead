/- slices.DeleteFunc at []Spot with a closure that captures one variable; ring.Remove. -/
import Derived.Test.YtmhbkpgacdmjpaaRgAddR
import Derived.Test.YtmhbkpgacdmjpaaClear
import Derived.Test.YtmhbkpgacdmjpaaIxcSp
namespace Go.Proofs.Ytmhbkpgacdmjpaa
open Go.RowKit
theorem filt_take_no {X : List Sp} {p : Sp → Bool} {k : Nat} {s : Sp} (hs : s = X.getD k Sp.zero) (hk : k < X.length) (h : p s = true) : (X.take (k + 1)).filter (fun x => !p x) = (X.take k).filter (fun x => !p x) := by
  rw [List.take_succ_eq_append_getElem hk, List.filter_append]
  have e : X[k] = s := by rw [hs]; simp [List.getD, hk]
  simp [e, h]
theorem filt_take_yes {X : List Sp} {p : Sp → Bool} {k : Nat} {s : Sp} (hs : s = X.getD k Sp.zero) (hk : k < X.length) (h : p s = false) : (X.take (k + 1)).filter (fun x => !p x) = (X.take k).filter (fun x => !p x) ++ [s] := by
  rw [List.take_succ_eq_append_getElem hk, List.filter_append]
  have e : X[k] = s := by rw [hs]; simp [List.getD, hk]
  simp [e, h]
theorem drop_getD {X Y : List Sp} {j : Nat} (h : Y.drop j = X.drop j) : Y.getD j Sp.zero = X.getD j Sp.zero := by
  have := congrArg (fun l => l.getD 0 Sp.zero) h
  simpa [List.getD, List.getElem?_drop] using this
theorem set_take_snoc {Y : List Sp} {i : Nat} (s : Sp) (h : i < Y.length) : (Y.set i s).take (i + 1) = Y.take i ++ [s] := by
  rw [List.take_succ_eq_append_getElem (by simpa using h), List.take_set, List.set_eq_of_length_le (by rw [List.length_take]; omega)]
  simp
theorem set_drop {Y : List Sp} {i j : Nat} (s : Sp) (h : i < j) : (Y.set i s).drop j = Y.drop j := by
  rw [List.drop_set, if_pos h]
theorem spcell_at (Y : List Sp) {k : Nat} (h : k < Y.length) : (Y.map Sp.cells).flatten[k * 2]? = some (.int .i64 (Y.getD k Sp.zero).hash) ∧ (Y.map Sp.cells).flatten[k * 2 + 1]? = some (.int .i64 (Y.getD k Sp.zero).backend) := by
  have e : Y = Y.take k ++ Y.getD k Sp.zero :: Y.drop (k + 1) := by
    have : Y.getD k Sp.zero = Y[k] := by simp [List.getD, h]
    rw [this, List.getElem_cons_drop, List.take_append_drop]
  have := flat_at0 (Y.take k) (Y.drop (k + 1)) (Y.getD k Sp.zero) (k := k) (by rw [List.length_take]; omega)
  rw [← e] at this
  exact this
theorem flatten_take2 (Y : List Sp) (i : Nat) : (Y.map Sp.cells).flatten.take (i * 2) = ((Y.map Sp.cells).take i).flatten := by
  induction Y generalizing i with
  | nil => simp
  | cons y Y ih =>
    cases i with
    | zero => simp
    | succ i =>
      simp only [List.map_cons, List.flatten_cons, List.take_succ_cons, Sp.cells, List.cons_append, List.nil_append]
      rw [show (i + 1) * 2 = i * 2 + 1 + 1 by omega, List.take_succ_cons, List.take_succ_cons]
      have := ih i
      rw [this]
def DelRel (B : Nat) (w wr : World) (g cap : Nat) (X : List Sp) (p : Sp → Bool) (i j : Nat) : Prop := Below B w wr ∧ ∃ Y : List Sp, Y.length = X.length ∧ Y.take i = (X.take j).filter (fun x => !p x) ∧ Y.drop j = X.drop j ∧ wr.ownsRow B 45 2 (.slice (some ⟨g, 0, none⟩) X.length cap) X.length (Y.map Sp.cells).flatten
def DelPost (B : Nat) (w : World) (Z : List Sp) (e : Ending) (w' : World) : Prop := ∃ v, e = .returned v ∧ w'.ownsRow B 45 2 v Z.length (Z.map Sp.cells).flatten ∧ Below B w w'

set_option maxHeartbeats 4000000 in
set_option maxRecDepth 100000 in
theorem delSp (B N : Nat) (cp : Addr) (hN : ∀ args w, (callFunc N args).run Try.prog w = .ok (.enter N args) w) (p : Sp → Bool) (v : Value) (X : List Sp) (w : World) (hB : B ≤ w.heap.size) (hown : w.ownsRow B 45 2 v X.length (X.map Sp.cells).flatten) (hn : X.length ≤ 4611686018427387903)
    (hf : ∀ x ∈ X, ∀ w', Below B w w' → Calls Try.prog N #[Sp.agg x, .pointer (some cp)] w' fun e w'' => e = .returned (.bool (p x)) ∧ Below w'.heap.size w' w'') :
    Calls Try.prog 26 #[v, .func (.func N) #[] #[.pointer (some cp)]] w (DelPost B w (X.filter fun x => !p x)) := by
  obtain ⟨i0, hi, hi0, hi1, hi2⟩ := info_parts infoc_Sp
  have hr := RowAt_of_owns hown (by rw [List.length_map]) (lenc_Sp _)
  have K := Lib.hid (ixcSp_any N cp hN p v X w hr hn (fun x hx w' hb => hf x hx w' (hb.mono hB)))
  have HF := Lib.hid hf
  have HO := Lib.hid hown
  clear hf hr
  rcases idxOf_cases p X Sp.zero with ⟨he, hnone⟩ | ⟨i, hil, he, hpi, hbef⟩
  · rw [he] at K
    have HX := Lib.hid (show X.filter (fun x => !p x) = X from List.filter_eq_self.2 fun x hx => by rw [hnone x hx]; rfl)
    obtain ⟨a, c, rfl, _⟩ := owns_shape hown
    clear hown hnone he
    go_enter Try.func26, Try.ntmps26
    go_wp2_with fail
    refine K.out.mono ?_
    rintro e w1 ⟨rfl, hb1⟩
    have HB1 := Lib.hid (hb1.mono hB)
    have HO1 := Lib.hid (own_keep HO.out hb1)
    clear hb1
    go_wp2
    go_ret
    exact ⟨_, rfl, by rw [HX.out]; exact HO1.out, HB1.out⟩
  · rw [he] at K
    rcases owns_news hown with ⟨_, h0⟩ | ⟨g, c, rfl, _⟩
    · omega
    have hgB := (hown.lt _ rfl).1
    have HE := Lib.hid (show (X.take i).filter (fun x => !p x) = X.take i from List.filter_eq_self.2 fun x hx => by rw [hbef x hx]; rfl)
    have HPI := Lib.hid hpi
    clear hown hbef he hpi
    go_enter Try.func26, Try.ntmps26
    go_wp2_with fail
    refine K.out.mono ?_
    rintro e w1 ⟨rfl, hb1⟩
    have HB1 := Lib.hid (hb1.mono hB)
    have HO1 := Lib.hid (own_keep HO.out hb1)
    have hm1 : ((i : Int) == -1) = false := by rw [beq_eq_false_iff_ne]; omega
    clear hb1 HO K
    go_wp2_with fail
    go_loopw [5, 6] (fun a b wr => ∃ i j : Nat, a = .int .i64 i ∧ b = .int .i64 j ∧ i < j ∧ j ≤ X.length ∧ DelRel B w wr g c X p i j) (fun _ b _ => X.length - (intOf b).toNat)
    case atStart => exact ⟨i, i + 1, rfl, by go_num, by omega, by omega, HB1.out, X, rfl, by rw [filt_take_no rfl hil HPI.out, HE.out], rfl, HO1.out⟩
    case round =>
      clear HB1 HO1 HE HPI hm1 hil
      obtain ⟨i, j, rfl, rfl, hij, hj, hb, Y, hY, hYt, hYd, hown⟩ := hrel
      have HB := Lib.hid hb
      have HO := Lib.hid hown
      have HT := Lib.hid hYt
      have HD := Lib.hid hYd
      have HY := Lib.hid hY
      have hYl : Y.length ≤ X.length := by omega
      have hYl2 : X.length ≤ Y.length := by omega
      have gl := (hown.lt _ rfl).2
      clear hb hYt hYd hY
      rcases (show j < X.length ∨ j = X.length by omega) with hlt | rfl
      · have hlt' : (j : Int) < (X.length : Int) := by omega
        have p0 : (0 : Int) ≤ (j : Int) := by omega
        have q0 : (0 : Int) ≤ (i : Int) := by omega
        have q1 : (i : Int) < (X.length : Int) := by omega
        obtain ⟨s, hs⟩ : ∃ s, s = X.getD j Sp.zero := ⟨_, rfl⟩
        have hsY : Y.getD j Sp.zero = s := by rw [hs]; exact drop_getD HD.out
        have c0 := spcell_at Y (k := j) (by omega)
        have c1 := spcell_at Y (k := i) (by omega)
        rw [hsY] at c0
        have hlen : (Y.map Sp.cells).flatten.length = X.length * 2 := hown.1
        have a0 := (hown.cellAt (j * 2) (by omega)).trans c0.1
        have a1 := (hown.cellAt (j * 2 + 1) (by omega)).trans c0.2
        have HC := Lib.hid (HF.out s (by rw [hs]; exact getD_mem X _ hlt))
        have HS := Lib.hid hs
        have h2i : i * 2 + 1 < X.length * 2 := by omega
        clear hown hs hsY c0 c1 hlen
        obtain ⟨s0, s1⟩ := s
        simp only [Sp.agg] at HC
        simp only at a0 a1
        go_wp2_with fail
        refine (HC.out _ (HB.out.alloc (by have := HB.out.size; omega) _)).mono ?_
        rintro e w2 ⟨rfl, hb2⟩
        have hz2 := hb2.size
        simp at hz2
        have HB2 := Lib.hid ((HB.out.alloc (by have := HB.out.size; omega) (.cells #[.int .i64 s0, .int .i64 s1] 45)).trans (hb2.mono (by simp; have := HB.out.size; omega)))
        have HO2 := Lib.hid (own_keep (HO.out.alloc (.cells #[.int .i64 s0, .int .i64 s1] 45)) hb2)
        have v0 : w2.cell? ⟨wr.heap.size, 0, none⟩ = some (.int .i64 s0) := by rw [hb2.cell (p := ⟨wr.heap.size, 0, none⟩) (by simp)]; go_simp
        have v1 : w2.cell? ⟨wr.heap.size, 1, none⟩ = some (.int .i64 s1) := by rw [hb2.cell (p := ⟨wr.heap.size, 1, none⟩) (by simp)]; go_simp
        clear hb2 HB HO HC a0 a1
        by_cases hp : p ⟨s0, s1⟩ = true
        · have HT2 := Lib.hid (filt_take_no HS.out hlt hp)
          simp only [hp]
          clear hp
          go_wp2
          go_roundw
          case rel => exact ⟨i, j + 1, rfl, by go_num, by omega, by omega, HB2.out, Y, HY.out, by rw [HT2.out]; exact HT.out, by rw [← List.drop_drop, HD.out, List.drop_drop], HO2.out⟩
          case measure => simp [intOf]; omega
        · have hp' : p ⟨s0, s1⟩ = false := by simpa using hp
          have HT2 := Lib.hid (filt_take_yes HS.out hlt hp')
          simp only [hp']
          clear hp hp'
          have c1 := spcell_at Y (k := i) (by omega)
          have d0 := (HO2.out.cellAt (i * 2) (by omega)).trans c1.1
          have d1 := (HO2.out.cellAt (i * 2 + 1) (by omega)).trans c1.2
          have f0 := HO2.out.frozenAt (i * 2)
          have f1 := HO2.out.frozenAt (i * 2 + 1)
          clear c1
          go_wp2
          go_roundw
          case measure => simp [intOf]; omega
          case rel =>
            refine ⟨i + 1, j + 1, by go_num, by go_num, by omega, by omega, (HB2.out.setCell (by simp; omega) _).setCell (by simp; omega) _, Y.set i ⟨s0, s1⟩, by rw [List.length_set]; exact HY.out, ?_, ?_, ?_⟩
            · rw [HT2.out, set_take_snoc _ (by omega), HT.out]
            · rw [set_drop _ (by omega), ← List.drop_drop, HD.out, List.drop_drop]
            · rw [← flat_set2 Y i ⟨s0, s1⟩ (by omega)]
              exact ((HO2.out.stored _ _).1.stored _ _).1
      · have hge : ¬ ((X.length : Nat) : Int) < (X.length : Int) := by omega
        have HZ := Lib.hid (show Y.take i = X.filter (fun x => !p x) by rw [HT.out, List.take_of_length_le (Nat.le_refl _)])
        have q0 : (0 : Int) ≤ (i : Int) := by omega
        have q1 : (i : Int) ≤ (X.length : Int) := by omega
        clear hown
        have q2 : i < X.length := by omega
        have hcap : i < c := by have := (own_cap HO.out).1; omega
        have hcap2 : ¬ c = i := by omega
        obtain ⟨W2, hcl, _, _, hb2, hown2⟩ := clear_rest (w := wr) 22 45 0 (.agg #[.int .i64 0, .int .i64 0]) 2 g X.length c i (c - i) B Try.underlying22 hi hi0 rfl (by decide) HO.out (by omega)
        have HB2 := Lib.hid (HB.out.trans hb2)
        have HO2 := Lib.hid hown2
        clear hb2 hown2
        go_wp2_with fail
        go_ret
        have hlz : (X.filter (fun x => !p x)).length = i := by rw [← HZ.out, List.length_take]; omega
        refine ⟨_, rfl, ?_, HB2.out⟩
        rw [hlz, ← HZ.out, List.map_take, ← flatten_take2]
        exact HO2.out

set_option maxHeartbeats 1000000 in
theorem prog_RmF (s : Sp) (b : Int) (q : Nat) (w : World) (h : w.cell? ⟨q, 0, none⟩ = some (.int .i64 b)) : Calls Try.prog 27 #[Sp.agg s, .pointer (some ⟨q, 0, none⟩)] w fun e w' => e = .returned (.bool (s.backend == b)) ∧ Below w.heap.size w w' := by
  have hq := cell_lt h
  obtain ⟨x, y⟩ := s
  unfold Sp.agg
  simp only
  go_enter Try.func27, Try.ntmps27
  go_wp2
  all_goals (go_ret; exact ⟨rfl, (by repeat (first | (with_reducible exact Below.refl _ _) | (with_reducible assumption) | (with_reducible refine Below.drew ?_) | (with_reducible refine Below_drewN ?_) | (with_reducible refine Below.alloc ?_ (by first | omega | (simp; done) | (simp; omega)) _) | (with_reducible refine Below.setCell ?_ (by first | omega | (simp; done) | (simp; omega)) _) | (with_reducible refine Below.trans ?_ (Below.mono (by assumption) (by first | omega | (simp; done) | (simp; omega))))))⟩)

set_option maxHeartbeats 4000000 in
set_option maxRecDepth 100000 in
theorem prog_RgRem (v : Value) (X : List Sp) (w : World) (b : Int) (L : List Sp) (c : Int) (r : RowAt w 2 v (X.map Sp.cells)) (hn : X.length * 16 ≤ 140737488351232) (ha : RemAns X b L c) : Calls Try.prog 13 #[.agg #[v], .int .i64 b] w (RgCPost w L c) := by
  have R := Lib.hid r
  obtain ⟨a, cp, rfl, _⟩ := RowAt_shape r
  have HA := Lib.hid ha
  clear r ha
  go_enter Try.func13, Try.ntmps13
  go_wp2_with fail
  refine (prog_weights _ X _ (RowAt_alloc (RowAt_alloc (RowAt_alloc R.out _) _) _) hn).mono ?_
  rintro e w1 ⟨W, bo, hW, rfl, h1, h2, hb⟩
  have HB := Lib.hid (((((Below.refl w.heap.size w).alloc (Nat.le_refl _) _).alloc (by simp) _).alloc (by simp; omega) _).trans (hb.mono (by simp; omega)))
  have hz1 := hb.size
  simp at hz1
  have k0 : w.heap.size < w1.heap.size := by omega
  have k1 : w.heap.size + 1 < w1.heap.size := by omega
  have k2 : w.heap.size + 1 + 1 < w1.heap.size := by omega
  have g0 : w1.cell? ⟨w.heap.size, 0, none⟩ = some (.slice a X.length cp) := by rw [hb.cell (p := ⟨w.heap.size, 0, none⟩) (by first | omega | (simp; done) | (simp; omega))]; go_simp
  have g3 : w1.cell? ⟨w.heap.size + 1, 0, none⟩ = some (.int .i64 b) := by rw [hb.cell (p := ⟨w.heap.size + 1, 0, none⟩) (by first | omega | (simp; done) | (simp; omega))]; go_simp
  have g1 : w1.cell? ⟨w.heap.size + 1 + 1, 0, none⟩ = some (.slice none 0 0) := by rw [hb.cell (p := ⟨w.heap.size + 1 + 1, 0, none⟩) (by first | omega | (simp; done) | (simp; omega))]; go_simp
  have g2 : w1.frozen? ⟨w.heap.size + 1 + 1, 0, none⟩ = false := by rw [hb.frozen (p := ⟨w.heap.size + 1 + 1, 0, none⟩) (by first | omega | (simp; done) | (simp; omega))]; go_simp
  have H1 := Lib.hid h1
  have H2 := Lib.hid h2
  have HW := Lib.hid hW
  clear hb h1 h2 hW
  rcases HA.out with ⟨hm, rfl, rfl⟩ | ⟨hm, hs, rfl, rfl⟩ | ⟨n, hm, rfl, hn12, hs⟩
  · have := H2.out hm
    subst this
    clear hm HA
    go_wp2_with (refine wpList_store_rowF rfl 39 (.tmp 6) (.tmp 12) rfl w1.heap.size (ar12 W) rfl rfl 39 (ar12 (List.replicate 12 0)) (heap_at _ rfl) (ar12_info HW.out) (by rw [ar12_size HW.out]; rfl) (ar12_one _) ?_; intro W2 hW2 _ hs2 hb2; obtain ⟨hc2, hf2⟩ := bcell hb2; have hb2' := Lib.hid ((HB.out.alloc (by omega) _).trans (hb2.mono (by omega))); clear hb2; simp at hs2)
    all_goals (refine bodyPost_ret (v := .tuple #[.agg #[.slice none 0 0], .int .i64 6]) ?_ rfl (RgCPost.nil (hb2'.out.setCell (by first | omega | (simp; done) | (simp; omega)) _)); (simp [results, Try.results13, go_sem, *]; done))
  · obtain ⟨rfl, rfl⟩ := H1.out hm
    clear hm HA
    rcases (show b < 0 ∨ (¬ b < 0 ∧ 12 ≤ b) by omega) with h | ⟨h, ha⟩
    all_goals
      clear hs
      go_wp2_with (refine wpList_store_rowF rfl 39 (.tmp 6) (.tmp 12) rfl w1.heap.size (ar12 (mixK X 12)) rfl rfl 39 (ar12 (List.replicate 12 0)) (heap_at _ rfl) (ar12_info HW.out) (by rw [ar12_size HW.out]; rfl) (ar12_one _) ?_; intro W2 hW2 _ hs2 hb2; obtain ⟨hc2, hf2⟩ := bcell hb2; have hb2' := Lib.hid ((HB.out.alloc (by omega) _).trans (hb2.mono (by omega))); clear hb2; simp at hs2)
      all_goals (refine bodyPost_ret (v := .tuple #[.agg #[.slice none 0 0], .int .i64 8]) ?_ rfl (RgCPost.nil (hb2'.out.setCell (by first | omega | (simp; done) | (simp; omega)) _)); (simp [results, Try.results13, go_sem, *]; done))
  · obtain ⟨rfl, rfl⟩ := H1.out hm
    have hWn : (mixK X 12)[n]? = some (((rgW X).getD n 0 : Nat) : Int) := by rw [mixK_get X 12 hn12, if_pos hn12, rgW_get X hn12]
    have HWn := Lib.hid hWn
    have HM := Lib.hid hm
    have a1 : ¬ (n : Int) < 0 := by omega
    have a2 : ¬ 12 ≤ (n : Int) := by omega
    have a5 : (n : Int) < 12 := by omega
    have a6 : 0 ≤ (n : Int) := by omega
    obtain ⟨q, hq⟩ : ∃ q, q = (rgW X).getD n 0 := ⟨_, rfl⟩
    rw [← hq] at HWn hs
    clear hm hWn HA hq
    rcases hs with ⟨rfl, rfl, rfl⟩ | ⟨hp, rfl, rfl⟩
    · --DEF CO 8
      go_wp2_with ((refine wpList_store_rowF rfl 39 (.tmp 6) (.tmp 12) rfl w1.heap.size (ar12 (mixK X 12)) rfl rfl 39 (ar12 (List.replicate 12 0)) (heap_at _ rfl) (ar12_info HW.out) (by rw [ar12_size HW.out]; rfl) (ar12_one _) ?_; intro W2 hW2 _ hs2 hb2; obtain ⟨hc2, hf2⟩ := bcell hb2; have hb2' := Lib.hid ((HB.out.alloc (by omega) _).trans (hb2.mono (by omega))); clear hb2; simp at hs2); have e1 := (blk_cell hW2 n).trans (ar12_get HWn.out))
      all_goals (refine bodyPost_ret (v := .tuple #[.agg #[.slice none 0 0], .int .i64 8]) ?_ rfl (RgCPost.nil (hb2'.out.setCell (by first | omega | (simp; done) | (simp; omega)) _)); (simp [results, Try.results13, go_sem, *]; done))
    · have hp1 : ((q : Int) == 0) = false := by rw [beq_eq_false_iff_ne]; omega
      have hp2 : ¬ (q : Int) = 0 := by omega
      go_wp2_with ((refine wpList_store_rowF rfl 39 (.tmp 6) (.tmp 12) rfl w1.heap.size (ar12 (mixK X 12)) rfl rfl 39 (ar12 (List.replicate 12 0)) (heap_at _ rfl) (ar12_info HW.out) (by rw [ar12_size HW.out]; rfl) (ar12_one _) ?_; intro W2 hW2 _ hs2 hb2; obtain ⟨hc2, hf2⟩ := bcell hb2; have hb2' := Lib.hid ((HB.out.alloc (by omega) _).trans (hb2.mono (by omega))); clear hb2; simp at hs2); have e1 := (blk_cell hW2 n).trans (ar12_get HWn.out))
      have eg : ∀ args w, (callFunc 27 args).run Try.prog w = .ok (.enter 27 args) w := enters_of Try.func27 (by kernel_rfl) rfl
      have EG := Lib.hid eg
      clear eg
      refine (cloneSp _ X _ (RowAt_below R.out hb2'.out) hn).mono ?_
      rintro e w3 ⟨v3, rfl, hown3, hb3⟩
      have hs3 := hb3.size
      have HB3 := Lib.hid (hb2'.out.trans (hb3.mono (by omega)))
      have HO3 := Lib.hid hown3
      have d0 : w3.cell? ⟨w.heap.size + 1, 0, none⟩ = some (.int .i64 (n : Int)) := by rw [hb3.cell (p := ⟨w.heap.size + 1, 0, none⟩) (by simp; omega), hc2 _ _ k1]; go_simp
      have d1 : w3.cell? ⟨w.heap.size + 1 + 1, 0, none⟩ = some (.slice none 0 0) := by rw [hb3.cell (p := ⟨w.heap.size + 1 + 1, 0, none⟩) (by simp; omega), hc2 _ _ k2]; go_simp
      have d2 : w3.frozen? ⟨w.heap.size + 1 + 1, 0, none⟩ = false := by rw [hb3.frozen (p := ⟨w.heap.size + 1 + 1, 0, none⟩) (by simp; omega), hf2 _ _ k2]; go_simp
      obtain ⟨a3', c3', rfl, _⟩ := owns_shape hown3
      have hlm := RgMay.len HM.out
      clear hb3 hown3 hc2 hf2 e1 g0 g1 g2 g3 hW2
      go_wp2_with fail
      refine (delSp W2.heap.size 27 ⟨w.heap.size + 1, 0, none⟩ EG.out (fun s => s.backend == (n : Int)) _ X _ hs3 HO3.out (by omega) (fun x _ w' hb' => prog_RmF x n _ w' (cell_below hb' d0 (by omega)))).mono ?_
      rintro e w4 ⟨v4, rfl, hown4, hb4⟩
      have hs4 := hb4.size
      have HB4 := Lib.hid (HB3.out.trans (hb4.mono (by omega)))
      have d1 := cell_below hb4 d1 (by omega)
      have d2 : w4.frozen? ⟨w.heap.size + 1 + 1, 0, none⟩ = false := (hb4.frozen (p := ⟨w.heap.size + 1 + 1, 0, none⟩) (by simp; omega)).trans d2
      rw [ringOf_unset HM.out hn12] at hown4
      have HN4 := Lib.hid (RowNew_of_owns hown4 (by rw [List.length_map]) (lenc_Sp _))
      obtain ⟨a4, c4, rfl, _⟩ := owns_shape hown4
      clear hown4 hb4 HO3 d0
      go_wp2
      refine bodyPost_ret (v := .tuple #[.agg #[.slice a4 (ringOf ((rgW X).set n 0)).length c4], .int .i64 0]) ?_ rfl ⟨_, rfl, RowNew_mono (RowNew_setCell HN4.out (by simp; omega) _) (by omega), HB4.out.setCell (by first | omega | (simp; done) | (simp; omega)) _⟩
      simp [results, Try.results13, go_sem, *]
end Go.Proofs.Ytmhbkpgacdmjpaa
