/- wheel.Cancel. -/
import Derived.Test.YthgfiadfpgfjdaaWhSet
import Derived.Test.YthgfiadfpgfjdaaWhFi
namespace Go.Proofs.Ythgfiadfpgfjdaa
open Go.RowKit
def WhAns (w : World) (now : Int) (LL : List (List Tm)) (c : Int) (e : Ending) (w' : World) : Prop := ∃ v, e = .returned (.tuple #[.agg #[.int .i64 now, v], .int .i64 c]) ∧ LsNew w.heap.size w' v LL ∧ Below w.heap.size w w'
theorem LsNew_nil (B : Nat) (w : World) : LsNew B w (.slice none 0 0) [] := OwnLs_new (OwnLs_nil B w)
theorem WhAns.nil {w w' : World} {c : Int} (hb : Below w.heap.size w w') : WhAns w 0 [] c (.returned (.tuple #[.agg #[.int .i64 0, .slice none 0 0], .int .i64 c])) w' := ⟨_, rfl, LsNew_nil _ _, hb⟩
/-- What Cancel answers (P3.5). -/
def CanAns (now : Int) (LL : List (List Tm)) (id : Int) (now' : Int) (LL' : List (List Tm)) (c : Int) : Prop :=
  (¬ WhMay now LL ∧ now' = 0 ∧ LL' = [] ∧ c = 6) ∨
  (WhMay now LL ∧ (∀ t ∈ LL.flatten, ¬ t.id = id) ∧ now' = 0 ∧ LL' = [] ∧ c = 8) ∨
  (WhMay now LL ∧ (∃ t ∈ LL.flatten, t.id = id) ∧ now' = now ∧ LL' = wheelOf now (LL.flatten.filter fun t => !(t.id == id)) ∧ c = 0)
theorem CanAns.no {now : Int} {LL : List (List Tm)} {id now' : Int} {LL' : List (List Tm)} {c : Int} (h : CanAns now LL id now' LL' c) (hm : ¬ WhMay now LL) : now' = 0 ∧ LL' = [] ∧ c = 6 := by
  rcases h with ⟨_, h⟩ | ⟨h, _⟩ | ⟨h, _⟩
  · exact h
  · exact absurd h hm
  · exact absurd h hm
theorem CanAns.none {now : Int} {LL : List (List Tm)} {id now' : Int} {LL' : List (List Tm)} {c : Int} (h : CanAns now LL id now' LL' c) (hm : WhMay now LL) (hn : ∀ t ∈ LL.flatten, ¬ t.id = id) : now' = 0 ∧ LL' = [] ∧ c = 8 := by
  rcases h with ⟨h, _⟩ | ⟨_, _, h⟩ | ⟨_, ⟨t, ht, e⟩, _⟩
  · exact absurd hm h
  · exact h
  · exact absurd e (hn t ht)
theorem CanAns.some {now : Int} {LL : List (List Tm)} {id now' : Int} {LL' : List (List Tm)} {c : Int} (h : CanAns now LL id now' LL' c) (hm : WhMay now LL) (hn : ∃ t ∈ LL.flatten, t.id = id) : now' = now ∧ LL' = wheelOf now (LL.flatten.filter fun t => !(t.id == id)) ∧ c = 0 := by
  rcases h with ⟨h, _⟩ | ⟨_, h, _⟩ | ⟨_, _, h⟩
  · exact absurd hm h
  · obtain ⟨t, ht, e⟩ := hn; exact absurd e (h t ht)
  · exact h
set_option maxHeartbeats 4000000 in
set_option maxRecDepth 100000 in
theorem prog_Cancel (lv : Value) (now : Int) (LL : List (List Tm)) (id : Int) (w : World) (r : LsAt w lv LL) (hn : LL.length ≤ 1048576) (hs : LL.flatten.length ≤ 1048576) (now' : Int) (LL' : List (List Tm)) (c : Int) (ha : CanAns now LL id now' LL' c) :
    Calls Try.prog 10 #[.agg #[.int .i64 now, lv], .int .i64 id] w (WhAns w now' LL' c) := by
  obtain ⟨a, cp, rfl⟩ := LsAt_shape r
  have R2 := Lib.hid (LsAt_below r ((Below.alloc (Below.refl _ _) (Nat.le_refl _) (.cells #[.int .i64 now, .slice a LL.length cp] 24)).alloc (by simp) (.cells #[.int .i64 0, .slice none 0 0] 24)))
  have HS := Lib.hid (fun k (h : k < LL.length) => Nat.le_trans (sum_mem_le h) hs)
  have HA := Lib.hid ha
  clear r hs ha
  go_enter Try.func10, Try.ntmps10
  go_wp2_with (go_at_call 15; refine (prog_open _ now LL _ R2.out (by omega) (fun i hi => by have := HS.out i hi; omega)).mono ?_)
  rintro e w1 (⟨q, vl, V, rfl, hm, hq, hq2, hqb, hown, hb1⟩ | ⟨rfl, hm, hb1⟩)
  rotate_left
  · obtain ⟨rfl, rfl, rfl⟩ := HA.out.no hm
    obtain ⟨hc1, hf1⟩ := bcell hb1
    go_wp2
    refine bodyPost_ret (v := .tuple #[.agg #[.int .i64 0, .slice none 0 0], .int .i64 6]) ?_ rfl (WhAns.nil (by repeat (first | (with_reducible exact Below.refl _ _) | (with_reducible assumption) | (with_reducible refine Below.drew ?_) | (with_reducible refine Below_drewN ?_) | (with_reducible refine Below.alloc ?_ (by first | omega | (simp; done) | (simp; omega)) _) | (with_reducible refine Below.setCell ?_ (by first | omega | (simp; done) | (simp; omega)) _) | (with_reducible refine Below.trans ?_ (Below.mono (by assumption) (by first | omega | (simp; done) | (simp; omega)))))))
    simp [results, Try.results10, go_sem, *]
  · have h25 := hm.2.2.1
    have HM := Lib.hid hm
    have HW := Lib.hid hqb
    have HO := Lib.hid hown
    have HB1 : Hid (Below w.heap.size w w1) := Below.trans ((by repeat (first | (with_reducible exact Below.refl _ _) | (with_reducible assumption) | (with_reducible refine Below.drew ?_) | (with_reducible refine Below_drewN ?_) | (with_reducible refine Below.alloc ?_ (by first | omega | (simp; done) | (simp; omega)) _) | (with_reducible refine Below.setCell ?_ (by first | omega | (simp; done) | (simp; omega)) _) | (with_reducible refine Below.trans ?_ (Below.mono (by assumption) (by first | omega | (simp; done) | (simp; omega)))))) : Below w.heap.size w _) (hb1.mono (by simp; omega))
    have hz1 := hb1.size
    have x0 : w1.cell? ⟨q, 0, none⟩ = some (.int .i64 now) := blk_cell hqb 0
    have x1 : w1.cell? ⟨q, 1, none⟩ = some vl := blk_cell hqb 1
    simp at hq hz1
    have y0 : w1.cell? ⟨w.heap.size + 1, 0, none⟩ = some (.int .i64 0) := cell_below hb1 (by go_simp) (by simp)
    have y1 : w1.cell? ⟨w.heap.size + 1, 1, none⟩ = some (.slice none 0 0) := cell_below hb1 (by go_simp) (by simp)
    have f0 : ∀ n, w1.frozen? ⟨w.heap.size + 1, n, none⟩ = false := fun n => (hb1.frozen (p := ⟨w.heap.size + 1, n, none⟩) (by simp)).trans (by go_simp)
    have HLn := Lib.hid h25
    have HSz := Lib.hid (fun i (h : i < LL.length) => Nat.le_trans (HS.out i h) (Nat.le_refl 1048576))
    clear hm hqb hown hb1
    go_wp2_with (go_at_call 17; refine (prog_whfind q now vl id LL _ HW.out (OwnLs_new HO.out).at_ HSz.out).mono ?_)
    rintro e w2 (⟨rfl, hnone, hb2⟩ | ⟨i, k, rfl, hi, hk, hid, hb2⟩)
    · obtain ⟨rfl, rfl, rfl⟩ := HA.out.none HM.out (fun t ht => by obtain ⟨m, hm, ht⟩ := mem_flat.1 ht; exact hnone m hm t ht)
      have y0 := cell_below' hb2 y0
      have y1 := cell_below' hb2 y1
      have f0 : ∀ n, w2.frozen? ⟨w.heap.size + 1, n, none⟩ = false := fun n => (hb2.frozen (p := ⟨w.heap.size + 1, n, none⟩) (by simp; omega)).trans (f0 n)
      have HB2 := Lib.hid (HB1.out.trans (hb2.mono HB1.out.size))
      clear hnone
      go_wp2
      refine bodyPost_ret (v := .tuple #[.agg #[.int .i64 0, .slice none 0 0], .int .i64 8]) ?_ rfl (WhAns.nil ((HB2.out.setCell (by simp) _).setCell (by simp) _))
      simp [results, Try.results10, go_sem, *]
    · have hi25 : i < 25 := by omega
      obtain ⟨rfl, rfl, rfl⟩ := HA.out.some HM.out ⟨_, mem_flat.2 ⟨i, hi, tm_mem rfl hk⟩, hid⟩
      have HE := Lib.hid (wh_less HM.out hi25 hk hid)
      have y0 := cell_below' hb2 y0
      have y1 := cell_below' hb2 y1
      have x0 := cell_below' hb2 x0
      have x1 := cell_below' hb2 x1
      have f0 : ∀ n, w2.frozen? ⟨w.heap.size + 1, n, none⟩ = false := fun n => (hb2.frozen (p := ⟨w.heap.size + 1, n, none⟩) (by simp; omega)).trans (f0 n)
      have HB2 := Lib.hid (HB1.out.trans (hb2.mono HB1.out.size))
      have HO2 := Lib.hid (OwnLs_below HO.out hb2)
      have hz2 := hb2.size
      clear hb2 HO HW HSz hid
      obtain ⟨hV, hro, hrw, hd4, hd5⟩ := HO2.out
      rcases owns_news hro with ⟨_, h0⟩ | ⟨g0, c0, rfl, _⟩
      · omega
      have hg0 := hro.lt g0 rfl
      have HRo := Lib.hid hro
      have qg : ¬ q = g0 := by omega
      have gq : ¬ g0 = q := by omega
      have hg1 : ¬ g0 = w.heap.size + 1 := by omega
      have hg2 : ¬ w.heap.size + 1 = g0 := by omega
      have hq1 : ¬ q = w.heap.size + 1 := by omega
      have hq2' : ¬ w.heap.size + 1 = q := by omega
      have l1 := hro.cellAt i (by omega)
      have hVi : V[i]? = some (V.getD i undef) := by rw [List.getD_eq_getElem?_getD, List.getElem?_eq_getElem (by omega)]; rfl
      rw [hVi] at l1
      have lf := hro.frozenAt i
      have HD4 := Lib.hid (hd4 i hi)
      have HRw := Lib.hid (hrw i hi)
      obtain ⟨vk, hvk⟩ : ∃ vk, vk = V.getD i undef := ⟨_, rfl⟩
      obtain ⟨A, hA⟩ : ∃ A, A = LL.getD i [] := ⟨_, rfl⟩
      have hA2 : A.length ≤ 1048576 := by rw [hA]; exact HS.out i hi
      have HVk := Lib.hid hvk
      have HAk := Lib.hid hA
      rw [← hvk] at l1 HD4 HRw
      rw [← hA] at HRw hk HE
      obtain ⟨ak, ck, rfl, _⟩ := owns_shape HRw.out
      have i0 : (0 : Int) ≤ (i : Int) := by omega
      have i1 : (i : Int) < (LL.length : Int) := by omega
      have i2 : (i : Int) < 25 := by omega
      have k0 : ¬ (i : Int) < 0 := by omega
      have hwk : IntKind.i64.wrap ((k : Int) + 1) = (k : Int) + 1 := by rw [IntKind.wrap_i64]; omega
      clear hro hrw hd4 hd5 hV hVi hvk hA
      go_wp2_with fail
      (refine wp_region_noPanic ?_; refine wp_region_held_drew (S := fun w' : World => w'.cell? ⟨q, 1, none⟩ = some (.slice (some ⟨g0, 0, none⟩) LL.length c0)) (by kernel_rfl) ?q1xb (fun hHeld => ?_); (case q1xb => ((try dsimp only); ((go_split_ands; (try dsimp only); (repeat' apply And.intro); all_goals (repeat (first | with_reducible assumption | (with_reducible refine (cell_set_ne ?_).trans ?_; omega) | (with_reducible refine cell_alloc _ ?_) | (with_reducible refine cell_drew ?_) | (with_reducible refine cell_drewN _ ?_))))))); refine wpAnyH_take (i := 0) (v := ?q1xv0) (by simp only [List.getElem?_toArray, List.getElem?_cons_zero]; exact rfl) (by kernel_rfl) (by kernel_rfl) (by kernel_rfl) (fun _ _ _ h => h) (Or.inl ⟨by rfl, ?q1xy0⟩) (by assumption) ?_; (case q1xy0 => (intro w hSw; (try dsimp only at hSw); go_simp; (try with_reducible rfl))); (try simp only [Act.put, List.setIfInBounds_toArray, List.set_cons_zero, List.set_cons_succ]); refine wpAnyH_take (i := 1) (v := ?q1xv1) (by simp only [List.getElem?_toArray, List.getElem?_cons_zero, List.getElem?_cons_succ]; exact rfl) (by kernel_rfl) (by kernel_rfl) (by kernel_rfl) (fun _ _ _ h => h) (Or.inl ⟨by rfl, ?q1xy1⟩) (by assumption) ?_; (case q1xy1 => (intro w hSw; (try dsimp only at hSw); go_simp; (try with_reducible rfl))); (try simp only [Act.put, List.setIfInBounds_toArray, List.set_cons_zero, List.set_cons_succ]); refine wpAnyH_take (i := 2) (v := ?q1xv2) (by simp only [List.getElem?_toArray, List.getElem?_cons_zero, List.getElem?_cons_succ]; exact rfl) (by kernel_rfl) (by kernel_rfl) (by kernel_rfl) (fun _ _ _ h => h) (Or.inl ⟨by rfl, ?q1xy2⟩) (by assumption) ?_; (case q1xy2 => (intro w hSw; (try dsimp only at hSw); go_simp; (try with_reducible rfl))); (try simp only [Act.put, List.setIfInBounds_toArray, List.set_cons_zero, List.set_cons_succ]); refine wpAnyH_take (i := 3) (v := ?q1xv3) (by simp only [List.getElem?_toArray, List.getElem?_cons_zero, List.getElem?_cons_succ]; exact rfl) (by kernel_rfl) (by kernel_rfl) (by kernel_rfl) (fun _ _ _ h => h) (Or.inl ⟨by rfl, ?q1xy3⟩) (by assumption) ?_; (case q1xy3 => (intro w hSw; (try dsimp only at hSw); go_simp; (try with_reducible rfl))); (try simp only [Act.put, List.setIfInBounds_toArray, List.set_cons_zero, List.set_cons_succ]); refine wpAnyH_take (i := 4) (v := ?q1xv4) (by simp only [List.getElem?_toArray, List.getElem?_cons_zero, List.getElem?_cons_succ]; exact rfl) (by kernel_rfl) (by kernel_rfl) (by kernel_rfl) (fun _ _ _ h => h) (Or.inl ⟨by rfl, ?q1xy4⟩) (by assumption) ?_; (case q1xy4 => (intro w hSw; (try dsimp only at hSw); go_simp; (try with_reducible rfl))); (try simp only [Act.put, List.setIfInBounds_toArray, List.set_cons_zero, List.set_cons_succ]); refine wpAnyH_take (i := 5) (v := ?q1xv5) (by simp only [List.getElem?_toArray, List.getElem?_cons_zero, List.getElem?_cons_succ]; exact rfl) (by kernel_rfl) (by kernel_rfl) (by kernel_rfl) (fun _ _ _ h => h) (Or.inl ⟨by rfl, ?q1xy5⟩) (by assumption) ?_; (case q1xy5 => (intro w hSw; (try dsimp only at hSw); go_simp; (try with_reducible rfl))); (try simp only [Act.put, List.setIfInBounds_toArray, List.set_cons_zero, List.set_cons_succ]); refine wpAnyH_take (i := 6) (v := ?q1xv6) (by simp only [List.getElem?_toArray, List.getElem?_cons_zero, List.getElem?_cons_succ]; exact rfl) (by kernel_rfl) (by kernel_rfl) (by kernel_rfl) (fun _ _ _ h => h) (Or.inl ⟨by rfl, ?q1xy6⟩) (by assumption) ?_; (case q1xy6 => (intro w hSw; (try dsimp only at hSw); go_simp; (try with_reducible rfl))); (try simp only [Act.put, List.setIfInBounds_toArray, List.set_cons_zero, List.set_cons_succ]); refine wpAnyH_take (i := 7) (v := ?q1xv7) (by simp only [List.getElem?_toArray, List.getElem?_cons_zero, List.getElem?_cons_succ]; exact rfl) (by kernel_rfl) (by kernel_rfl) (by kernel_rfl) (fun _ _ _ h => h) (Or.inl ⟨by rfl, ?q1xy7⟩) (by assumption) ?_; (case q1xy7 => (intro w hSw; (try dsimp only at hSw); go_simp; (try with_reducible rfl))); (try simp only [Act.put, List.setIfInBounds_toArray, List.set_cons_zero, List.set_cons_succ]); refine wpAnyH_take (i := 8) (v := ?q1xv8) (by simp only [List.getElem?_toArray, List.getElem?_cons_zero, List.getElem?_cons_succ]; exact rfl) (by kernel_rfl) (by kernel_rfl) (by kernel_rfl) (fun _ _ _ h => h) (Or.inl ⟨by rfl, ?q1xy8⟩) (by assumption) ?_; (case q1xy8 => (intro w hSw; (try dsimp only at hSw); go_simp; (try with_reducible rfl))); (try simp only [Act.put, List.setIfInBounds_toArray, List.set_cons_zero, List.set_cons_succ]); refine wpAnyH_take (i := 9) (v := ?q1xv9) (by simp only [List.getElem?_toArray, List.getElem?_cons_zero, List.getElem?_cons_succ]; exact rfl) (by kernel_rfl) (by kernel_rfl) (by kernel_rfl) (fun _ _ _ h => h) (Or.inl ⟨by rfl, ?q1xy9⟩) (by assumption) ?_; (case q1xy9 => (intro w hSw; (try dsimp only at hSw); go_simp; (try with_reducible rfl))); (try simp only [Act.put, List.setIfInBounds_toArray, List.set_cons_zero, List.set_cons_succ]); refine wpAnyH_take (i := 10) (v := ?q1xv10) (by simp only [List.getElem?_toArray, List.getElem?_cons_zero, List.getElem?_cons_succ]; exact rfl) (by kernel_rfl) (by kernel_rfl) (by kernel_rfl) (fun _ _ _ h => h) (Or.inl ⟨by rfl, ?q1xy10⟩) (by assumption) ?_; (case q1xy10 => (intro w hSw; (try dsimp only at hSw); go_simp; (try with_reducible rfl))); (try simp only [Act.put, List.setIfInBounds_toArray, List.set_cons_zero, List.set_cons_succ]); refine wpAnyH_take (i := 11) (v := ?q1xv11) (by simp only [List.getElem?_toArray, List.getElem?_cons_zero, List.getElem?_cons_succ]; exact rfl) (by kernel_rfl) (by kernel_rfl) (by kernel_rfl) (fun _ _ _ h => h) (Or.inl ⟨by rfl, ?q1xy11⟩) (by assumption) ?_; (case q1xy11 => (intro w hSw; (try dsimp only at hSw); go_simp; (try with_reducible rfl))); (try simp only [Act.put, List.setIfInBounds_toArray, List.set_cons_zero, List.set_cons_succ]); refine wpAnyH_take (i := 12) (v := ?q1xv12) (by simp only [List.getElem?_toArray, List.getElem?_cons_zero, List.getElem?_cons_succ]; exact rfl) (by kernel_rfl) (by kernel_rfl) (by kernel_rfl) (fun _ _ _ h => h) (Or.inl ⟨by rfl, ?q1xy12⟩) (by assumption) ?_; (case q1xy12 => (intro w hSw; (try dsimp only at hSw); go_simp; (try with_reducible rfl))); (try simp only [Act.put, List.setIfInBounds_toArray, List.set_cons_zero, List.set_cons_succ]); refine wpAnyH_take (i := 14) (v := ?q1xv14) (by simp only [List.getElem?_toArray, List.getElem?_cons_zero, List.getElem?_cons_succ]; exact rfl) (by kernel_rfl) (by kernel_rfl) (by kernel_rfl) (fun _ _ _ h => h) (Or.inl ⟨by rfl, ?q1xy14⟩) (by assumption) ?_; (case q1xy14 => (intro w hSw; (try dsimp only at hSw); go_simp; (try with_reducible rfl))); (try simp only [Act.put, List.setIfInBounds_toArray, List.set_cons_zero, List.set_cons_succ]); refine wpAnyH_take (i := 15) (v := ?q1xv15) (by simp only [List.getElem?_toArray, List.getElem?_cons_zero, List.getElem?_cons_succ]; exact rfl) (by kernel_rfl) (by kernel_rfl) (by kernel_rfl) (fun _ _ _ h => h) (Or.inl ⟨by rfl, ?q1xy15⟩) (by assumption) ?_; (case q1xy15 => (intro w hSw; (try dsimp only at hSw); go_simp; (try with_reducible rfl))); (try simp only [Act.put, List.setIfInBounds_toArray, List.set_cons_zero, List.set_cons_succ]); refine wpAnyH_take (i := 16) (v := ?q1xv16) (by simp only [List.getElem?_toArray, List.getElem?_cons_zero, List.getElem?_cons_succ]; exact rfl) (by kernel_rfl) (by kernel_rfl) (by kernel_rfl) (fun _ _ _ h => h) (Or.inl ⟨by rfl, ?q1xy16⟩) (by assumption) ?_; (case q1xy16 => (intro w hSw; (try dsimp only at hSw); go_simp; (try with_reducible rfl))); (try simp only [Act.put, List.setIfInBounds_toArray, List.set_cons_zero, List.set_cons_succ]); refine wpAnyH_ready (rs := [13]) (by kernel_rfl) (by simp) ?_; refine AllReadyH.cons (by simp only [List.getElem?_toArray, List.getElem?_cons_zero, List.getElem?_cons_succ]; exact rfl) (fun K hK => ?_) AllReadyH.nil; go_simp; refine hK.out _ _ ?q1xs13 (fun hHeld => ?_); (case q1xs13 => ((try dsimp only); ((go_split_ands; (try dsimp only); (repeat' apply And.intro); all_goals (repeat (first | with_reducible assumption | (with_reducible refine (cell_set_ne ?_).trans ?_; omega) | (with_reducible refine cell_alloc _ ?_) | (with_reducible refine cell_drew ?_) | (with_reducible refine cell_drewN _ ?_))))))); clear hK K; (try simp only [Act.put, List.setIfInBounds_toArray, List.set_cons_zero, List.set_cons_succ]); refine wpAnyH_ready (rs := [17]) (by kernel_rfl) (by simp) ?_; refine AllReadyH.cons (by simp only [List.getElem?_toArray, List.getElem?_cons_zero, List.getElem?_cons_succ]; exact rfl) (fun K hK => ?_) AllReadyH.nil; go_simp; (go_at_call 24; refine (delTm (q + 1) _ A k _ (by simp; omega) (own_keep HRw.out (Below_drewN (n := 1) (Below.refl w2.heap.size w2))) hk hA2).mono ?_; rintro e w3 ⟨v3, rfl, hob, hown3, hz3, hbl3, hb3⟩; have z1 : w3.cell? ⟨q, 1, none⟩ = some (.slice (some ⟨g0, 0, none⟩) LL.length c0) := (World.cell?_of_block (w := w2.drewN 1) (w' := w3) (a := ⟨q, 1, none⟩) (hbl3 q (by simp; omega) (fun e => by have := (HRw.out.lt _ e).1; omega))).trans (cell_drewN _ x1); have z2 : w3.cell? ⟨g0, i, none⟩ = some (.slice ak A.length ck) := (World.cell?_of_block (w := w2.drewN 1) (w' := w3) (a := ⟨g0, i, none⟩) (hbl3 g0 (by simp; omega) (fun e => HD4.out _ e rfl))).trans (cell_drewN _ l1); have z3 : w3.frozen? ⟨g0, i, none⟩ = false := (own_move HRo.out (fun b hb => by have e : b = g0 := (Option.some.inj hb).symm; subst e; exact hbl3 b (by simp; omega) (fun e => HD4.out _ e rfl))).frozenAt i; obtain ⟨a3, c3, rfl, _⟩ := owns_shape hown3; have HN3 := Lib.hid hown3; have HBl3 := Lib.hid hbl3; have HOb := Lib.hid hob; have HB3 := Lib.hid hb3; clear hown3 hbl3 hob hb3); (try go_wp2_with fail); refine hK.out _ _ ?q1xs17 (fun hHeld => ?_); (case q1xs17 => ((try dsimp only); ((go_split_ands; (try dsimp only); (repeat' apply And.intro); all_goals (repeat (first | with_reducible assumption | (with_reducible refine (cell_set_ne ?_).trans ?_; omega) | (with_reducible refine cell_alloc _ ?_) | (with_reducible refine cell_drew ?_) | (with_reducible refine cell_drewN _ ?_))))))); clear hK K; (try simp only [Act.put, List.setIfInBounds_toArray, List.set_cons_zero, List.set_cons_succ]); refine wpAnyH_take (i := 18) (v := ?q1xv18) (by simp only [List.getElem?_toArray, List.getElem?_cons_zero, List.getElem?_cons_succ]; exact rfl) (by kernel_rfl) (by kernel_rfl) (by kernel_rfl) (fun _ _ _ h => h) (Or.inl ⟨by rfl, ?q1xy18⟩) (by assumption) ?_; (case q1xy18 => (intro w hSw; (try dsimp only at hSw); go_simp; (try with_reducible rfl))); (try simp only [Act.put, List.setIfInBounds_toArray, List.set_cons_zero, List.set_cons_succ]); refine wpAnyH_ready (rs := [19]) (by kernel_rfl) (by simp) ?_; refine AllReadyH.cons (by simp only [List.getElem?_toArray, List.getElem?_cons_zero, List.getElem?_cons_succ]; exact rfl) (fun K hK => ?_) AllReadyH.nil; go_simp; refine hK.out _ _ ?q1xs19 (fun hHeld => ?_); (case q1xs19 => ((try dsimp only); ((go_split_ands; (try dsimp only); (repeat' apply And.intro); all_goals (repeat (first | with_reducible assumption | (with_reducible refine (cell_set_ne ?_).trans ?_; omega) | (with_reducible refine cell_alloc _ ?_) | (with_reducible refine cell_drew ?_) | (with_reducible refine cell_drewN _ ?_))))))); clear hK K; (try simp only [Act.put, List.setIfInBounds_toArray, List.set_cons_zero, List.set_cons_succ]); refine wpAnyH_done (by kernel_rfl) ?_ _; refine NoPanic.normal ?_)
      have hblk : ∀ b, b < w2.heap.size → (V.getD i undef).ownBlock ≠ some b → w3.heap[b]? = w2.heap[b]? := fun b hb hne => HBl3.out b (by simp; omega) (by rw [HVk.out]; exact hne)
      have HS3 := Lib.hid (OwnLs_set (L' := A.take k ++ A.drop (k + 1)) HO2.out hi rfl hblk (fun b hb => Or.inl (by rw [← HVk.out, ← HOb.out]; exact hb)) HN3.out)
      have hqk : w3.heap[q]? = w2.heap[q]? := HBl3.out q (by simp; omega) (fun e => by have := (HRw.out.lt _ e).1; omega)
      have hrk : w3.heap[w.heap.size + 1]? = w2.heap[w.heap.size + 1]? := HBl3.out (w.heap.size + 1) (by simp; omega) (fun e => by have := (HRw.out.lt _ e).1; omega)
      have u0 : w3.cell? ⟨q, 0, none⟩ = some (.int .i64 now') := (World.cell?_of_block (w := w2) (w' := w3) (a := ⟨q, 0, none⟩) hqk).trans x0
      have v0 : w3.cell? ⟨w.heap.size + 1, 0, none⟩ = some (.int .i64 0) := (World.cell?_of_block (w := w2) (w' := w3) (a := ⟨w.heap.size + 1, 0, none⟩) hrk).trans y0
      have v1 : w3.cell? ⟨w.heap.size + 1, 1, none⟩ = some (.slice none 0 0) := (World.cell?_of_block (w := w2) (w' := w3) (a := ⟨w.heap.size + 1, 1, none⟩) hrk).trans y1
      have v2 : ∀ n, w3.frozen? ⟨w.heap.size + 1, n, none⟩ = false := fun n => (World.frozen?_of_block (w := w2) (w' := w3) (a := ⟨w.heap.size + 1, n, none⟩) hrk).trans (f0 n)
      have HB5 : Hid (Below w.heap.size w w3) := HB2.out.trans ((Below_drewN (n := 1) (Below.refl _ w2)).trans (HB3.out.mono (by omega)))
      clear hblk HBl3 HOb HN3 HB3 HO2
      go_wp2_with fail
      refine bodyPost_ret (v := .tuple #[.agg #[.int .i64 now', .slice (some ⟨g0, 0, none⟩) LL.length c0], .int .i64 0]) ?_ rfl ⟨_, rfl, ?_, ((HB5.out.setCell (by simp; omega) _).setCell (by simp) _).setCell (by simp) _⟩
      · simp [results, Try.results10, go_sem, *]
      · have hz4 : w2.heap.size ≤ w3.heap.size := by simpa using hz3
        rw [← HE.out]
        refine LsNew_mono (OwnLs_new (OwnLs_move HS3.out fun b h1 h2 => ?_)) (B := q + 1) (by omega)
        rw [Below.heap_setCell _ _ _ _ (by simp; omega), Below.heap_setCell _ _ _ _ (by simp; omega)]
        simp
end Go.Proofs.Ythgfiadfpgfjdaa
