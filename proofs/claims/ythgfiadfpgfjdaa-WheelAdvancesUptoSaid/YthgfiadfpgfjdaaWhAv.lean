/- wheel.Advance. -/
import Derived.Test.YthgfiadfpgfjdaaWhAr
import Derived.Test.YthgfiadfpgfjdaaWhAvL
namespace Go.Proofs.Ythgfiadfpgfjdaa
open Go.RowKit
def WhAns3 (w : World) (now : Int) (LL : List (List Tm)) (off : List Int) (c : Int) (e : Ending) (w' : World) : Prop := ∃ v o, e = .returned (.tuple #[.agg #[.int .i64 now, v], o, .int .i64 c]) ∧ LsNew w.heap.size w' v LL ∧ RowNew w.heap.size w' 1 o (off.map fun x => [.int .i64 x]) ∧ Below w.heap.size w w'
theorem WhAns3.nil {w w' : World} {c : Int} (hb : Below w.heap.size w w') : WhAns3 w 0 [] [] c (.returned (.tuple #[.agg #[.int .i64 0, .slice none 0 0], .slice none 0 0, .int .i64 c])) w' := ⟨_, _, rfl, LsNew_nil _ _, RowNew_nil _ _ _, hb⟩
/-- What Advance answers (P3.6). -/
def AdvAns (now : Int) (LL : List (List Tm)) (now' : Int) (LL' : List (List Tm)) (off : List Int) (c : Int) : Prop :=
  (¬ WhMay now LL ∧ now' = 0 ∧ LL' = [] ∧ off = [] ∧ c = 6) ∨
  (WhMay now LL ∧ now = 1099511627776 ∧ now' = 0 ∧ LL' = [] ∧ off = [] ∧ c = 9) ∨
  (WhMay now LL ∧ now < 1099511627776 ∧ now' = now + 1 ∧ LL' = wheelOf (now + 1) (LL.flatten.filter fun t => decide (now + 1 < t.at_)) ∧ off = (srtT (LL.flatten.filter fun t => t.at_ == now + 1)).map Tm.id ∧ c = 0)
section
variable {now : Int} {LL : List (List Tm)} {now' : Int} {LL' : List (List Tm)} {off : List Int} {c : Int}
theorem AdvAns.no (h : AdvAns now LL now' LL' off c) (hm : ¬ WhMay now LL) : now' = 0 ∧ LL' = [] ∧ off = [] ∧ c = 6 := by
  rcases h with ⟨_, h⟩ | ⟨h, _⟩ | ⟨h, _⟩
  · exact h
  all_goals exact absurd h hm
theorem AdvAns.full (h : AdvAns now LL now' LL' off c) (hm : WhMay now LL) (ht : now = 1099511627776) : now' = 0 ∧ LL' = [] ∧ off = [] ∧ c = 9 := by
  rcases h with ⟨h, _⟩ | ⟨_, _, h⟩ | ⟨_, h, _⟩
  · exact absurd hm h
  · exact h
  · omega
theorem AdvAns.yes (h : AdvAns now LL now' LL' off c) (hm : WhMay now LL) (ht : now < 1099511627776) : now' = now + 1 ∧ LL' = wheelOf (now + 1) (LL.flatten.filter fun t => decide (now + 1 < t.at_)) ∧ off = (srtT (LL.flatten.filter fun t => t.at_ == now + 1)).map Tm.id ∧ c = 0 := by
  rcases h with ⟨h, _⟩ | ⟨_, h, _⟩ | ⟨_, _, h⟩
  · exact absurd hm h
  · omega
  · exact h
end
/-- At the heads of Advance's loops. -/
def AvRel (q : Nat) (w1 wr : World) (n : Nat) (vl : Value) (M : List (List Tm)) : Prop := Below q w1 wr ∧ wr.cell? ⟨q, 0, none⟩ = some (.int .i64 (n : Int)) ∧ wr.cell? ⟨q, 1, none⟩ = some vl ∧ ∃ V, OwnLs (q + 1) wr vl M V
def AvIn (q g0 : Nat) (w2 ws wp : World) (n cv : Nat) (xv : Value) (M : List (List Tm)) (X : List Tm) : Prop := Below q w2 wp ∧ ws.heap.size ≤ wp.heap.size ∧ wp.cell? ⟨q, 0, none⟩ = some (.int .i64 (n : Int)) ∧ wp.cell? ⟨q, 1, none⟩ = some (.slice (some ⟨g0, 0, none⟩) 25 cv) ∧
  wp.ownsRow (q + 1) 43 2 xv X.length (X.map Tm.cells).flatten ∧ ∃ V, OwnLs (q + 1) wp (.slice (some ⟨g0, 0, none⟩) 25 cv) M V ∧ ∀ b, xv.ownBlock = some b → b ≠ g0 ∧ ∀ i, i < 25 → (V.getD i undef).ownBlock ≠ some b
theorem flat1 {α : Type} (f : α → Value) (X : List α) : (X.map fun x => [f x]).flatten = X.map f := by
  induction X with
  | nil => rfl
  | cons x X ih => simp [ih]
theorem info_in : (Try.prog.info? 3).map (fun i => (i.zero, i.size, i.bytes)) = some (some (.int .i64 0), 1, 8) := by kernel_rfl
theorem info_sf : (Try.prog.info? 54).map (fun i => (i.zero, i.size, i.bytes)) = some (some (.agg #[.int .i64 0, .int .i64 0]), 2, 16) := by kernel_rfl
theorem idx3 (a b c d e f : Int) (W : World) :
    (Instr.index 55 (.agg #[.int .i64 a, .int .i64 b, .int .i64 c, .int .i64 d, .int .i64 e, .int .i64 f]) (.int .i64 0)).run Try.prog W = .ok (.agg #[.int .i64 a, .int .i64 b]) W ∧
    (Instr.index 55 (.agg #[.int .i64 a, .int .i64 b, .int .i64 c, .int .i64 d, .int .i64 e, .int .i64 f]) (.int .i64 1)).run Try.prog W = .ok (.agg #[.int .i64 c, .int .i64 d]) W ∧
    (Instr.index 55 (.agg #[.int .i64 a, .int .i64 b, .int .i64 c, .int .i64 d, .int .i64 e, .int .i64 f]) (.int .i64 2)).run Try.prog W = .ok (.agg #[.int .i64 e, .int .i64 f]) W := by
  obtain ⟨i0, hi, hi0, hi1, hi2⟩ := info_parts info_sf
  have hu := Try.underlying55
  refine ⟨?_, ?_, ?_⟩ <;> simp [Instr.index, asIntOf, run_underlying hu, part, sizeOf, typeInfo, hi, hi1]
set_option maxHeartbeats 4000000 in
set_option maxRecDepth 100000 in
theorem prog_Advance (lv : Value) (now : Int) (LL : List (List Tm)) (w : World) (r : LsAt w lv LL) (hn : LL.length ≤ 1048576) (hs : LL.flatten.length ≤ 1048576) (now' : Int) (LL' : List (List Tm)) (off : List Int) (c : Int) (ha : AdvAns now LL now' LL' off c) :
    Calls Try.prog 12 #[.agg #[.int .i64 now, lv]] w (WhAns3 w now' LL' off c) := by
  obtain ⟨a, cp, rfl⟩ := LsAt_shape r
  have R2 := Lib.hid (LsAt_below r ((Below.alloc (Below.refl _ _) (Nat.le_refl _) (.cells #[.int .i64 now, .slice a LL.length cp] 24)).alloc (by simp) (.cells #[.int .i64 0, .slice none 0 0] 24)))
  have HS := Lib.hid (fun k (h : k < LL.length) => Nat.le_trans (sum_mem_le h) hs)
  have HA := Lib.hid ha
  clear r hs ha
  go_enter Try.func12, Try.ntmps12
  go_wp2_with (go_at_call 15; refine (prog_open _ now LL _ R2.out (by omega) (fun i hi => by have := HS.out i hi; omega)).mono ?_)
  rintro e w1 (⟨q, vl, V, rfl, hm, hq, hq2, hqb, hown, hb1⟩ | ⟨rfl, hm, hb1⟩)
  rotate_left
  · obtain ⟨rfl, rfl, rfl, rfl⟩ := HA.out.no hm
    obtain ⟨hc1, hf1⟩ := bcell hb1
    go_wp2
    refine bodyPost_ret (v := .tuple #[.agg #[.int .i64 0, .slice none 0 0], .slice none 0 0, .int .i64 6]) ?_ rfl (WhAns3.nil (by repeat (first | (with_reducible exact Below.refl _ _) | (with_reducible assumption) | (with_reducible refine Below.drew ?_) | (with_reducible refine Below_drewN ?_) | (with_reducible refine Below.alloc ?_ (by first | omega | (simp; done) | (simp; omega)) _) | (with_reducible refine Below.setCell ?_ (by first | omega | (simp; done) | (simp; omega)) _) | (with_reducible refine Below.trans ?_ (Below.mono (by assumption) (by first | omega | (simp; done) | (simp; omega)))))))
    simp [results, Try.results12, go_sem, *]
  · have h25 := hm.2.2.1
    have h0 := hm.1
    have h1 := hm.2.1
    have HM := Lib.hid hm
    have HO := Lib.hid hown
    have HB1 : Hid (Below w.heap.size w w1) := Below.trans ((by repeat (first | (with_reducible exact Below.refl _ _) | (with_reducible assumption) | (with_reducible refine Below.drew ?_) | (with_reducible refine Below_drewN ?_) | (with_reducible refine Below.alloc ?_ (by first | omega | (simp; done) | (simp; omega)) _) | (with_reducible refine Below.setCell ?_ (by first | omega | (simp; done) | (simp; omega)) _) | (with_reducible refine Below.trans ?_ (Below.mono (by assumption) (by first | omega | (simp; done) | (simp; omega)))))) : Below w.heap.size w _) (hb1.mono (by simp; omega))
    have hz1 := hb1.size
    have x0 : w1.cell? ⟨q, 0, none⟩ = some (.int .i64 now) := blk_cell hqb 0
    have x1 : w1.cell? ⟨q, 1, none⟩ = some vl := blk_cell hqb 1
    have x2 : w1.frozen? ⟨q, 0, none⟩ = false := blk_free hqb 0
    simp at hq hz1
    have y0 : w1.cell? ⟨w.heap.size + 1, 0, none⟩ = some (.int .i64 0) := cell_below hb1 (by go_simp) (by simp)
    have y1 : w1.cell? ⟨w.heap.size + 1, 1, none⟩ = some (.slice none 0 0) := cell_below hb1 (by go_simp) (by simp)
    have y2 : w1.cell? ⟨w.heap.size, 0, none⟩ = some (.int .i64 now) := cell_below hb1 (by go_simp) (by simp; omega)
    have f0 : ∀ n, w1.frozen? ⟨w.heap.size + 1, n, none⟩ = false := fun n => (hb1.frozen (p := ⟨w.heap.size + 1, n, none⟩) (by simp)).trans (by go_simp)
    have HLn := Lib.hid h25
    rcases owns_news HO.out.2.1 with ⟨_, h00⟩ | ⟨g0, cv, rfl, _⟩
    · omega
    have hg0 := HO.out.2.1.lt g0 rfl
    have HO : Hid (OwnLs (q + 1) w1 (.slice (some ⟨g0, 0, none⟩) 25 cv) LL V) := by have := HO.out; rw [h25] at this; exact this
    rw [h25] at x1
    clear hm hqb hown hb1
    have k1 : w.heap.size < w1.heap.size := by omega
    have k2 : w.heap.size + 1 < w1.heap.size := by omega
    have k3 : ¬ q = w.heap.size + 1 := by omega
    have k4 : ¬ w.heap.size + 1 = q := by omega
    by_cases hfull : now = 1099511627776
    · obtain ⟨rfl, rfl, rfl, rfl⟩ := HA.out.full HM.out hfull
      subst hfull
      go_wp2
      refine bodyPost_ret (v := .tuple #[.agg #[.int .i64 0, .slice none 0 0], .slice none 0 0, .int .i64 9]) ?_ rfl (WhAns3.nil ((HB1.out.setCell (by simp) _).setCell (by simp) _))
      simp [results, Try.results12, go_sem, *]
    · have hlt : now < 1099511627776 := by omega
      obtain ⟨N, hNn⟩ := Int.eq_ofNat_of_zero_le h0
      have HM := Lib.hid (show WhMay (N : Int) LL by rw [← hNn]; exact HM.out)
      have HNn := Lib.hid hNn
      clear hNn
      obtain ⟨n, hn1⟩ : ∃ n : Nat, (n : Int) = now + 1 := ⟨(now + 1).toNat, by omega⟩
      have e1 : IntKind.i64.wrap (now + 1) = (n : Int) := by rw [IntKind.wrap_i64]; omega
      have HN1 := Lib.hid hn1
      have HLt := Lib.hid hlt
      have n0 : (0 : Int) ≤ (n : Int) := by omega
      have n1 : n ≤ 1099511627776 := by omega
      have HN := Lib.hid n1
      clear hn1 hlt n1 h1
      go_wp2_with fail
      obtain ⟨w2, hw2⟩ : ∃ w2, w2 = w1.setCell ⟨q, 0, none⟩ (.int .i64 (n : Int)) := ⟨_, rfl⟩
      have z0 : w2.cell? ⟨q, 0, none⟩ = some (.int .i64 (n : Int)) := by rw [hw2]; go_simp
      have z1 : w2.cell? ⟨q, 1, none⟩ = some (.slice (some ⟨g0, 0, none⟩) 25 cv) := by rw [hw2]; go_simp
      have HB2 : Hid (Below q w1 w2) := by rw [hw2]; exact Below.setCell (p := ⟨q, 0, none⟩) (Below.refl q w1) (Nat.le_refl q) _
      have HO2 : Hid (OwnLs (q + 1) w2 (.slice (some ⟨g0, 0, none⟩) 25 cv) LL V) := by
        rw [hw2]
        exact OwnLs_move HO.out (fun b h1 h2 => Below.heap_setCell _ _ _ _ (by simp; omega))
      have hz2 : w1.heap.size = w2.heap.size := by rw [hw2]; simp
      rw [← hw2]
      clear hw2 HO x0 x1 x2
      (refine wp_region_noPanic ?_; refine wp_region_held_drew (S := fun w' : World => w'.cell? ⟨q, 0, none⟩ = some (.int .i64 (n : Int))) (by kernel_rfl) ?q1xb (fun hHeld => ?_); (case q1xb => ((try dsimp only); ((go_split_ands; (try dsimp only); (repeat' apply And.intro); all_goals (repeat (first | with_reducible assumption | (with_reducible refine (cell_set_ne ?_).trans ?_; omega) | (with_reducible refine cell_alloc _ ?_) | (with_reducible refine cell_drew ?_) | (with_reducible refine cell_drewN _ ?_))))))); refine wpAnyH_take (i := 0) (v := ?q1xv0) (by simp only [List.getElem?_toArray, List.getElem?_cons_zero]; exact rfl) (by kernel_rfl) (by kernel_rfl) (by kernel_rfl) (fun _ _ _ h => h) (Or.inl ⟨by rfl, ?q1xy0⟩) (by assumption) ?_; (case q1xy0 => (intro w hSw; (try dsimp only at hSw); go_simp; (try with_reducible rfl))); (try simp only [Act.put, List.setIfInBounds_toArray, List.set_cons_zero, List.set_cons_succ]); refine wpAnyH_take (i := 1) (v := ?q1xv1) (by simp only [List.getElem?_toArray, List.getElem?_cons_zero, List.getElem?_cons_succ]; exact rfl) (by kernel_rfl) (by kernel_rfl) (by kernel_rfl) (fun _ _ _ h => h) (Or.inl ⟨by rfl, ?q1xy1⟩) (by assumption) ?_; (case q1xy1 => (intro w hSw; (try dsimp only at hSw); go_simp; (try with_reducible rfl))); (try simp only [Act.put, List.setIfInBounds_toArray, List.set_cons_zero, List.set_cons_succ]); refine wpAnyH_take (i := 2) (v := ?q1xv2) (by simp only [List.getElem?_toArray, List.getElem?_cons_zero, List.getElem?_cons_succ]; exact rfl) (by kernel_rfl) (by kernel_rfl) (by kernel_rfl) (fun _ _ _ h => h) (Or.inl ⟨by rfl, ?q1xy2⟩) (by assumption) ?_; (case q1xy2 => (intro w hSw; (try dsimp only at hSw); go_simp; (try with_reducible rfl))); (try simp only [Act.put, List.setIfInBounds_toArray, List.set_cons_zero, List.set_cons_succ]); refine wpAnyH_take (i := 3) (v := ?q1xv3) (by simp only [List.getElem?_toArray, List.getElem?_cons_zero, List.getElem?_cons_succ]; exact rfl) (by kernel_rfl) (by kernel_rfl) (by kernel_rfl) (fun _ _ _ h => h) (Or.inl ⟨by rfl, ?q1xy3⟩) (by assumption) ?_; (case q1xy3 => (intro w hSw; (try dsimp only at hSw); go_simp; (try with_reducible rfl))); (try simp only [Act.put, List.setIfInBounds_toArray, List.set_cons_zero, List.set_cons_succ]); refine wpAnyH_take (i := 4) (v := ?q1xv4) (by simp only [List.getElem?_toArray, List.getElem?_cons_zero, List.getElem?_cons_succ]; exact rfl) (by kernel_rfl) (by kernel_rfl) (by kernel_rfl) (fun _ _ _ h => h) (Or.inl ⟨by rfl, ?q1xy4⟩) (by assumption) ?_; (case q1xy4 => (intro w hSw; (try dsimp only at hSw); go_simp; (try with_reducible rfl))); (try simp only [Act.put, List.setIfInBounds_toArray, List.set_cons_zero, List.set_cons_succ]); refine wpAnyH_take (i := 5) (v := ?q1xv5) (by simp only [List.getElem?_toArray, List.getElem?_cons_zero, List.getElem?_cons_succ]; exact rfl) (by kernel_rfl) (by kernel_rfl) (by kernel_rfl) (fun _ _ _ h => h) (Or.inl ⟨by rfl, ?q1xy5⟩) (by assumption) ?_; (case q1xy5 => (intro w hSw; (try dsimp only at hSw); go_simp; (try with_reducible rfl))); (try simp only [Act.put, List.setIfInBounds_toArray, List.set_cons_zero, List.set_cons_succ]); refine wpAnyH_take (i := 6) (v := ?q1xv6) (by simp only [List.getElem?_toArray, List.getElem?_cons_zero, List.getElem?_cons_succ]; exact rfl) (by kernel_rfl) (by kernel_rfl) (by kernel_rfl) (fun _ _ _ h => h) (Or.inl ⟨by rfl, ?q1xy6⟩) (by assumption) ?_; (case q1xy6 => (intro w hSw; (try dsimp only at hSw); go_simp; (try with_reducible rfl))); (try simp only [Act.put, List.setIfInBounds_toArray, List.set_cons_zero, List.set_cons_succ]); refine wpAnyH_take (i := 7) (v := ?q1xv7) (by simp only [List.getElem?_toArray, List.getElem?_cons_zero, List.getElem?_cons_succ]; exact rfl) (by kernel_rfl) (by kernel_rfl) (by kernel_rfl) (fun _ _ _ h => h) (Or.inl ⟨by rfl, ?q1xy7⟩) (by assumption) ?_; (case q1xy7 => (intro w hSw; (try dsimp only at hSw); go_simp; (try with_reducible rfl))); (try simp only [Act.put, List.setIfInBounds_toArray, List.set_cons_zero, List.set_cons_succ]); refine wpAnyH_take (i := 8) (v := ?q1xv8) (by simp only [List.getElem?_toArray, List.getElem?_cons_zero, List.getElem?_cons_succ]; exact rfl) (by kernel_rfl) (by kernel_rfl) (by kernel_rfl) (fun _ _ _ h => h) (Or.inl ⟨by rfl, ?q1xy8⟩) (by assumption) ?_; (case q1xy8 => (intro w hSw; (try dsimp only at hSw); go_simp; (try with_reducible rfl))); (try simp only [Act.put, List.setIfInBounds_toArray, List.set_cons_zero, List.set_cons_succ]); refine wpAnyH_take (i := 9) (v := ?q1xv9) (by simp only [List.getElem?_toArray, List.getElem?_cons_zero, List.getElem?_cons_succ]; exact rfl) (by kernel_rfl) (by kernel_rfl) (by kernel_rfl) (fun _ _ _ h => h) (Or.inl ⟨by rfl, ?q1xy9⟩) (by assumption) ?_; (case q1xy9 => (intro w hSw; (try dsimp only at hSw); go_simp; (try with_reducible rfl))); (try simp only [Act.put, List.setIfInBounds_toArray, List.set_cons_zero, List.set_cons_succ]); refine wpAnyH_take (i := 10) (v := ?q1xv10) (by simp only [List.getElem?_toArray, List.getElem?_cons_zero, List.getElem?_cons_succ]; exact rfl) (by kernel_rfl) (by kernel_rfl) (by kernel_rfl) (fun _ _ _ h => h) (Or.inl ⟨by rfl, ?q1xy10⟩) (by assumption) ?_; (case q1xy10 => (intro w hSw; (try dsimp only at hSw); go_simp; (try with_reducible rfl))); (try simp only [Act.put, List.setIfInBounds_toArray, List.set_cons_zero, List.set_cons_succ]); refine wpAnyH_take (i := 11) (v := ?q1xv11) (by simp only [List.getElem?_toArray, List.getElem?_cons_zero, List.getElem?_cons_succ]; exact rfl) (by kernel_rfl) (by kernel_rfl) (by kernel_rfl) (fun _ _ _ h => h) (Or.inl ⟨by rfl, ?q1xy11⟩) (by assumption) ?_; (case q1xy11 => (intro w hSw; (try dsimp only at hSw); go_simp; (try with_reducible rfl))); (try simp only [Act.put, List.setIfInBounds_toArray, List.set_cons_zero, List.set_cons_succ]); refine wpAnyH_take (i := 12) (v := ?q1xv12) (by simp only [List.getElem?_toArray, List.getElem?_cons_zero, List.getElem?_cons_succ]; exact rfl) (by kernel_rfl) (by kernel_rfl) (by kernel_rfl) (fun _ _ _ h => h) (Or.inl ⟨by rfl, ?q1xy12⟩) (by assumption) ?_; (case q1xy12 => (intro w hSw; (try dsimp only at hSw); go_simp; (try with_reducible rfl))); (try simp only [Act.put, List.setIfInBounds_toArray, List.set_cons_zero, List.set_cons_succ]); refine wpAnyH_take (i := 13) (v := ?q1xv13) (by simp only [List.getElem?_toArray, List.getElem?_cons_zero, List.getElem?_cons_succ]; exact rfl) (by kernel_rfl) (by kernel_rfl) (by kernel_rfl) (fun _ _ _ h => h) (Or.inl ⟨by rfl, ?q1xy13⟩) (by assumption) ?_; (case q1xy13 => (intro w hSw; (try dsimp only at hSw); go_simp; (try with_reducible rfl))); (try simp only [Act.put, List.setIfInBounds_toArray, List.set_cons_zero, List.set_cons_succ]); refine wpAnyH_take (i := 14) (v := ?q1xv14) (by simp only [List.getElem?_toArray, List.getElem?_cons_zero, List.getElem?_cons_succ]; exact rfl) (by kernel_rfl) (by kernel_rfl) (by kernel_rfl) (fun _ _ _ h => h) (Or.inl ⟨by rfl, ?q1xy14⟩) (by assumption) ?_; (case q1xy14 => (intro w hSw; (try dsimp only at hSw); go_simp; (try with_reducible rfl))); (try simp only [Act.put, List.setIfInBounds_toArray, List.set_cons_zero, List.set_cons_succ]); refine wpAnyH_take (i := 15) (v := ?q1xv15) (by simp only [List.getElem?_toArray, List.getElem?_cons_zero, List.getElem?_cons_succ]; exact rfl) (by kernel_rfl) (by kernel_rfl) (by kernel_rfl) (fun _ _ _ h => h) (Or.inl ⟨by rfl, ?q1xy15⟩) (by assumption) ?_; (case q1xy15 => (intro w hSw; (try dsimp only at hSw); go_simp; (try with_reducible rfl))); (try simp only [Act.put, List.setIfInBounds_toArray, List.set_cons_zero, List.set_cons_succ]); refine wpAnyH_take (i := 16) (v := ?q1xv16) (by simp only [List.getElem?_toArray, List.getElem?_cons_zero, List.getElem?_cons_succ]; exact rfl) (by kernel_rfl) (by kernel_rfl) (by kernel_rfl) (fun _ _ _ h => h) (Or.inl ⟨by rfl, ?q1xy16⟩) (by assumption) ?_; (case q1xy16 => (intro w hSw; (try dsimp only at hSw); go_simp; (try with_reducible rfl))); (try simp only [Act.put, List.setIfInBounds_toArray, List.set_cons_zero, List.set_cons_succ]); refine wpAnyH_take (i := 17) (v := ?q1xv17) (by simp only [List.getElem?_toArray, List.getElem?_cons_zero, List.getElem?_cons_succ]; exact rfl) (by kernel_rfl) (by kernel_rfl) (by kernel_rfl) (fun _ _ _ h => h) (Or.inl ⟨by rfl, ?q1xy17⟩) (by assumption) ?_; (case q1xy17 => (intro w hSw; (try dsimp only at hSw); go_simp; (try with_reducible rfl))); (try simp only [Act.put, List.setIfInBounds_toArray, List.set_cons_zero, List.set_cons_succ]); refine wpAnyH_take (i := 18) (v := ?q1xv18) (by simp only [List.getElem?_toArray, List.getElem?_cons_zero, List.getElem?_cons_succ]; exact rfl) (by kernel_rfl) (by kernel_rfl) (by kernel_rfl) (fun _ _ _ h => h) (Or.inl ⟨by rfl, ?q1xy18⟩) (by assumption) ?_; (case q1xy18 => (intro w hSw; (try dsimp only at hSw); go_simp; (try with_reducible rfl))); (try simp only [Act.put, List.setIfInBounds_toArray, List.set_cons_zero, List.set_cons_succ]); refine wpAnyH_take (i := 19) (v := ?q1xv19) (by simp only [List.getElem?_toArray, List.getElem?_cons_zero, List.getElem?_cons_succ]; exact rfl) (by kernel_rfl) (by kernel_rfl) (by kernel_rfl) (fun _ _ _ h => h) (Or.inl ⟨by rfl, ?q1xy19⟩) (by assumption) ?_; (case q1xy19 => (intro w hSw; (try dsimp only at hSw); go_simp; (try with_reducible rfl))); (try simp only [Act.put, List.setIfInBounds_toArray, List.set_cons_zero, List.set_cons_succ]); refine wpAnyH_take (i := 20) (v := ?q1xv20) (by simp only [List.getElem?_toArray, List.getElem?_cons_zero, List.getElem?_cons_succ]; exact rfl) (by kernel_rfl) (by kernel_rfl) (by kernel_rfl) (fun _ _ _ h => h) (Or.inl ⟨by rfl, ?q1xy20⟩) (by assumption) ?_; (case q1xy20 => (intro w hSw; (try dsimp only at hSw); go_simp; (try with_reducible rfl))); (try simp only [Act.put, List.setIfInBounds_toArray, List.set_cons_zero, List.set_cons_succ]); refine wpAnyH_done (by kernel_rfl) ?_ _; refine NoPanic.normal ?_)
      go_wp2_with fail
      have hnn := HN.out
      have e2 : IntKind.i64.wrap (16 + (IntKind.i64.wrap ((n : Int) / 64)).tmod 8) = ((16 + n / 64 % 8 : Nat) : Int) := by
        rw [IntKind.wrap_i64 ((n : Int) / 64), show (((n : Int) / 64 + 9223372036854775808) % 18446744073709551616 - 9223372036854775808) = ((n / 64 : Nat) : Int) by omega, Int.tmod_eq_emod_of_nonneg (by omega), IntKind.wrap_i64]
        omega
      have e3 : IntKind.i64.wrap (8 + (IntKind.i64.wrap ((n : Int) / 8)).tmod 8) = ((8 + n / 8 % 8 : Nat) : Int) := by
        rw [IntKind.wrap_i64 ((n : Int) / 8), show (((n : Int) / 8 + 9223372036854775808) % 18446744073709551616 - 9223372036854775808) = ((n / 8 : Nat) : Int) by omega, Int.tmod_eq_emod_of_nonneg (by omega), IntKind.wrap_i64]
        omega
      rw [e2, e3]
      clear e2 e3 hnn
      obtain ⟨L1, hL1⟩ : ∃ L1, L1 = 16 + n / 64 % 8 := ⟨_, rfl⟩
      obtain ⟨L2, hL2⟩ : ∃ L2, L2 = 8 + n / 8 % 8 := ⟨_, rfl⟩
      rw [← hL1, ← hL2]
      have l1 : (L1 : Int) < 25 := by omega
      have l2 : (L2 : Int) < 25 := by omega
      have HL1 := Lib.hid hL1
      have HL2 := Lib.hid hL2
      clear hL1 hL2
      go_loopw [58] (fun i wr => ∃ k : Nat, k ≤ 3 ∧ i = .int .i64 k ∧ AvRel q w2 wr n (.slice (some ⟨g0, 0, none⟩) 25 cv) (advM n LL k)) (fun i _ => 3 - (intOf i).toNat)
      case atStart => exact ⟨0, by omega, rfl, Below.drew (Below.refl _ _), z0, z1, V, OwnLs_below HO2.out (Below.drew (Below.refl _ _))⟩
      case round =>
        obtain ⟨k, hk, rfl, hB, z0, z1, V, hO⟩ := hrel
        have HB := Lib.hid hB
        have HO := Lib.hid hO
        have hzr := hB.size
        clear hB hO HO2
        rcases (show k = 0 ∨ k = 1 ∨ k = 2 ∨ k = 3 by omega) with rfl | rfl | rfl | rfl
        · rw [show ((0 : Nat) : Int) = 0 from rfl]
          have hix := fun W => (idx3 512 24 64 L1 8 L2 W).1
          go_wp2_with fail
          obtain ⟨wf, hwf⟩ : ∃ wf, wf = wr.alloc (.cells #[.int .i64 512, .int .i64 24] 54) := ⟨_, rfl⟩
          have b0 : wf.cell? ⟨wr.heap.size, 0, none⟩ = some (.int .i64 512) := by rw [hwf]; go_simp
          have b1 : wf.cell? ⟨wr.heap.size, 1, none⟩ = some (.int .i64 24) := by rw [hwf]; go_simp
          have hbf : Below wr.heap.size wr wf := by rw [hwf]; exact (Below.refl _ _).alloc (Nat.le_refl _) _
          have hzf : wf.heap.size = wr.heap.size + 1 := by rw [hwf]; simp
          have z0 := cell_below hbf z0 (by omega)
          have z1 := cell_below hbf z1 (by omega)
          have HBf := Lib.hid (HB.out.trans (hbf.mono (by omega)))
          have HOf := Lib.hid (OwnLs_below HO.out hbf)
          rw [← hwf]
          clear hwf hbf HB HO hix
          have hmod : (n : Int).tmod 512 = ((n % 512 : Nat) : Int) := by rw [Int.tmod_eq_emod_of_nonneg (by omega)]; omega
          have HMod := Lib.hid hmod
          clear hmod
          by_cases hd : n % 512 = 0
          rotate_left
          · have HE := Lib.hid (show advM n LL 1 = advM n LL 0 by rw [advM_0, if_neg hd])
            have hq1 : ((n : Int).tmod 512 != 0) = true := by rw [HMod.out, bne_iff_ne]; omega
            (refine wp_region_noPanic ?_; refine wp_region_held_drew (S := fun w' : World => w'.cell? ⟨q, 0, none⟩ = some (.int .i64 (n : Int)) ∧ w'.cell? ⟨wr.heap.size, 0, none⟩ = some (.int .i64 512)) (by kernel_rfl) ?q2xb (fun hHeld => ?_); (case q2xb => ((try dsimp only); ((go_split_ands; (try dsimp only); (repeat' apply And.intro); all_goals (repeat (first | with_reducible assumption | (with_reducible refine (cell_set_ne ?_).trans ?_; omega) | (with_reducible refine cell_alloc _ ?_) | (with_reducible refine cell_drew ?_) | (with_reducible refine cell_drewN _ ?_))))))); refine wpAnyH_take (i := 0) (v := ?q2xv0) (by simp only [List.getElem?_toArray, List.getElem?_cons_zero]; exact rfl) (by kernel_rfl) (by kernel_rfl) (by kernel_rfl) (fun _ _ _ h => h) (Or.inl ⟨by rfl, ?q2xy0⟩) (by assumption) ?_; (case q2xy0 => (intro w hSw; (try dsimp only at hSw); go_simp; (try with_reducible rfl))); (try simp only [Act.put, List.setIfInBounds_toArray, List.set_cons_zero, List.set_cons_succ]); refine wpAnyH_take (i := 1) (v := ?q2xv1) (by simp only [List.getElem?_toArray, List.getElem?_cons_zero, List.getElem?_cons_succ]; exact rfl) (by kernel_rfl) (by kernel_rfl) (by kernel_rfl) (fun _ _ _ h => h) (Or.inl ⟨by rfl, ?q2xy1⟩) (by assumption) ?_; (case q2xy1 => (intro w hSw; (try dsimp only at hSw); go_simp; (try with_reducible rfl))); (try simp only [Act.put, List.setIfInBounds_toArray, List.set_cons_zero, List.set_cons_succ]); refine wpAnyH_take (i := 2) (v := ?q2xv2) (by simp only [List.getElem?_toArray, List.getElem?_cons_zero, List.getElem?_cons_succ]; exact rfl) (by kernel_rfl) (by kernel_rfl) (by kernel_rfl) (fun _ _ _ h => h) (Or.inl ⟨by rfl, ?q2xy2⟩) (by assumption) ?_; (case q2xy2 => (intro w hSw; (try dsimp only at hSw); go_simp; (try with_reducible rfl))); (try simp only [Act.put, List.setIfInBounds_toArray, List.set_cons_zero, List.set_cons_succ]); refine wpAnyH_take (i := 3) (v := ?q2xv3) (by simp only [List.getElem?_toArray, List.getElem?_cons_zero, List.getElem?_cons_succ]; exact rfl) (by kernel_rfl) (by kernel_rfl) (by kernel_rfl) (fun _ _ _ h => h) (Or.inl ⟨by rfl, ?q2xy3⟩) (by assumption) ?_; (case q2xy3 => (intro w hSw; (try dsimp only at hSw); go_simp; (try with_reducible rfl))); (try simp only [Act.put, List.setIfInBounds_toArray, List.set_cons_zero, List.set_cons_succ]); refine wpAnyH_take (i := 4) (v := ?q2xv4) (by simp only [List.getElem?_toArray, List.getElem?_cons_zero, List.getElem?_cons_succ]; exact rfl) (by kernel_rfl) (by kernel_rfl) (by kernel_rfl) (fun _ _ _ h => h) (Or.inl ⟨by rfl, ?q2xy4⟩) (by assumption) ?_; (case q2xy4 => (intro w hSw; (try dsimp only at hSw); go_simp; (try with_reducible rfl))); (try simp only [Act.put, List.setIfInBounds_toArray, List.set_cons_zero, List.set_cons_succ]); refine wpAnyH_take (i := 5) (v := ?q2xv5) (by simp only [List.getElem?_toArray, List.getElem?_cons_zero, List.getElem?_cons_succ]; exact rfl) (by kernel_rfl) (by kernel_rfl) (by kernel_rfl) (fun _ _ _ h => h) (Or.inl ⟨by rfl, ?q2xy5⟩) (by assumption) ?_; (case q2xy5 => (intro w hSw; (try dsimp only at hSw); go_simp; (try with_reducible rfl))); (try simp only [Act.put, List.setIfInBounds_toArray, List.set_cons_zero, List.set_cons_succ]); refine wpAnyH_take (i := 6) (v := ?q2xv6) (by simp only [List.getElem?_toArray, List.getElem?_cons_zero, List.getElem?_cons_succ]; exact rfl) (by kernel_rfl) (by kernel_rfl) (by kernel_rfl) (fun _ _ _ h => h) (Or.inl ⟨by rfl, ?q2xy6⟩) (by assumption) ?_; (case q2xy6 => (intro w hSw; (try dsimp only at hSw); go_simp; (try with_reducible rfl))); (try simp only [Act.put, List.setIfInBounds_toArray, List.set_cons_zero, List.set_cons_succ]); refine wpAnyH_take (i := 7) (v := ?q2xv7) (by simp only [List.getElem?_toArray, List.getElem?_cons_zero, List.getElem?_cons_succ]; exact rfl) (by kernel_rfl) (by kernel_rfl) (by kernel_rfl) (fun _ _ _ h => h) (Or.inl ⟨by rfl, ?q2xy7⟩) (by assumption) ?_; (case q2xy7 => (intro w hSw; (try dsimp only at hSw); go_simp; (try with_reducible rfl))); (try simp only [Act.put, List.setIfInBounds_toArray, List.set_cons_zero, List.set_cons_succ]); refine wpAnyH_take (i := 8) (v := ?q2xv8) (by simp only [List.getElem?_toArray, List.getElem?_cons_zero, List.getElem?_cons_succ]; exact rfl) (by kernel_rfl) (by kernel_rfl) (by kernel_rfl) (fun _ _ _ h => h) (Or.inl ⟨by rfl, ?q2xy8⟩) (by assumption) ?_; (case q2xy8 => (intro w hSw; (try dsimp only at hSw); go_simp; (try with_reducible rfl))); (try simp only [Act.put, List.setIfInBounds_toArray, List.set_cons_zero, List.set_cons_succ]); refine wpAnyH_done (by kernel_rfl) ?_ _; refine NoPanic.normal ?_)
            go_wp2_with fail
            go_roundw
            case rel =>
              refine ⟨1, by omega, by go_num, HBf.out.trans (Below.drew (Below.refl _ _)), ?_, ?_, V, ?_⟩
              · exact z0
              · exact z1
              · rw [HE.out]; exact OwnLs_below HOf.out (Below.drew (Below.refl _ _))
            case measure => simp [intOf]
          · have hq1 : ((n : Int).tmod 512 != 0) = false := by rw [HMod.out, bne_eq_false_iff_eq]; omega
            (refine wp_region_noPanic ?_; refine wp_region_held_drew (S := fun w' : World => w'.cell? ⟨q, 0, none⟩ = some (.int .i64 (n : Int)) ∧ w'.cell? ⟨wr.heap.size, 0, none⟩ = some (.int .i64 512)) (by kernel_rfl) ?q3xb (fun hHeld => ?_); (case q3xb => ((try dsimp only); ((go_split_ands; (try dsimp only); (repeat' apply And.intro); all_goals (repeat (first | with_reducible assumption | (with_reducible refine (cell_set_ne ?_).trans ?_; omega) | (with_reducible refine cell_alloc _ ?_) | (with_reducible refine cell_drew ?_) | (with_reducible refine cell_drewN _ ?_))))))); refine wpAnyH_take (i := 0) (v := ?q3xv0) (by simp only [List.getElem?_toArray, List.getElem?_cons_zero]; exact rfl) (by kernel_rfl) (by kernel_rfl) (by kernel_rfl) (fun _ _ _ h => h) (Or.inl ⟨by rfl, ?q3xy0⟩) (by assumption) ?_; (case q3xy0 => (intro w hSw; (try dsimp only at hSw); go_simp; (try with_reducible rfl))); (try simp only [Act.put, List.setIfInBounds_toArray, List.set_cons_zero, List.set_cons_succ]); refine wpAnyH_take (i := 1) (v := ?q3xv1) (by simp only [List.getElem?_toArray, List.getElem?_cons_zero, List.getElem?_cons_succ]; exact rfl) (by kernel_rfl) (by kernel_rfl) (by kernel_rfl) (fun _ _ _ h => h) (Or.inl ⟨by rfl, ?q3xy1⟩) (by assumption) ?_; (case q3xy1 => (intro w hSw; (try dsimp only at hSw); go_simp; (try with_reducible rfl))); (try simp only [Act.put, List.setIfInBounds_toArray, List.set_cons_zero, List.set_cons_succ]); refine wpAnyH_take (i := 2) (v := ?q3xv2) (by simp only [List.getElem?_toArray, List.getElem?_cons_zero, List.getElem?_cons_succ]; exact rfl) (by kernel_rfl) (by kernel_rfl) (by kernel_rfl) (fun _ _ _ h => h) (Or.inl ⟨by rfl, ?q3xy2⟩) (by assumption) ?_; (case q3xy2 => (intro w hSw; (try dsimp only at hSw); go_simp; (try with_reducible rfl))); (try simp only [Act.put, List.setIfInBounds_toArray, List.set_cons_zero, List.set_cons_succ]); refine wpAnyH_take (i := 3) (v := ?q3xv3) (by simp only [List.getElem?_toArray, List.getElem?_cons_zero, List.getElem?_cons_succ]; exact rfl) (by kernel_rfl) (by kernel_rfl) (by kernel_rfl) (fun _ _ _ h => h) (Or.inl ⟨by rfl, ?q3xy3⟩) (by assumption) ?_; (case q3xy3 => (intro w hSw; (try dsimp only at hSw); go_simp; (try with_reducible rfl))); (try simp only [Act.put, List.setIfInBounds_toArray, List.set_cons_zero, List.set_cons_succ]); refine wpAnyH_take (i := 4) (v := ?q3xv4) (by simp only [List.getElem?_toArray, List.getElem?_cons_zero, List.getElem?_cons_succ]; exact rfl) (by kernel_rfl) (by kernel_rfl) (by kernel_rfl) (fun _ _ _ h => h) (Or.inl ⟨by rfl, ?q3xy4⟩) (by assumption) ?_; (case q3xy4 => (intro w hSw; (try dsimp only at hSw); go_simp; (try with_reducible rfl))); (try simp only [Act.put, List.setIfInBounds_toArray, List.set_cons_zero, List.set_cons_succ]); refine wpAnyH_take (i := 5) (v := ?q3xv5) (by simp only [List.getElem?_toArray, List.getElem?_cons_zero, List.getElem?_cons_succ]; exact rfl) (by kernel_rfl) (by kernel_rfl) (by kernel_rfl) (fun _ _ _ h => h) (Or.inl ⟨by rfl, ?q3xy5⟩) (by assumption) ?_; (case q3xy5 => (intro w hSw; (try dsimp only at hSw); go_simp; (try with_reducible rfl))); (try simp only [Act.put, List.setIfInBounds_toArray, List.set_cons_zero, List.set_cons_succ]); refine wpAnyH_take (i := 6) (v := ?q3xv6) (by simp only [List.getElem?_toArray, List.getElem?_cons_zero, List.getElem?_cons_succ]; exact rfl) (by kernel_rfl) (by kernel_rfl) (by kernel_rfl) (fun _ _ _ h => h) (Or.inl ⟨by rfl, ?q3xy6⟩) (by assumption) ?_; (case q3xy6 => (intro w hSw; (try dsimp only at hSw); go_simp; (try with_reducible rfl))); (try simp only [Act.put, List.setIfInBounds_toArray, List.set_cons_zero, List.set_cons_succ]); refine wpAnyH_take (i := 7) (v := ?q3xv7) (by simp only [List.getElem?_toArray, List.getElem?_cons_zero, List.getElem?_cons_succ]; exact rfl) (by kernel_rfl) (by kernel_rfl) (by kernel_rfl) (fun _ _ _ h => h) (Or.inl ⟨by rfl, ?q3xy7⟩) (by assumption) ?_; (case q3xy7 => (intro w hSw; (try dsimp only at hSw); go_simp; (try with_reducible rfl))); (try simp only [Act.put, List.setIfInBounds_toArray, List.set_cons_zero, List.set_cons_succ]); refine wpAnyH_take (i := 8) (v := ?q3xv8) (by simp only [List.getElem?_toArray, List.getElem?_cons_zero, List.getElem?_cons_succ]; exact rfl) (by kernel_rfl) (by kernel_rfl) (by kernel_rfl) (fun _ _ _ h => h) (Or.inl ⟨by rfl, ?q3xy8⟩) (by assumption) ?_; (case q3xy8 => (intro w hSw; (try dsimp only at hSw); go_simp; (try with_reducible rfl))); (try simp only [Act.put, List.setIfInBounds_toArray, List.set_cons_zero, List.set_cons_succ]); refine wpAnyH_done (by kernel_rfl) ?_ _; refine NoPanic.normal ?_)
            clear hq1
            obtain ⟨j, hj⟩ : ∃ j : Nat, j = 24 := ⟨_, rfl⟩
            have hj2 : (24 : Int) = (j : Int) := by rw [hj]; try rfl
            have hj25 : j < 25 := by omega
            obtain ⟨M, hM⟩ : ∃ M, M = advM n LL 0 := ⟨_, rfl⟩
            have HE := Lib.hid (show advM n LL 1 = movL (n : Int) j M by rw [advM_0, if_pos hd, hj, hM])
            obtain ⟨s, hs⟩ := advM_lay HM.out n 0
            rw [← hM] at hs HOf
            have HLay := Lib.hid hs
            have hMl := hs.1
            rw [hj2] at b1
            clear hM hs hj hj2 HMod hd
            obtain ⟨hV, hro, hrw, hd4, hd5⟩ := HOf.out
            rw [hMl] at hro
            have l1 := hro.cellAt j (by omega)
            have hVj : V[j]? = some (V.getD j undef) := by rw [List.getD_eq_getElem?_getD, List.getElem?_eq_getElem (by omega)]; rfl
            rw [hVj] at l1
            have lf := hro.frozenAt j
            have hRx := hrw j (by omega)
            obtain ⟨X, hX⟩ : ∃ X, X = M.getD j [] := ⟨_, rfl⟩
            obtain ⟨xv, hxv⟩ : ∃ xv, xv = V.getD j undef := ⟨_, rfl⟩
            have hfree : ∀ b, xv.ownBlock = some b → b ≠ g0 ∧ ∀ i, i < 25 → ((V.set j (.slice none 0 0)).getD i undef).ownBlock ≠ some b := by
              intro b hb
              rw [hxv] at hb
              refine ⟨fun e => hd4 j (by omega) b hb (by rw [e]; rfl), fun i hi hb' => ?_⟩
              by_cases e : j = i
              · subst e; rw [getD_set_eq (by omega)] at hb'; cases hb'
              · rw [getD_set_ne e] at hb'
                rcases Nat.lt_or_gt_of_ne e with h | h
                · exact hd5 j i h (by omega) b hb hb'
                · exact hd5 i j h (by omega) b hb' hb
            rw [← hX, ← hxv] at hRx
            rw [← hxv] at l1
            obtain ⟨ax, cx, rfl, _⟩ := owns_shape hRx
            have HX := Lib.hid hX
            have hX2 : X.length ≤ 200 := by rw [hX]; exact Nat.le_trans (HLay.out.len hj25) HM.out.tot
            have HRx := Lib.hid hRx
            have HFree := Lib.hid hfree
            have HSet := Lib.hid (OwnLs_set (w' := wf.drew) (v' := .slice none 0 0) (L' := []) (a := j) HOf.out (by omega) (by rw [hMl]) (fun b hb hne => rfl) (fun b hb => by cases hb) (by simpa using World.ownsRow_nil _ _ _ _))
            have j0 : (0 : Int) ≤ (j : Int) := by omega
            have j1 : (j : Int) < (25 : Int) := by omega
            have j2 : (j : Int) < 25 := by omega
            clear hV hro hrw hd4 hd5 hVj hRx hX hxv hfree
            go_wp2_with fail
            (refine wp_region_noPanic ?_; refine wp_region_held_drew (S := fun w' : World => w'.cell? ⟨q, 1, none⟩ = some (.slice (some ⟨g0, 0, none⟩) 25 cv) ∧ w'.cell? ⟨wr.heap.size, 1, none⟩ = some (.int .i64 (j : Int)) ∧ w'.cell? ⟨g0, j, none⟩ = some (.slice ax X.length cx)) (by kernel_rfl) ?q4xb (fun hHeld => ?_); (case q4xb => ((try dsimp only); ((go_split_ands; (try dsimp only); (repeat' apply And.intro); all_goals (repeat (first | with_reducible assumption | (with_reducible refine (cell_set_ne ?_).trans ?_; omega) | (with_reducible refine cell_alloc _ ?_) | (with_reducible refine cell_drew ?_) | (with_reducible refine cell_drewN _ ?_))))))); refine wpAnyH_take (i := 0) (v := ?q4xv0) (by simp only [List.getElem?_toArray, List.getElem?_cons_zero]; exact rfl) (by kernel_rfl) (by kernel_rfl) (by kernel_rfl) (fun _ _ _ h => h) (Or.inl ⟨by rfl, ?q4xy0⟩) (by assumption) ?_; (case q4xy0 => (intro w hSw; (try dsimp only at hSw); go_simp; (try with_reducible rfl))); (try simp only [Act.put, List.setIfInBounds_toArray, List.set_cons_zero, List.set_cons_succ]); refine wpAnyH_take (i := 1) (v := ?q4xv1) (by simp only [List.getElem?_toArray, List.getElem?_cons_zero, List.getElem?_cons_succ]; exact rfl) (by kernel_rfl) (by kernel_rfl) (by kernel_rfl) (fun _ _ _ h => h) (Or.inl ⟨by rfl, ?q4xy1⟩) (by assumption) ?_; (case q4xy1 => (intro w hSw; (try dsimp only at hSw); go_simp; (try with_reducible rfl))); (try simp only [Act.put, List.setIfInBounds_toArray, List.set_cons_zero, List.set_cons_succ]); refine wpAnyH_take (i := 2) (v := ?q4xv2) (by simp only [List.getElem?_toArray, List.getElem?_cons_zero, List.getElem?_cons_succ]; exact rfl) (by kernel_rfl) (by kernel_rfl) (by kernel_rfl) (fun _ _ _ h => h) (Or.inl ⟨by rfl, ?q4xy2⟩) (by assumption) ?_; (case q4xy2 => (intro w hSw; (try dsimp only at hSw); go_simp; (try with_reducible rfl))); (try simp only [Act.put, List.setIfInBounds_toArray, List.set_cons_zero, List.set_cons_succ]); refine wpAnyH_take (i := 3) (v := ?q4xv3) (by simp only [List.getElem?_toArray, List.getElem?_cons_zero, List.getElem?_cons_succ]; exact rfl) (by kernel_rfl) (by kernel_rfl) (by kernel_rfl) (fun _ _ _ h => h) (Or.inl ⟨by rfl, ?q4xy3⟩) (by assumption) ?_; (case q4xy3 => (intro w hSw; (try dsimp only at hSw); go_simp; (try with_reducible rfl))); (try simp only [Act.put, List.setIfInBounds_toArray, List.set_cons_zero, List.set_cons_succ]); refine wpAnyH_take (i := 4) (v := ?q4xv4) (by simp only [List.getElem?_toArray, List.getElem?_cons_zero, List.getElem?_cons_succ]; exact rfl) (by kernel_rfl) (by kernel_rfl) (by kernel_rfl) (fun _ _ _ h => h) (Or.inl ⟨by rfl, ?q4xy4⟩) (by assumption) ?_; (case q4xy4 => (intro w hSw; (try dsimp only at hSw); go_simp; (try with_reducible rfl))); (try simp only [Act.put, List.setIfInBounds_toArray, List.set_cons_zero, List.set_cons_succ]); refine wpAnyH_take (i := 5) (v := ?q4xv5) (by simp only [List.getElem?_toArray, List.getElem?_cons_zero, List.getElem?_cons_succ]; exact rfl) (by kernel_rfl) (by kernel_rfl) (by kernel_rfl) (fun _ _ _ h => h) (Or.inl ⟨by rfl, ?q4xy5⟩) (by assumption) ?_; (case q4xy5 => (intro w hSw; (try dsimp only at hSw); go_simp; (try with_reducible rfl))); (try simp only [Act.put, List.setIfInBounds_toArray, List.set_cons_zero, List.set_cons_succ]); refine wpAnyH_take (i := 6) (v := ?q4xv6) (by simp only [List.getElem?_toArray, List.getElem?_cons_zero, List.getElem?_cons_succ]; exact rfl) (by kernel_rfl) (by kernel_rfl) (by kernel_rfl) (fun _ _ _ h => h) (Or.inl ⟨by rfl, ?q4xy6⟩) (by assumption) ?_; (case q4xy6 => (intro w hSw; (try dsimp only at hSw); go_simp; (try with_reducible rfl))); (try simp only [Act.put, List.setIfInBounds_toArray, List.set_cons_zero, List.set_cons_succ]); refine wpAnyH_take (i := 7) (v := ?q4xv7) (by simp only [List.getElem?_toArray, List.getElem?_cons_zero, List.getElem?_cons_succ]; exact rfl) (by kernel_rfl) (by kernel_rfl) (by kernel_rfl) (fun _ _ _ h => h) (Or.inl ⟨by rfl, ?q4xy7⟩) (by assumption) ?_; (case q4xy7 => (intro w hSw; (try dsimp only at hSw); go_simp; (try with_reducible rfl))); (try simp only [Act.put, List.setIfInBounds_toArray, List.set_cons_zero, List.set_cons_succ]); refine wpAnyH_take (i := 8) (v := ?q4xv8) (by simp only [List.getElem?_toArray, List.getElem?_cons_zero, List.getElem?_cons_succ]; exact rfl) (by kernel_rfl) (by kernel_rfl) (by kernel_rfl) (fun _ _ _ h => h) (Or.inl ⟨by rfl, ?q4xy8⟩) (by assumption) ?_; (case q4xy8 => (intro w hSw; (try dsimp only at hSw); go_simp; (try with_reducible rfl))); (try simp only [Act.put, List.setIfInBounds_toArray, List.set_cons_zero, List.set_cons_succ]); refine wpAnyH_take (i := 9) (v := ?q4xv9) (by simp only [List.getElem?_toArray, List.getElem?_cons_zero, List.getElem?_cons_succ]; exact rfl) (by kernel_rfl) (by kernel_rfl) (by kernel_rfl) (fun _ _ _ h => h) (Or.inl ⟨by rfl, ?q4xy9⟩) (by assumption) ?_; (case q4xy9 => (intro w hSw; (try dsimp only at hSw); go_simp; (try with_reducible rfl))); (try simp only [Act.put, List.setIfInBounds_toArray, List.set_cons_zero, List.set_cons_succ]); refine wpAnyH_done (by kernel_rfl) ?_ _; refine NoPanic.normal ?_)
            go_wp2_with fail
            (refine wp_region_noPanic ?_; refine wp_region_held_drew (S := fun w' : World => w'.cell? ⟨q, 1, none⟩ = some (.slice (some ⟨g0, 0, none⟩) 25 cv) ∧ w'.cell? ⟨wr.heap.size, 1, none⟩ = some (.int .i64 (j : Int))) (by kernel_rfl) ?q5xb (fun hHeld => ?_); (case q5xb => ((try dsimp only); ((go_split_ands; (try dsimp only); (repeat' apply And.intro); all_goals (repeat (first | with_reducible assumption | (with_reducible refine (cell_set_ne ?_).trans ?_; omega) | (with_reducible refine cell_alloc _ ?_) | (with_reducible refine cell_drew ?_) | (with_reducible refine cell_drewN _ ?_))))))); refine wpAnyH_take (i := 0) (v := ?q5xv0) (by simp only [List.getElem?_toArray, List.getElem?_cons_zero]; exact rfl) (by kernel_rfl) (by kernel_rfl) (by kernel_rfl) (fun _ _ _ h => h) (Or.inl ⟨by rfl, ?q5xy0⟩) (by assumption) ?_; (case q5xy0 => (intro w hSw; (try dsimp only at hSw); go_simp; (try with_reducible rfl))); (try simp only [Act.put, List.setIfInBounds_toArray, List.set_cons_zero, List.set_cons_succ]); refine wpAnyH_take (i := 1) (v := ?q5xv1) (by simp only [List.getElem?_toArray, List.getElem?_cons_zero, List.getElem?_cons_succ]; exact rfl) (by kernel_rfl) (by kernel_rfl) (by kernel_rfl) (fun _ _ _ h => h) (Or.inl ⟨by rfl, ?q5xy1⟩) (by assumption) ?_; (case q5xy1 => (intro w hSw; (try dsimp only at hSw); go_simp; (try with_reducible rfl))); (try simp only [Act.put, List.setIfInBounds_toArray, List.set_cons_zero, List.set_cons_succ]); refine wpAnyH_take (i := 2) (v := ?q5xv2) (by simp only [List.getElem?_toArray, List.getElem?_cons_zero, List.getElem?_cons_succ]; exact rfl) (by kernel_rfl) (by kernel_rfl) (by kernel_rfl) (fun _ _ _ h => h) (Or.inl ⟨by rfl, ?q5xy2⟩) (by assumption) ?_; (case q5xy2 => (intro w hSw; (try dsimp only at hSw); go_simp; (try with_reducible rfl))); (try simp only [Act.put, List.setIfInBounds_toArray, List.set_cons_zero, List.set_cons_succ]); refine wpAnyH_take (i := 3) (v := ?q5xv3) (by simp only [List.getElem?_toArray, List.getElem?_cons_zero, List.getElem?_cons_succ]; exact rfl) (by kernel_rfl) (by kernel_rfl) (by kernel_rfl) (fun _ _ _ h => h) (Or.inl ⟨by rfl, ?q5xy3⟩) (by assumption) ?_; (case q5xy3 => (intro w hSw; (try dsimp only at hSw); go_simp; (try with_reducible rfl))); (try simp only [Act.put, List.setIfInBounds_toArray, List.set_cons_zero, List.set_cons_succ]); refine wpAnyH_take (i := 4) (v := ?q5xv4) (by simp only [List.getElem?_toArray, List.getElem?_cons_zero, List.getElem?_cons_succ]; exact rfl) (by kernel_rfl) (by kernel_rfl) (by kernel_rfl) (fun _ _ _ h => h) (Or.inl ⟨by rfl, ?q5xy4⟩) (by assumption) ?_; (case q5xy4 => (intro w hSw; (try dsimp only at hSw); go_simp; (try with_reducible rfl))); (try simp only [Act.put, List.setIfInBounds_toArray, List.set_cons_zero, List.set_cons_succ]); refine wpAnyH_take (i := 5) (v := ?q5xv5) (by simp only [List.getElem?_toArray, List.getElem?_cons_zero, List.getElem?_cons_succ]; exact rfl) (by kernel_rfl) (by kernel_rfl) (by kernel_rfl) (fun _ _ _ h => h) (Or.inl ⟨by rfl, ?q5xy5⟩) (by assumption) ?_; (case q5xy5 => (intro w hSw; (try dsimp only at hSw); go_simp; (try with_reducible rfl))); (try simp only [Act.put, List.setIfInBounds_toArray, List.set_cons_zero, List.set_cons_succ]); refine wpAnyH_take (i := 6) (v := ?q5xv6) (by simp only [List.getElem?_toArray, List.getElem?_cons_zero, List.getElem?_cons_succ]; exact rfl) (by kernel_rfl) (by kernel_rfl) (by kernel_rfl) (fun _ _ _ h => h) (Or.inl ⟨by rfl, ?q5xy6⟩) (by assumption) ?_; (case q5xy6 => (intro w hSw; (try dsimp only at hSw); go_simp; (try with_reducible rfl))); (try simp only [Act.put, List.setIfInBounds_toArray, List.set_cons_zero, List.set_cons_succ]); refine wpAnyH_take (i := 7) (v := ?q5xv7) (by simp only [List.getElem?_toArray, List.getElem?_cons_zero, List.getElem?_cons_succ]; exact rfl) (by kernel_rfl) (by kernel_rfl) (by kernel_rfl) (fun _ _ _ h => h) (Or.inl ⟨by rfl, ?q5xy7⟩) (by assumption) ?_; (case q5xy7 => (intro w hSw; (try dsimp only at hSw); go_simp; (try with_reducible rfl))); (try simp only [Act.put, List.setIfInBounds_toArray, List.set_cons_zero, List.set_cons_succ]); refine wpAnyH_ready (rs := [8]) (by kernel_rfl) (by simp) ?_; refine AllReadyH.cons (by simp only [List.getElem?_toArray, List.getElem?_cons_zero, List.getElem?_cons_succ]; exact rfl) (fun K hK => ?_) AllReadyH.nil; go_simp; refine hK.out _ _ ?q5xs8 (fun hHeld => ?_); (case q5xs8 => ((try dsimp only); ((go_split_ands; (try dsimp only); (repeat' apply And.intro); all_goals (repeat (first | with_reducible assumption | (with_reducible refine (cell_set_ne ?_).trans ?_; omega) | (with_reducible refine cell_alloc _ ?_) | (with_reducible refine cell_drew ?_) | (with_reducible refine cell_drewN _ ?_))))))); clear hK K; (try simp only [Act.put, List.setIfInBounds_toArray, List.set_cons_zero, List.set_cons_succ]); refine wpAnyH_done (by kernel_rfl) ?_ _; refine NoPanic.normal ?_)
            go_wp2_with fail
            obtain ⟨ws, hws⟩ : ∃ ws, ws = (wf.setCell ⟨g0, j, none⟩ (.slice none 0 0)).drew.drew.drew := ⟨_, rfl⟩
            have z0 : ws.cell? ⟨q, 0, none⟩ = some (.int .i64 (n : Int)) := by rw [hws]; exact (cell_set_ne (by omega)).trans z0
            have z1 : ws.cell? ⟨q, 1, none⟩ = some (.slice (some ⟨g0, 0, none⟩) 25 cv) := by rw [hws]; exact (cell_set_ne (by omega)).trans z1
            have HBs : Hid (Below q w2 ws) := by rw [hws]; exact Below.drew (Below.drew (Below.drew (Below.setCell (p := ⟨g0, j, none⟩) HBf.out (by show q ≤ g0; omega) _)))
            have HOs : Hid (OwnLs (q + 1) ws (.slice (some ⟨g0, 0, none⟩) 25 cv) (M.set j []) (V.set j (.slice none 0 0))) := by rw [hws]; exact OwnLs_move HSet.out (fun b _ _ => rfl)
            have HRs : Hid (ws.ownsRow (q + 1) 43 2 (.slice ax X.length cx) X.length (X.map Tm.cells).flatten) := by
              rw [hws]
              exact own_move HRx.out (fun b hb => Below.heap_setCell _ _ _ _ (HFree.out b hb).1)
            have hzs : wf.heap.size = ws.heap.size := by rw [hws]; simp
            rw [← hws]
            clear hws HSet HRx HOf HBf l1 lf b0 b1
            go_loopw [89] (fun i wp => ∃ m : Nat, m ≤ X.length ∧ i = .int .i64 m ∧ AvIn q g0 w2 ws wp n cv (.slice ax X.length cx) (pinsL (n : Int) (M.set j []) (X.take m)) X) (fun i _ => X.length - (intOf i).toNat)
            case atStart => exact ⟨0, Nat.zero_le _, rfl, HBs.out, Nat.le_refl _, z0, z1, HRs.out, _, HOs.out, HFree.out⟩
            case round =>
              obtain ⟨m, hm, rfl, hB, hzp, z0, z1, hR, V2, hO, hF⟩ := hrel
              have HB := Lib.hid hB
              have HO := Lib.hid hO
              have HR := Lib.hid hR
              have HF := Lib.hid hF
              clear hB hO hR hF HBs HOs HRs HFree
              rcases (show m < X.length ∨ m = X.length by omega) with hml | rfl
              · have hml' : (m : Int) < (X.length : Int) := by omega
                have p0 : (0 : Int) ≤ (m : Int) := by omega
                obtain ⟨_, _, e0, _, _, _, pt⟩ := RowAt_fn Tm.zero (RowNew_of_owns HR.out (by rw [List.length_map]) (lenc_Tm _)).1
                injection e0 with e01 _ e03
                subst e01; subst e03
                obtain ⟨bx, ox, rfl, hbx, q1⟩ := pt (by intro h; rw [h] at hml; simp at hml)
                obtain ⟨t, ht⟩ : ∃ t, t = X.getD m Tm.zero := ⟨_, rfl⟩
                have d0 := q1 m 0 hml (by omega)
                have d1 := q1 m 1 hml (by omega)
                rw [← ht] at d0 d1
                have HTk := Lib.hid (tm_take ht hml)
                have HTm := Lib.hid (tm_mem ht hml)
                obtain ⟨t0, t1⟩ := t
                simp only [Tm.cells, List.getElem?_cons_zero, List.getElem?_cons_succ, Nat.add_zero] at d0 d1
                have HTE := Lib.hid (HM.out.tm _ (HLay.out.mem hj25 _ (by rw [← HX.out]; exact HTm.out)))
                obtain ⟨A, rfl⟩ := Int.eq_ofNat_of_zero_le (show 0 ≤ t0 by have := HTE.out.1; simp at this; omega)
                have hA2 : A ≤ 2199023255552 := by have := HTE.out.2.2.1; simp at this; omega
                have hN2 : n ≤ 2199023255552 := by have := HN.out; omega
                have HPk := Lib.hid (pins_ok HLay.out (n : Int) hj25 m)
                rw [← HX.out] at HPk
                obtain ⟨Y, hY⟩ : ∃ Y, Y = pinsL (n : Int) (M.set j []) (X.take m) := ⟨_, rfl⟩
                have HY := Lib.hid hY
                rw [← hY] at HPk HO
                have hplt := placeN_lt A n
                have hET := HM.out.tot
                have hor := (HPk.out.2 _ hplt).1
                have hln : (Y.getD (placeN A n) []).length ≤ 100000 := by have := (HPk.out.2 _ hplt).2; omega
                have HOr := Lib.hid hor
                have HLn2 := Lib.hid hln
                have HY25 := Lib.hid HPk.out.1
                clear ht q1 pt hY hor hln hET
                go_wp2_with fail
                have hba : Below wr.heap.size wr (wr.alloc (.cells #[.int .i64 (A : Int), .int .i64 t1] 43)) := (Below.refl _ _).alloc (Nat.le_refl _) _
                refine (prog_putC q A n t1 _ Y V2 _ (by simp; omega) (cell_below hba z0 (by omega)) (cell_below hba z1 (by omega)) (OwnLs_below HO.out hba) HY25.out hA2 hN2 _ rfl HOr.out HLn2.out).mono ?_
                rintro e w5 ⟨v5, rfl, hown5, hz5, hk5, hn5, hb5⟩
                have hk6 : ∀ b, b < wr.heap.size → b ≠ g0 → (V2.getD (placeN A n) undef).ownBlock ≠ some b → w5.heap[b]? = wr.heap[b]? := fun b h1 h2 h3 =>
                  (hk5 b (by simp; omega) (fun e => h2 (Option.some.inj e).symm) h3).trans (hba.block b h1)
                have hV2 : placeN A n < V2.length := by rw [HO.out.1, HY25.out]; exact hplt
                have hbx' : (Value.slice (some ⟨bx, ox, none⟩) X.length cx).ownBlock = some bx := rfl
                have HF6 := Lib.hid (HF.out bx hbx')
                have hbx6 : w5.heap[bx]? = wr.heap[bx]? := hk6 bx hbx HF6.out.1 (HF6.out.2 _ hplt)
                have z0 : w5.cell? ⟨q, 0, none⟩ = some (.int .i64 (n : Int)) := (hb5.cell (p := ⟨q, 0, none⟩) (by simp)).trans (cell_below hba z0 (by omega))
                have z1 : w5.cell? ⟨q, 1, none⟩ = some (.slice (some ⟨g0, 0, none⟩) 25 cv) := (hb5.cell (p := ⟨q, 1, none⟩) (by simp)).trans (cell_below hba z1 (by omega))
                have HB5 := Lib.hid ((HB.out.trans (hba.mono (by omega))).trans (hb5.mono (by omega)))
                have HR5 := Lib.hid (own_move HR.out (fun b hb => by obtain rfl : bx = b := Option.some.inj hb; exact hbx6))
                have hzp5 : ws.heap.size ≤ w5.heap.size := by simp at hz5; omega
                have HO5 : Hid (OwnLs (q + 1) w5 (.slice (some ⟨g0, 0, none⟩) 25 cv) (pinsL (n : Int) (M.set j []) (X.take (m + 1))) (V2.set (placeN A n) v5)) := by
                  have e : plc ⟨(A : Int), t1⟩ (n : Int) = placeN A n := plc_nat rfl rfl
                  show OwnLs _ _ _ _ _
                  rw [HTk.out, pinsL_snoc, ← HY.out]
                  unfold pinL
                  rw [e]
                  exact hown5
                have HFr : Hid (∀ b, (Value.slice (some ⟨bx, ox, none⟩) X.length cx).ownBlock = some b → b ≠ g0 ∧ ∀ i, i < 25 → ((V2.set (placeN A n) v5).getD i undef).ownBlock ≠ some b) := fun b hb => by
                  obtain rfl : bx = b := Option.some.inj hb
                  refine ⟨HF6.out.1, fun i hi hc => ?_⟩
                  by_cases e : placeN A n = i
                  · subst e
                    rw [getD_set_eq hV2] at hc
                    rcases hn5 bx hc with h | h
                    · exact HF6.out.2 _ hplt h
                    · simp at h; omega
                  · rw [getD_set_ne e] at hc
                    exact HF6.out.2 i hi hc
                clear hown5 hk5 hk6 hn5 hb5 hbx6 hbx' HF6 hba HB HR HO HF
                go_wp2_with fail
                go_roundw
                case rel => exact ⟨m + 1, by omega, by go_num, HB5.out, hzp5, z0, z1, HR5.out, _, HO5.out, HFr.out⟩
                case measure => simp [intOf]; omega
              · have hge : ¬ ((X.length : Nat) : Int) < (X.length : Int) := by omega
                have HEq := Lib.hid (show pinsL (n : Int) (M.set j []) (X.take X.length) = advM n LL 1 by rw [HE.out, List.take_length]; unfold movL; rw [HX.out])
                rw [HEq.out] at HO
                go_wp2_with fail
                go_roundw
                case rel => exact ⟨_, _, _, _, ⟨1, by omega, rfl, HB.out, z0, z1, _, HO.out⟩, rfl, rfl, rfl, rfl⟩
                case measure => simp [intOf]
        · rw [show ((1 : Nat) : Int) = 1 from rfl]
          have hix := fun W => (idx3 512 24 64 L1 8 L2 W).2.1
          go_wp2_with fail
          obtain ⟨wf, hwf⟩ : ∃ wf, wf = wr.alloc (.cells #[.int .i64 64, .int .i64 (L1 : Int)] 54) := ⟨_, rfl⟩
          have b0 : wf.cell? ⟨wr.heap.size, 0, none⟩ = some (.int .i64 64) := by rw [hwf]; go_simp
          have b1 : wf.cell? ⟨wr.heap.size, 1, none⟩ = some (.int .i64 (L1 : Int)) := by rw [hwf]; go_simp
          have hbf : Below wr.heap.size wr wf := by rw [hwf]; exact (Below.refl _ _).alloc (Nat.le_refl _) _
          have hzf : wf.heap.size = wr.heap.size + 1 := by rw [hwf]; simp
          have z0 := cell_below hbf z0 (by omega)
          have z1 := cell_below hbf z1 (by omega)
          have HBf := Lib.hid (HB.out.trans (hbf.mono (by omega)))
          have HOf := Lib.hid (OwnLs_below HO.out hbf)
          rw [← hwf]
          clear hwf hbf HB HO hix
          have hmod : (n : Int).tmod 64 = ((n % 64 : Nat) : Int) := by rw [Int.tmod_eq_emod_of_nonneg (by omega)]; omega
          have HMod := Lib.hid hmod
          clear hmod
          by_cases hd : n % 64 = 0
          rotate_left
          · have HE := Lib.hid (show advM n LL 2 = advM n LL 1 by rw [advM_1, if_neg hd])
            have hq1 : ((n : Int).tmod 64 != 0) = true := by rw [HMod.out, bne_iff_ne]; omega
            (refine wp_region_noPanic ?_; refine wp_region_held_drew (S := fun w' : World => w'.cell? ⟨q, 0, none⟩ = some (.int .i64 (n : Int)) ∧ w'.cell? ⟨wr.heap.size, 0, none⟩ = some (.int .i64 64)) (by kernel_rfl) ?q6xb (fun hHeld => ?_); (case q6xb => ((try dsimp only); ((go_split_ands; (try dsimp only); (repeat' apply And.intro); all_goals (repeat (first | with_reducible assumption | (with_reducible refine (cell_set_ne ?_).trans ?_; omega) | (with_reducible refine cell_alloc _ ?_) | (with_reducible refine cell_drew ?_) | (with_reducible refine cell_drewN _ ?_))))))); refine wpAnyH_take (i := 0) (v := ?q6xv0) (by simp only [List.getElem?_toArray, List.getElem?_cons_zero]; exact rfl) (by kernel_rfl) (by kernel_rfl) (by kernel_rfl) (fun _ _ _ h => h) (Or.inl ⟨by rfl, ?q6xy0⟩) (by assumption) ?_; (case q6xy0 => (intro w hSw; (try dsimp only at hSw); go_simp; (try with_reducible rfl))); (try simp only [Act.put, List.setIfInBounds_toArray, List.set_cons_zero, List.set_cons_succ]); refine wpAnyH_take (i := 1) (v := ?q6xv1) (by simp only [List.getElem?_toArray, List.getElem?_cons_zero, List.getElem?_cons_succ]; exact rfl) (by kernel_rfl) (by kernel_rfl) (by kernel_rfl) (fun _ _ _ h => h) (Or.inl ⟨by rfl, ?q6xy1⟩) (by assumption) ?_; (case q6xy1 => (intro w hSw; (try dsimp only at hSw); go_simp; (try with_reducible rfl))); (try simp only [Act.put, List.setIfInBounds_toArray, List.set_cons_zero, List.set_cons_succ]); refine wpAnyH_take (i := 2) (v := ?q6xv2) (by simp only [List.getElem?_toArray, List.getElem?_cons_zero, List.getElem?_cons_succ]; exact rfl) (by kernel_rfl) (by kernel_rfl) (by kernel_rfl) (fun _ _ _ h => h) (Or.inl ⟨by rfl, ?q6xy2⟩) (by assumption) ?_; (case q6xy2 => (intro w hSw; (try dsimp only at hSw); go_simp; (try with_reducible rfl))); (try simp only [Act.put, List.setIfInBounds_toArray, List.set_cons_zero, List.set_cons_succ]); refine wpAnyH_take (i := 3) (v := ?q6xv3) (by simp only [List.getElem?_toArray, List.getElem?_cons_zero, List.getElem?_cons_succ]; exact rfl) (by kernel_rfl) (by kernel_rfl) (by kernel_rfl) (fun _ _ _ h => h) (Or.inl ⟨by rfl, ?q6xy3⟩) (by assumption) ?_; (case q6xy3 => (intro w hSw; (try dsimp only at hSw); go_simp; (try with_reducible rfl))); (try simp only [Act.put, List.setIfInBounds_toArray, List.set_cons_zero, List.set_cons_succ]); refine wpAnyH_take (i := 4) (v := ?q6xv4) (by simp only [List.getElem?_toArray, List.getElem?_cons_zero, List.getElem?_cons_succ]; exact rfl) (by kernel_rfl) (by kernel_rfl) (by kernel_rfl) (fun _ _ _ h => h) (Or.inl ⟨by rfl, ?q6xy4⟩) (by assumption) ?_; (case q6xy4 => (intro w hSw; (try dsimp only at hSw); go_simp; (try with_reducible rfl))); (try simp only [Act.put, List.setIfInBounds_toArray, List.set_cons_zero, List.set_cons_succ]); refine wpAnyH_take (i := 5) (v := ?q6xv5) (by simp only [List.getElem?_toArray, List.getElem?_cons_zero, List.getElem?_cons_succ]; exact rfl) (by kernel_rfl) (by kernel_rfl) (by kernel_rfl) (fun _ _ _ h => h) (Or.inl ⟨by rfl, ?q6xy5⟩) (by assumption) ?_; (case q6xy5 => (intro w hSw; (try dsimp only at hSw); go_simp; (try with_reducible rfl))); (try simp only [Act.put, List.setIfInBounds_toArray, List.set_cons_zero, List.set_cons_succ]); refine wpAnyH_take (i := 6) (v := ?q6xv6) (by simp only [List.getElem?_toArray, List.getElem?_cons_zero, List.getElem?_cons_succ]; exact rfl) (by kernel_rfl) (by kernel_rfl) (by kernel_rfl) (fun _ _ _ h => h) (Or.inl ⟨by rfl, ?q6xy6⟩) (by assumption) ?_; (case q6xy6 => (intro w hSw; (try dsimp only at hSw); go_simp; (try with_reducible rfl))); (try simp only [Act.put, List.setIfInBounds_toArray, List.set_cons_zero, List.set_cons_succ]); refine wpAnyH_take (i := 7) (v := ?q6xv7) (by simp only [List.getElem?_toArray, List.getElem?_cons_zero, List.getElem?_cons_succ]; exact rfl) (by kernel_rfl) (by kernel_rfl) (by kernel_rfl) (fun _ _ _ h => h) (Or.inl ⟨by rfl, ?q6xy7⟩) (by assumption) ?_; (case q6xy7 => (intro w hSw; (try dsimp only at hSw); go_simp; (try with_reducible rfl))); (try simp only [Act.put, List.setIfInBounds_toArray, List.set_cons_zero, List.set_cons_succ]); refine wpAnyH_take (i := 8) (v := ?q6xv8) (by simp only [List.getElem?_toArray, List.getElem?_cons_zero, List.getElem?_cons_succ]; exact rfl) (by kernel_rfl) (by kernel_rfl) (by kernel_rfl) (fun _ _ _ h => h) (Or.inl ⟨by rfl, ?q6xy8⟩) (by assumption) ?_; (case q6xy8 => (intro w hSw; (try dsimp only at hSw); go_simp; (try with_reducible rfl))); (try simp only [Act.put, List.setIfInBounds_toArray, List.set_cons_zero, List.set_cons_succ]); refine wpAnyH_done (by kernel_rfl) ?_ _; refine NoPanic.normal ?_)
            go_wp2_with fail
            go_roundw
            case rel =>
              refine ⟨2, by omega, by go_num, HBf.out.trans (Below.drew (Below.refl _ _)), ?_, ?_, V, ?_⟩
              · exact z0
              · exact z1
              · rw [HE.out]; exact OwnLs_below HOf.out (Below.drew (Below.refl _ _))
            case measure => simp [intOf]
          · have hq1 : ((n : Int).tmod 64 != 0) = false := by rw [HMod.out, bne_eq_false_iff_eq]; omega
            (refine wp_region_noPanic ?_; refine wp_region_held_drew (S := fun w' : World => w'.cell? ⟨q, 0, none⟩ = some (.int .i64 (n : Int)) ∧ w'.cell? ⟨wr.heap.size, 0, none⟩ = some (.int .i64 64)) (by kernel_rfl) ?q7xb (fun hHeld => ?_); (case q7xb => ((try dsimp only); ((go_split_ands; (try dsimp only); (repeat' apply And.intro); all_goals (repeat (first | with_reducible assumption | (with_reducible refine (cell_set_ne ?_).trans ?_; omega) | (with_reducible refine cell_alloc _ ?_) | (with_reducible refine cell_drew ?_) | (with_reducible refine cell_drewN _ ?_))))))); refine wpAnyH_take (i := 0) (v := ?q7xv0) (by simp only [List.getElem?_toArray, List.getElem?_cons_zero]; exact rfl) (by kernel_rfl) (by kernel_rfl) (by kernel_rfl) (fun _ _ _ h => h) (Or.inl ⟨by rfl, ?q7xy0⟩) (by assumption) ?_; (case q7xy0 => (intro w hSw; (try dsimp only at hSw); go_simp; (try with_reducible rfl))); (try simp only [Act.put, List.setIfInBounds_toArray, List.set_cons_zero, List.set_cons_succ]); refine wpAnyH_take (i := 1) (v := ?q7xv1) (by simp only [List.getElem?_toArray, List.getElem?_cons_zero, List.getElem?_cons_succ]; exact rfl) (by kernel_rfl) (by kernel_rfl) (by kernel_rfl) (fun _ _ _ h => h) (Or.inl ⟨by rfl, ?q7xy1⟩) (by assumption) ?_; (case q7xy1 => (intro w hSw; (try dsimp only at hSw); go_simp; (try with_reducible rfl))); (try simp only [Act.put, List.setIfInBounds_toArray, List.set_cons_zero, List.set_cons_succ]); refine wpAnyH_take (i := 2) (v := ?q7xv2) (by simp only [List.getElem?_toArray, List.getElem?_cons_zero, List.getElem?_cons_succ]; exact rfl) (by kernel_rfl) (by kernel_rfl) (by kernel_rfl) (fun _ _ _ h => h) (Or.inl ⟨by rfl, ?q7xy2⟩) (by assumption) ?_; (case q7xy2 => (intro w hSw; (try dsimp only at hSw); go_simp; (try with_reducible rfl))); (try simp only [Act.put, List.setIfInBounds_toArray, List.set_cons_zero, List.set_cons_succ]); refine wpAnyH_take (i := 3) (v := ?q7xv3) (by simp only [List.getElem?_toArray, List.getElem?_cons_zero, List.getElem?_cons_succ]; exact rfl) (by kernel_rfl) (by kernel_rfl) (by kernel_rfl) (fun _ _ _ h => h) (Or.inl ⟨by rfl, ?q7xy3⟩) (by assumption) ?_; (case q7xy3 => (intro w hSw; (try dsimp only at hSw); go_simp; (try with_reducible rfl))); (try simp only [Act.put, List.setIfInBounds_toArray, List.set_cons_zero, List.set_cons_succ]); refine wpAnyH_take (i := 4) (v := ?q7xv4) (by simp only [List.getElem?_toArray, List.getElem?_cons_zero, List.getElem?_cons_succ]; exact rfl) (by kernel_rfl) (by kernel_rfl) (by kernel_rfl) (fun _ _ _ h => h) (Or.inl ⟨by rfl, ?q7xy4⟩) (by assumption) ?_; (case q7xy4 => (intro w hSw; (try dsimp only at hSw); go_simp; (try with_reducible rfl))); (try simp only [Act.put, List.setIfInBounds_toArray, List.set_cons_zero, List.set_cons_succ]); refine wpAnyH_take (i := 5) (v := ?q7xv5) (by simp only [List.getElem?_toArray, List.getElem?_cons_zero, List.getElem?_cons_succ]; exact rfl) (by kernel_rfl) (by kernel_rfl) (by kernel_rfl) (fun _ _ _ h => h) (Or.inl ⟨by rfl, ?q7xy5⟩) (by assumption) ?_; (case q7xy5 => (intro w hSw; (try dsimp only at hSw); go_simp; (try with_reducible rfl))); (try simp only [Act.put, List.setIfInBounds_toArray, List.set_cons_zero, List.set_cons_succ]); refine wpAnyH_take (i := 6) (v := ?q7xv6) (by simp only [List.getElem?_toArray, List.getElem?_cons_zero, List.getElem?_cons_succ]; exact rfl) (by kernel_rfl) (by kernel_rfl) (by kernel_rfl) (fun _ _ _ h => h) (Or.inl ⟨by rfl, ?q7xy6⟩) (by assumption) ?_; (case q7xy6 => (intro w hSw; (try dsimp only at hSw); go_simp; (try with_reducible rfl))); (try simp only [Act.put, List.setIfInBounds_toArray, List.set_cons_zero, List.set_cons_succ]); refine wpAnyH_take (i := 7) (v := ?q7xv7) (by simp only [List.getElem?_toArray, List.getElem?_cons_zero, List.getElem?_cons_succ]; exact rfl) (by kernel_rfl) (by kernel_rfl) (by kernel_rfl) (fun _ _ _ h => h) (Or.inl ⟨by rfl, ?q7xy7⟩) (by assumption) ?_; (case q7xy7 => (intro w hSw; (try dsimp only at hSw); go_simp; (try with_reducible rfl))); (try simp only [Act.put, List.setIfInBounds_toArray, List.set_cons_zero, List.set_cons_succ]); refine wpAnyH_take (i := 8) (v := ?q7xv8) (by simp only [List.getElem?_toArray, List.getElem?_cons_zero, List.getElem?_cons_succ]; exact rfl) (by kernel_rfl) (by kernel_rfl) (by kernel_rfl) (fun _ _ _ h => h) (Or.inl ⟨by rfl, ?q7xy8⟩) (by assumption) ?_; (case q7xy8 => (intro w hSw; (try dsimp only at hSw); go_simp; (try with_reducible rfl))); (try simp only [Act.put, List.setIfInBounds_toArray, List.set_cons_zero, List.set_cons_succ]); refine wpAnyH_done (by kernel_rfl) ?_ _; refine NoPanic.normal ?_)
            clear hq1
            obtain ⟨j, hj⟩ : ∃ j : Nat, j = L1 := ⟨_, rfl⟩
            have hj2 : ((L1 : Int) : Int) = (j : Int) := by rw [hj]; try rfl
            have hj25 : j < 25 := by omega
            obtain ⟨M, hM⟩ : ∃ M, M = advM n LL 1 := ⟨_, rfl⟩
            have HE := Lib.hid (show advM n LL 2 = movL (n : Int) j M by rw [advM_1, if_pos hd, hj, HL1.out, hM])
            obtain ⟨s, hs⟩ := advM_lay HM.out n 1
            rw [← hM] at hs HOf
            have HLay := Lib.hid hs
            have hMl := hs.1
            rw [hj2] at b1
            clear hM hs hj hj2 HMod hd
            obtain ⟨hV, hro, hrw, hd4, hd5⟩ := HOf.out
            rw [hMl] at hro
            have l1 := hro.cellAt j (by omega)
            have hVj : V[j]? = some (V.getD j undef) := by rw [List.getD_eq_getElem?_getD, List.getElem?_eq_getElem (by omega)]; rfl
            rw [hVj] at l1
            have lf := hro.frozenAt j
            have hRx := hrw j (by omega)
            obtain ⟨X, hX⟩ : ∃ X, X = M.getD j [] := ⟨_, rfl⟩
            obtain ⟨xv, hxv⟩ : ∃ xv, xv = V.getD j undef := ⟨_, rfl⟩
            have hfree : ∀ b, xv.ownBlock = some b → b ≠ g0 ∧ ∀ i, i < 25 → ((V.set j (.slice none 0 0)).getD i undef).ownBlock ≠ some b := by
              intro b hb
              rw [hxv] at hb
              refine ⟨fun e => hd4 j (by omega) b hb (by rw [e]; rfl), fun i hi hb' => ?_⟩
              by_cases e : j = i
              · subst e; rw [getD_set_eq (by omega)] at hb'; cases hb'
              · rw [getD_set_ne e] at hb'
                rcases Nat.lt_or_gt_of_ne e with h | h
                · exact hd5 j i h (by omega) b hb hb'
                · exact hd5 i j h (by omega) b hb' hb
            rw [← hX, ← hxv] at hRx
            rw [← hxv] at l1
            obtain ⟨ax, cx, rfl, _⟩ := owns_shape hRx
            have HX := Lib.hid hX
            have hX2 : X.length ≤ 200 := by rw [hX]; exact Nat.le_trans (HLay.out.len hj25) HM.out.tot
            have HRx := Lib.hid hRx
            have HFree := Lib.hid hfree
            have HSet := Lib.hid (OwnLs_set (w' := wf.drew) (v' := .slice none 0 0) (L' := []) (a := j) HOf.out (by omega) (by rw [hMl]) (fun b hb hne => rfl) (fun b hb => by cases hb) (by simpa using World.ownsRow_nil _ _ _ _))
            have j0 : (0 : Int) ≤ (j : Int) := by omega
            have j1 : (j : Int) < (25 : Int) := by omega
            have j2 : (j : Int) < 25 := by omega
            clear hV hro hrw hd4 hd5 hVj hRx hX hxv hfree
            go_wp2_with fail
            (refine wp_region_noPanic ?_; refine wp_region_held_drew (S := fun w' : World => w'.cell? ⟨q, 1, none⟩ = some (.slice (some ⟨g0, 0, none⟩) 25 cv) ∧ w'.cell? ⟨wr.heap.size, 1, none⟩ = some (.int .i64 (j : Int)) ∧ w'.cell? ⟨g0, j, none⟩ = some (.slice ax X.length cx)) (by kernel_rfl) ?q8xb (fun hHeld => ?_); (case q8xb => ((try dsimp only); ((go_split_ands; (try dsimp only); (repeat' apply And.intro); all_goals (repeat (first | with_reducible assumption | (with_reducible refine (cell_set_ne ?_).trans ?_; omega) | (with_reducible refine cell_alloc _ ?_) | (with_reducible refine cell_drew ?_) | (with_reducible refine cell_drewN _ ?_))))))); refine wpAnyH_take (i := 0) (v := ?q8xv0) (by simp only [List.getElem?_toArray, List.getElem?_cons_zero]; exact rfl) (by kernel_rfl) (by kernel_rfl) (by kernel_rfl) (fun _ _ _ h => h) (Or.inl ⟨by rfl, ?q8xy0⟩) (by assumption) ?_; (case q8xy0 => (intro w hSw; (try dsimp only at hSw); go_simp; (try with_reducible rfl))); (try simp only [Act.put, List.setIfInBounds_toArray, List.set_cons_zero, List.set_cons_succ]); refine wpAnyH_take (i := 1) (v := ?q8xv1) (by simp only [List.getElem?_toArray, List.getElem?_cons_zero, List.getElem?_cons_succ]; exact rfl) (by kernel_rfl) (by kernel_rfl) (by kernel_rfl) (fun _ _ _ h => h) (Or.inl ⟨by rfl, ?q8xy1⟩) (by assumption) ?_; (case q8xy1 => (intro w hSw; (try dsimp only at hSw); go_simp; (try with_reducible rfl))); (try simp only [Act.put, List.setIfInBounds_toArray, List.set_cons_zero, List.set_cons_succ]); refine wpAnyH_take (i := 2) (v := ?q8xv2) (by simp only [List.getElem?_toArray, List.getElem?_cons_zero, List.getElem?_cons_succ]; exact rfl) (by kernel_rfl) (by kernel_rfl) (by kernel_rfl) (fun _ _ _ h => h) (Or.inl ⟨by rfl, ?q8xy2⟩) (by assumption) ?_; (case q8xy2 => (intro w hSw; (try dsimp only at hSw); go_simp; (try with_reducible rfl))); (try simp only [Act.put, List.setIfInBounds_toArray, List.set_cons_zero, List.set_cons_succ]); refine wpAnyH_take (i := 3) (v := ?q8xv3) (by simp only [List.getElem?_toArray, List.getElem?_cons_zero, List.getElem?_cons_succ]; exact rfl) (by kernel_rfl) (by kernel_rfl) (by kernel_rfl) (fun _ _ _ h => h) (Or.inl ⟨by rfl, ?q8xy3⟩) (by assumption) ?_; (case q8xy3 => (intro w hSw; (try dsimp only at hSw); go_simp; (try with_reducible rfl))); (try simp only [Act.put, List.setIfInBounds_toArray, List.set_cons_zero, List.set_cons_succ]); refine wpAnyH_take (i := 4) (v := ?q8xv4) (by simp only [List.getElem?_toArray, List.getElem?_cons_zero, List.getElem?_cons_succ]; exact rfl) (by kernel_rfl) (by kernel_rfl) (by kernel_rfl) (fun _ _ _ h => h) (Or.inl ⟨by rfl, ?q8xy4⟩) (by assumption) ?_; (case q8xy4 => (intro w hSw; (try dsimp only at hSw); go_simp; (try with_reducible rfl))); (try simp only [Act.put, List.setIfInBounds_toArray, List.set_cons_zero, List.set_cons_succ]); refine wpAnyH_take (i := 5) (v := ?q8xv5) (by simp only [List.getElem?_toArray, List.getElem?_cons_zero, List.getElem?_cons_succ]; exact rfl) (by kernel_rfl) (by kernel_rfl) (by kernel_rfl) (fun _ _ _ h => h) (Or.inl ⟨by rfl, ?q8xy5⟩) (by assumption) ?_; (case q8xy5 => (intro w hSw; (try dsimp only at hSw); go_simp; (try with_reducible rfl))); (try simp only [Act.put, List.setIfInBounds_toArray, List.set_cons_zero, List.set_cons_succ]); refine wpAnyH_take (i := 6) (v := ?q8xv6) (by simp only [List.getElem?_toArray, List.getElem?_cons_zero, List.getElem?_cons_succ]; exact rfl) (by kernel_rfl) (by kernel_rfl) (by kernel_rfl) (fun _ _ _ h => h) (Or.inl ⟨by rfl, ?q8xy6⟩) (by assumption) ?_; (case q8xy6 => (intro w hSw; (try dsimp only at hSw); go_simp; (try with_reducible rfl))); (try simp only [Act.put, List.setIfInBounds_toArray, List.set_cons_zero, List.set_cons_succ]); refine wpAnyH_take (i := 7) (v := ?q8xv7) (by simp only [List.getElem?_toArray, List.getElem?_cons_zero, List.getElem?_cons_succ]; exact rfl) (by kernel_rfl) (by kernel_rfl) (by kernel_rfl) (fun _ _ _ h => h) (Or.inl ⟨by rfl, ?q8xy7⟩) (by assumption) ?_; (case q8xy7 => (intro w hSw; (try dsimp only at hSw); go_simp; (try with_reducible rfl))); (try simp only [Act.put, List.setIfInBounds_toArray, List.set_cons_zero, List.set_cons_succ]); refine wpAnyH_take (i := 8) (v := ?q8xv8) (by simp only [List.getElem?_toArray, List.getElem?_cons_zero, List.getElem?_cons_succ]; exact rfl) (by kernel_rfl) (by kernel_rfl) (by kernel_rfl) (fun _ _ _ h => h) (Or.inl ⟨by rfl, ?q8xy8⟩) (by assumption) ?_; (case q8xy8 => (intro w hSw; (try dsimp only at hSw); go_simp; (try with_reducible rfl))); (try simp only [Act.put, List.setIfInBounds_toArray, List.set_cons_zero, List.set_cons_succ]); refine wpAnyH_take (i := 9) (v := ?q8xv9) (by simp only [List.getElem?_toArray, List.getElem?_cons_zero, List.getElem?_cons_succ]; exact rfl) (by kernel_rfl) (by kernel_rfl) (by kernel_rfl) (fun _ _ _ h => h) (Or.inl ⟨by rfl, ?q8xy9⟩) (by assumption) ?_; (case q8xy9 => (intro w hSw; (try dsimp only at hSw); go_simp; (try with_reducible rfl))); (try simp only [Act.put, List.setIfInBounds_toArray, List.set_cons_zero, List.set_cons_succ]); refine wpAnyH_done (by kernel_rfl) ?_ _; refine NoPanic.normal ?_)
            go_wp2_with fail
            (refine wp_region_noPanic ?_; refine wp_region_held_drew (S := fun w' : World => w'.cell? ⟨q, 1, none⟩ = some (.slice (some ⟨g0, 0, none⟩) 25 cv) ∧ w'.cell? ⟨wr.heap.size, 1, none⟩ = some (.int .i64 (j : Int))) (by kernel_rfl) ?q9xb (fun hHeld => ?_); (case q9xb => ((try dsimp only); ((go_split_ands; (try dsimp only); (repeat' apply And.intro); all_goals (repeat (first | with_reducible assumption | (with_reducible refine (cell_set_ne ?_).trans ?_; omega) | (with_reducible refine cell_alloc _ ?_) | (with_reducible refine cell_drew ?_) | (with_reducible refine cell_drewN _ ?_))))))); refine wpAnyH_take (i := 0) (v := ?q9xv0) (by simp only [List.getElem?_toArray, List.getElem?_cons_zero]; exact rfl) (by kernel_rfl) (by kernel_rfl) (by kernel_rfl) (fun _ _ _ h => h) (Or.inl ⟨by rfl, ?q9xy0⟩) (by assumption) ?_; (case q9xy0 => (intro w hSw; (try dsimp only at hSw); go_simp; (try with_reducible rfl))); (try simp only [Act.put, List.setIfInBounds_toArray, List.set_cons_zero, List.set_cons_succ]); refine wpAnyH_take (i := 1) (v := ?q9xv1) (by simp only [List.getElem?_toArray, List.getElem?_cons_zero, List.getElem?_cons_succ]; exact rfl) (by kernel_rfl) (by kernel_rfl) (by kernel_rfl) (fun _ _ _ h => h) (Or.inl ⟨by rfl, ?q9xy1⟩) (by assumption) ?_; (case q9xy1 => (intro w hSw; (try dsimp only at hSw); go_simp; (try with_reducible rfl))); (try simp only [Act.put, List.setIfInBounds_toArray, List.set_cons_zero, List.set_cons_succ]); refine wpAnyH_take (i := 2) (v := ?q9xv2) (by simp only [List.getElem?_toArray, List.getElem?_cons_zero, List.getElem?_cons_succ]; exact rfl) (by kernel_rfl) (by kernel_rfl) (by kernel_rfl) (fun _ _ _ h => h) (Or.inl ⟨by rfl, ?q9xy2⟩) (by assumption) ?_; (case q9xy2 => (intro w hSw; (try dsimp only at hSw); go_simp; (try with_reducible rfl))); (try simp only [Act.put, List.setIfInBounds_toArray, List.set_cons_zero, List.set_cons_succ]); refine wpAnyH_take (i := 3) (v := ?q9xv3) (by simp only [List.getElem?_toArray, List.getElem?_cons_zero, List.getElem?_cons_succ]; exact rfl) (by kernel_rfl) (by kernel_rfl) (by kernel_rfl) (fun _ _ _ h => h) (Or.inl ⟨by rfl, ?q9xy3⟩) (by assumption) ?_; (case q9xy3 => (intro w hSw; (try dsimp only at hSw); go_simp; (try with_reducible rfl))); (try simp only [Act.put, List.setIfInBounds_toArray, List.set_cons_zero, List.set_cons_succ]); refine wpAnyH_take (i := 4) (v := ?q9xv4) (by simp only [List.getElem?_toArray, List.getElem?_cons_zero, List.getElem?_cons_succ]; exact rfl) (by kernel_rfl) (by kernel_rfl) (by kernel_rfl) (fun _ _ _ h => h) (Or.inl ⟨by rfl, ?q9xy4⟩) (by assumption) ?_; (case q9xy4 => (intro w hSw; (try dsimp only at hSw); go_simp; (try with_reducible rfl))); (try simp only [Act.put, List.setIfInBounds_toArray, List.set_cons_zero, List.set_cons_succ]); refine wpAnyH_take (i := 5) (v := ?q9xv5) (by simp only [List.getElem?_toArray, List.getElem?_cons_zero, List.getElem?_cons_succ]; exact rfl) (by kernel_rfl) (by kernel_rfl) (by kernel_rfl) (fun _ _ _ h => h) (Or.inl ⟨by rfl, ?q9xy5⟩) (by assumption) ?_; (case q9xy5 => (intro w hSw; (try dsimp only at hSw); go_simp; (try with_reducible rfl))); (try simp only [Act.put, List.setIfInBounds_toArray, List.set_cons_zero, List.set_cons_succ]); refine wpAnyH_take (i := 6) (v := ?q9xv6) (by simp only [List.getElem?_toArray, List.getElem?_cons_zero, List.getElem?_cons_succ]; exact rfl) (by kernel_rfl) (by kernel_rfl) (by kernel_rfl) (fun _ _ _ h => h) (Or.inl ⟨by rfl, ?q9xy6⟩) (by assumption) ?_; (case q9xy6 => (intro w hSw; (try dsimp only at hSw); go_simp; (try with_reducible rfl))); (try simp only [Act.put, List.setIfInBounds_toArray, List.set_cons_zero, List.set_cons_succ]); refine wpAnyH_take (i := 7) (v := ?q9xv7) (by simp only [List.getElem?_toArray, List.getElem?_cons_zero, List.getElem?_cons_succ]; exact rfl) (by kernel_rfl) (by kernel_rfl) (by kernel_rfl) (fun _ _ _ h => h) (Or.inl ⟨by rfl, ?q9xy7⟩) (by assumption) ?_; (case q9xy7 => (intro w hSw; (try dsimp only at hSw); go_simp; (try with_reducible rfl))); (try simp only [Act.put, List.setIfInBounds_toArray, List.set_cons_zero, List.set_cons_succ]); refine wpAnyH_ready (rs := [8]) (by kernel_rfl) (by simp) ?_; refine AllReadyH.cons (by simp only [List.getElem?_toArray, List.getElem?_cons_zero, List.getElem?_cons_succ]; exact rfl) (fun K hK => ?_) AllReadyH.nil; go_simp; refine hK.out _ _ ?q9xs8 (fun hHeld => ?_); (case q9xs8 => ((try dsimp only); ((go_split_ands; (try dsimp only); (repeat' apply And.intro); all_goals (repeat (first | with_reducible assumption | (with_reducible refine (cell_set_ne ?_).trans ?_; omega) | (with_reducible refine cell_alloc _ ?_) | (with_reducible refine cell_drew ?_) | (with_reducible refine cell_drewN _ ?_))))))); clear hK K; (try simp only [Act.put, List.setIfInBounds_toArray, List.set_cons_zero, List.set_cons_succ]); refine wpAnyH_done (by kernel_rfl) ?_ _; refine NoPanic.normal ?_)
            go_wp2_with fail
            obtain ⟨ws, hws⟩ : ∃ ws, ws = (wf.setCell ⟨g0, j, none⟩ (.slice none 0 0)).drew.drew.drew := ⟨_, rfl⟩
            have z0 : ws.cell? ⟨q, 0, none⟩ = some (.int .i64 (n : Int)) := by rw [hws]; exact (cell_set_ne (by omega)).trans z0
            have z1 : ws.cell? ⟨q, 1, none⟩ = some (.slice (some ⟨g0, 0, none⟩) 25 cv) := by rw [hws]; exact (cell_set_ne (by omega)).trans z1
            have HBs : Hid (Below q w2 ws) := by rw [hws]; exact Below.drew (Below.drew (Below.drew (Below.setCell (p := ⟨g0, j, none⟩) HBf.out (by show q ≤ g0; omega) _)))
            have HOs : Hid (OwnLs (q + 1) ws (.slice (some ⟨g0, 0, none⟩) 25 cv) (M.set j []) (V.set j (.slice none 0 0))) := by rw [hws]; exact OwnLs_move HSet.out (fun b _ _ => rfl)
            have HRs : Hid (ws.ownsRow (q + 1) 43 2 (.slice ax X.length cx) X.length (X.map Tm.cells).flatten) := by
              rw [hws]
              exact own_move HRx.out (fun b hb => Below.heap_setCell _ _ _ _ (HFree.out b hb).1)
            have hzs : wf.heap.size = ws.heap.size := by rw [hws]; simp
            rw [← hws]
            clear hws HSet HRx HOf HBf l1 lf b0 b1
            go_loopw [89] (fun i wp => ∃ m : Nat, m ≤ X.length ∧ i = .int .i64 m ∧ AvIn q g0 w2 ws wp n cv (.slice ax X.length cx) (pinsL (n : Int) (M.set j []) (X.take m)) X) (fun i _ => X.length - (intOf i).toNat)
            case atStart => exact ⟨0, Nat.zero_le _, rfl, HBs.out, Nat.le_refl _, z0, z1, HRs.out, _, HOs.out, HFree.out⟩
            case round =>
              obtain ⟨m, hm, rfl, hB, hzp, z0, z1, hR, V2, hO, hF⟩ := hrel
              have HB := Lib.hid hB
              have HO := Lib.hid hO
              have HR := Lib.hid hR
              have HF := Lib.hid hF
              clear hB hO hR hF HBs HOs HRs HFree
              rcases (show m < X.length ∨ m = X.length by omega) with hml | rfl
              · have hml' : (m : Int) < (X.length : Int) := by omega
                have p0 : (0 : Int) ≤ (m : Int) := by omega
                obtain ⟨_, _, e0, _, _, _, pt⟩ := RowAt_fn Tm.zero (RowNew_of_owns HR.out (by rw [List.length_map]) (lenc_Tm _)).1
                injection e0 with e01 _ e03
                subst e01; subst e03
                obtain ⟨bx, ox, rfl, hbx, q1⟩ := pt (by intro h; rw [h] at hml; simp at hml)
                obtain ⟨t, ht⟩ : ∃ t, t = X.getD m Tm.zero := ⟨_, rfl⟩
                have d0 := q1 m 0 hml (by omega)
                have d1 := q1 m 1 hml (by omega)
                rw [← ht] at d0 d1
                have HTk := Lib.hid (tm_take ht hml)
                have HTm := Lib.hid (tm_mem ht hml)
                obtain ⟨t0, t1⟩ := t
                simp only [Tm.cells, List.getElem?_cons_zero, List.getElem?_cons_succ, Nat.add_zero] at d0 d1
                have HTE := Lib.hid (HM.out.tm _ (HLay.out.mem hj25 _ (by rw [← HX.out]; exact HTm.out)))
                obtain ⟨A, rfl⟩ := Int.eq_ofNat_of_zero_le (show 0 ≤ t0 by have := HTE.out.1; simp at this; omega)
                have hA2 : A ≤ 2199023255552 := by have := HTE.out.2.2.1; simp at this; omega
                have hN2 : n ≤ 2199023255552 := by have := HN.out; omega
                have HPk := Lib.hid (pins_ok HLay.out (n : Int) hj25 m)
                rw [← HX.out] at HPk
                obtain ⟨Y, hY⟩ : ∃ Y, Y = pinsL (n : Int) (M.set j []) (X.take m) := ⟨_, rfl⟩
                have HY := Lib.hid hY
                rw [← hY] at HPk HO
                have hplt := placeN_lt A n
                have hET := HM.out.tot
                have hor := (HPk.out.2 _ hplt).1
                have hln : (Y.getD (placeN A n) []).length ≤ 100000 := by have := (HPk.out.2 _ hplt).2; omega
                have HOr := Lib.hid hor
                have HLn2 := Lib.hid hln
                have HY25 := Lib.hid HPk.out.1
                clear ht q1 pt hY hor hln hET
                go_wp2_with fail
                have hba : Below wr.heap.size wr (wr.alloc (.cells #[.int .i64 (A : Int), .int .i64 t1] 43)) := (Below.refl _ _).alloc (Nat.le_refl _) _
                refine (prog_putC q A n t1 _ Y V2 _ (by simp; omega) (cell_below hba z0 (by omega)) (cell_below hba z1 (by omega)) (OwnLs_below HO.out hba) HY25.out hA2 hN2 _ rfl HOr.out HLn2.out).mono ?_
                rintro e w5 ⟨v5, rfl, hown5, hz5, hk5, hn5, hb5⟩
                have hk6 : ∀ b, b < wr.heap.size → b ≠ g0 → (V2.getD (placeN A n) undef).ownBlock ≠ some b → w5.heap[b]? = wr.heap[b]? := fun b h1 h2 h3 =>
                  (hk5 b (by simp; omega) (fun e => h2 (Option.some.inj e).symm) h3).trans (hba.block b h1)
                have hV2 : placeN A n < V2.length := by rw [HO.out.1, HY25.out]; exact hplt
                have hbx' : (Value.slice (some ⟨bx, ox, none⟩) X.length cx).ownBlock = some bx := rfl
                have HF6 := Lib.hid (HF.out bx hbx')
                have hbx6 : w5.heap[bx]? = wr.heap[bx]? := hk6 bx hbx HF6.out.1 (HF6.out.2 _ hplt)
                have z0 : w5.cell? ⟨q, 0, none⟩ = some (.int .i64 (n : Int)) := (hb5.cell (p := ⟨q, 0, none⟩) (by simp)).trans (cell_below hba z0 (by omega))
                have z1 : w5.cell? ⟨q, 1, none⟩ = some (.slice (some ⟨g0, 0, none⟩) 25 cv) := (hb5.cell (p := ⟨q, 1, none⟩) (by simp)).trans (cell_below hba z1 (by omega))
                have HB5 := Lib.hid ((HB.out.trans (hba.mono (by omega))).trans (hb5.mono (by omega)))
                have HR5 := Lib.hid (own_move HR.out (fun b hb => by obtain rfl : bx = b := Option.some.inj hb; exact hbx6))
                have hzp5 : ws.heap.size ≤ w5.heap.size := by simp at hz5; omega
                have HO5 : Hid (OwnLs (q + 1) w5 (.slice (some ⟨g0, 0, none⟩) 25 cv) (pinsL (n : Int) (M.set j []) (X.take (m + 1))) (V2.set (placeN A n) v5)) := by
                  have e : plc ⟨(A : Int), t1⟩ (n : Int) = placeN A n := plc_nat rfl rfl
                  show OwnLs _ _ _ _ _
                  rw [HTk.out, pinsL_snoc, ← HY.out]
                  unfold pinL
                  rw [e]
                  exact hown5
                have HFr : Hid (∀ b, (Value.slice (some ⟨bx, ox, none⟩) X.length cx).ownBlock = some b → b ≠ g0 ∧ ∀ i, i < 25 → ((V2.set (placeN A n) v5).getD i undef).ownBlock ≠ some b) := fun b hb => by
                  obtain rfl : bx = b := Option.some.inj hb
                  refine ⟨HF6.out.1, fun i hi hc => ?_⟩
                  by_cases e : placeN A n = i
                  · subst e
                    rw [getD_set_eq hV2] at hc
                    rcases hn5 bx hc with h | h
                    · exact HF6.out.2 _ hplt h
                    · simp at h; omega
                  · rw [getD_set_ne e] at hc
                    exact HF6.out.2 i hi hc
                clear hown5 hk5 hk6 hn5 hb5 hbx6 hbx' HF6 hba HB HR HO HF
                go_wp2_with fail
                go_roundw
                case rel => exact ⟨m + 1, by omega, by go_num, HB5.out, hzp5, z0, z1, HR5.out, _, HO5.out, HFr.out⟩
                case measure => simp [intOf]; omega
              · have hge : ¬ ((X.length : Nat) : Int) < (X.length : Int) := by omega
                have HEq := Lib.hid (show pinsL (n : Int) (M.set j []) (X.take X.length) = advM n LL 2 by rw [HE.out, List.take_length]; unfold movL; rw [HX.out])
                rw [HEq.out] at HO
                go_wp2_with fail
                go_roundw
                case rel => exact ⟨_, _, _, _, ⟨2, by omega, rfl, HB.out, z0, z1, _, HO.out⟩, rfl, rfl, rfl, rfl⟩
                case measure => simp [intOf]
        · rw [show ((2 : Nat) : Int) = 2 from rfl]
          have hix := fun W => (idx3 512 24 64 L1 8 L2 W).2.2
          go_wp2_with fail
          obtain ⟨wf, hwf⟩ : ∃ wf, wf = wr.alloc (.cells #[.int .i64 8, .int .i64 (L2 : Int)] 54) := ⟨_, rfl⟩
          have b0 : wf.cell? ⟨wr.heap.size, 0, none⟩ = some (.int .i64 8) := by rw [hwf]; go_simp
          have b1 : wf.cell? ⟨wr.heap.size, 1, none⟩ = some (.int .i64 (L2 : Int)) := by rw [hwf]; go_simp
          have hbf : Below wr.heap.size wr wf := by rw [hwf]; exact (Below.refl _ _).alloc (Nat.le_refl _) _
          have hzf : wf.heap.size = wr.heap.size + 1 := by rw [hwf]; simp
          have z0 := cell_below hbf z0 (by omega)
          have z1 := cell_below hbf z1 (by omega)
          have HBf := Lib.hid (HB.out.trans (hbf.mono (by omega)))
          have HOf := Lib.hid (OwnLs_below HO.out hbf)
          rw [← hwf]
          clear hwf hbf HB HO hix
          have hmod : (n : Int).tmod 8 = ((n % 8 : Nat) : Int) := by rw [Int.tmod_eq_emod_of_nonneg (by omega)]; omega
          have HMod := Lib.hid hmod
          clear hmod
          by_cases hd : n % 8 = 0
          rotate_left
          · have HE := Lib.hid (show advM n LL 3 = advM n LL 2 by rw [advM_2, if_neg hd])
            have hq1 : ((n : Int).tmod 8 != 0) = true := by rw [HMod.out, bne_iff_ne]; omega
            (refine wp_region_noPanic ?_; refine wp_region_held_drew (S := fun w' : World => w'.cell? ⟨q, 0, none⟩ = some (.int .i64 (n : Int)) ∧ w'.cell? ⟨wr.heap.size, 0, none⟩ = some (.int .i64 8)) (by kernel_rfl) ?q10xb (fun hHeld => ?_); (case q10xb => ((try dsimp only); ((go_split_ands; (try dsimp only); (repeat' apply And.intro); all_goals (repeat (first | with_reducible assumption | (with_reducible refine (cell_set_ne ?_).trans ?_; omega) | (with_reducible refine cell_alloc _ ?_) | (with_reducible refine cell_drew ?_) | (with_reducible refine cell_drewN _ ?_))))))); refine wpAnyH_take (i := 0) (v := ?q10xv0) (by simp only [List.getElem?_toArray, List.getElem?_cons_zero]; exact rfl) (by kernel_rfl) (by kernel_rfl) (by kernel_rfl) (fun _ _ _ h => h) (Or.inl ⟨by rfl, ?q10xy0⟩) (by assumption) ?_; (case q10xy0 => (intro w hSw; (try dsimp only at hSw); go_simp; (try with_reducible rfl))); (try simp only [Act.put, List.setIfInBounds_toArray, List.set_cons_zero, List.set_cons_succ]); refine wpAnyH_take (i := 1) (v := ?q10xv1) (by simp only [List.getElem?_toArray, List.getElem?_cons_zero, List.getElem?_cons_succ]; exact rfl) (by kernel_rfl) (by kernel_rfl) (by kernel_rfl) (fun _ _ _ h => h) (Or.inl ⟨by rfl, ?q10xy1⟩) (by assumption) ?_; (case q10xy1 => (intro w hSw; (try dsimp only at hSw); go_simp; (try with_reducible rfl))); (try simp only [Act.put, List.setIfInBounds_toArray, List.set_cons_zero, List.set_cons_succ]); refine wpAnyH_take (i := 2) (v := ?q10xv2) (by simp only [List.getElem?_toArray, List.getElem?_cons_zero, List.getElem?_cons_succ]; exact rfl) (by kernel_rfl) (by kernel_rfl) (by kernel_rfl) (fun _ _ _ h => h) (Or.inl ⟨by rfl, ?q10xy2⟩) (by assumption) ?_; (case q10xy2 => (intro w hSw; (try dsimp only at hSw); go_simp; (try with_reducible rfl))); (try simp only [Act.put, List.setIfInBounds_toArray, List.set_cons_zero, List.set_cons_succ]); refine wpAnyH_take (i := 3) (v := ?q10xv3) (by simp only [List.getElem?_toArray, List.getElem?_cons_zero, List.getElem?_cons_succ]; exact rfl) (by kernel_rfl) (by kernel_rfl) (by kernel_rfl) (fun _ _ _ h => h) (Or.inl ⟨by rfl, ?q10xy3⟩) (by assumption) ?_; (case q10xy3 => (intro w hSw; (try dsimp only at hSw); go_simp; (try with_reducible rfl))); (try simp only [Act.put, List.setIfInBounds_toArray, List.set_cons_zero, List.set_cons_succ]); refine wpAnyH_take (i := 4) (v := ?q10xv4) (by simp only [List.getElem?_toArray, List.getElem?_cons_zero, List.getElem?_cons_succ]; exact rfl) (by kernel_rfl) (by kernel_rfl) (by kernel_rfl) (fun _ _ _ h => h) (Or.inl ⟨by rfl, ?q10xy4⟩) (by assumption) ?_; (case q10xy4 => (intro w hSw; (try dsimp only at hSw); go_simp; (try with_reducible rfl))); (try simp only [Act.put, List.setIfInBounds_toArray, List.set_cons_zero, List.set_cons_succ]); refine wpAnyH_take (i := 5) (v := ?q10xv5) (by simp only [List.getElem?_toArray, List.getElem?_cons_zero, List.getElem?_cons_succ]; exact rfl) (by kernel_rfl) (by kernel_rfl) (by kernel_rfl) (fun _ _ _ h => h) (Or.inl ⟨by rfl, ?q10xy5⟩) (by assumption) ?_; (case q10xy5 => (intro w hSw; (try dsimp only at hSw); go_simp; (try with_reducible rfl))); (try simp only [Act.put, List.setIfInBounds_toArray, List.set_cons_zero, List.set_cons_succ]); refine wpAnyH_take (i := 6) (v := ?q10xv6) (by simp only [List.getElem?_toArray, List.getElem?_cons_zero, List.getElem?_cons_succ]; exact rfl) (by kernel_rfl) (by kernel_rfl) (by kernel_rfl) (fun _ _ _ h => h) (Or.inl ⟨by rfl, ?q10xy6⟩) (by assumption) ?_; (case q10xy6 => (intro w hSw; (try dsimp only at hSw); go_simp; (try with_reducible rfl))); (try simp only [Act.put, List.setIfInBounds_toArray, List.set_cons_zero, List.set_cons_succ]); refine wpAnyH_take (i := 7) (v := ?q10xv7) (by simp only [List.getElem?_toArray, List.getElem?_cons_zero, List.getElem?_cons_succ]; exact rfl) (by kernel_rfl) (by kernel_rfl) (by kernel_rfl) (fun _ _ _ h => h) (Or.inl ⟨by rfl, ?q10xy7⟩) (by assumption) ?_; (case q10xy7 => (intro w hSw; (try dsimp only at hSw); go_simp; (try with_reducible rfl))); (try simp only [Act.put, List.setIfInBounds_toArray, List.set_cons_zero, List.set_cons_succ]); refine wpAnyH_take (i := 8) (v := ?q10xv8) (by simp only [List.getElem?_toArray, List.getElem?_cons_zero, List.getElem?_cons_succ]; exact rfl) (by kernel_rfl) (by kernel_rfl) (by kernel_rfl) (fun _ _ _ h => h) (Or.inl ⟨by rfl, ?q10xy8⟩) (by assumption) ?_; (case q10xy8 => (intro w hSw; (try dsimp only at hSw); go_simp; (try with_reducible rfl))); (try simp only [Act.put, List.setIfInBounds_toArray, List.set_cons_zero, List.set_cons_succ]); refine wpAnyH_done (by kernel_rfl) ?_ _; refine NoPanic.normal ?_)
            go_wp2_with fail
            go_roundw
            case rel =>
              refine ⟨3, by omega, by go_num, HBf.out.trans (Below.drew (Below.refl _ _)), ?_, ?_, V, ?_⟩
              · exact z0
              · exact z1
              · rw [HE.out]; exact OwnLs_below HOf.out (Below.drew (Below.refl _ _))
            case measure => simp [intOf]
          · have hq1 : ((n : Int).tmod 8 != 0) = false := by rw [HMod.out, bne_eq_false_iff_eq]; omega
            (refine wp_region_noPanic ?_; refine wp_region_held_drew (S := fun w' : World => w'.cell? ⟨q, 0, none⟩ = some (.int .i64 (n : Int)) ∧ w'.cell? ⟨wr.heap.size, 0, none⟩ = some (.int .i64 8)) (by kernel_rfl) ?q11xb (fun hHeld => ?_); (case q11xb => ((try dsimp only); ((go_split_ands; (try dsimp only); (repeat' apply And.intro); all_goals (repeat (first | with_reducible assumption | (with_reducible refine (cell_set_ne ?_).trans ?_; omega) | (with_reducible refine cell_alloc _ ?_) | (with_reducible refine cell_drew ?_) | (with_reducible refine cell_drewN _ ?_))))))); refine wpAnyH_take (i := 0) (v := ?q11xv0) (by simp only [List.getElem?_toArray, List.getElem?_cons_zero]; exact rfl) (by kernel_rfl) (by kernel_rfl) (by kernel_rfl) (fun _ _ _ h => h) (Or.inl ⟨by rfl, ?q11xy0⟩) (by assumption) ?_; (case q11xy0 => (intro w hSw; (try dsimp only at hSw); go_simp; (try with_reducible rfl))); (try simp only [Act.put, List.setIfInBounds_toArray, List.set_cons_zero, List.set_cons_succ]); refine wpAnyH_take (i := 1) (v := ?q11xv1) (by simp only [List.getElem?_toArray, List.getElem?_cons_zero, List.getElem?_cons_succ]; exact rfl) (by kernel_rfl) (by kernel_rfl) (by kernel_rfl) (fun _ _ _ h => h) (Or.inl ⟨by rfl, ?q11xy1⟩) (by assumption) ?_; (case q11xy1 => (intro w hSw; (try dsimp only at hSw); go_simp; (try with_reducible rfl))); (try simp only [Act.put, List.setIfInBounds_toArray, List.set_cons_zero, List.set_cons_succ]); refine wpAnyH_take (i := 2) (v := ?q11xv2) (by simp only [List.getElem?_toArray, List.getElem?_cons_zero, List.getElem?_cons_succ]; exact rfl) (by kernel_rfl) (by kernel_rfl) (by kernel_rfl) (fun _ _ _ h => h) (Or.inl ⟨by rfl, ?q11xy2⟩) (by assumption) ?_; (case q11xy2 => (intro w hSw; (try dsimp only at hSw); go_simp; (try with_reducible rfl))); (try simp only [Act.put, List.setIfInBounds_toArray, List.set_cons_zero, List.set_cons_succ]); refine wpAnyH_take (i := 3) (v := ?q11xv3) (by simp only [List.getElem?_toArray, List.getElem?_cons_zero, List.getElem?_cons_succ]; exact rfl) (by kernel_rfl) (by kernel_rfl) (by kernel_rfl) (fun _ _ _ h => h) (Or.inl ⟨by rfl, ?q11xy3⟩) (by assumption) ?_; (case q11xy3 => (intro w hSw; (try dsimp only at hSw); go_simp; (try with_reducible rfl))); (try simp only [Act.put, List.setIfInBounds_toArray, List.set_cons_zero, List.set_cons_succ]); refine wpAnyH_take (i := 4) (v := ?q11xv4) (by simp only [List.getElem?_toArray, List.getElem?_cons_zero, List.getElem?_cons_succ]; exact rfl) (by kernel_rfl) (by kernel_rfl) (by kernel_rfl) (fun _ _ _ h => h) (Or.inl ⟨by rfl, ?q11xy4⟩) (by assumption) ?_; (case q11xy4 => (intro w hSw; (try dsimp only at hSw); go_simp; (try with_reducible rfl))); (try simp only [Act.put, List.setIfInBounds_toArray, List.set_cons_zero, List.set_cons_succ]); refine wpAnyH_take (i := 5) (v := ?q11xv5) (by simp only [List.getElem?_toArray, List.getElem?_cons_zero, List.getElem?_cons_succ]; exact rfl) (by kernel_rfl) (by kernel_rfl) (by kernel_rfl) (fun _ _ _ h => h) (Or.inl ⟨by rfl, ?q11xy5⟩) (by assumption) ?_; (case q11xy5 => (intro w hSw; (try dsimp only at hSw); go_simp; (try with_reducible rfl))); (try simp only [Act.put, List.setIfInBounds_toArray, List.set_cons_zero, List.set_cons_succ]); refine wpAnyH_take (i := 6) (v := ?q11xv6) (by simp only [List.getElem?_toArray, List.getElem?_cons_zero, List.getElem?_cons_succ]; exact rfl) (by kernel_rfl) (by kernel_rfl) (by kernel_rfl) (fun _ _ _ h => h) (Or.inl ⟨by rfl, ?q11xy6⟩) (by assumption) ?_; (case q11xy6 => (intro w hSw; (try dsimp only at hSw); go_simp; (try with_reducible rfl))); (try simp only [Act.put, List.setIfInBounds_toArray, List.set_cons_zero, List.set_cons_succ]); refine wpAnyH_take (i := 7) (v := ?q11xv7) (by simp only [List.getElem?_toArray, List.getElem?_cons_zero, List.getElem?_cons_succ]; exact rfl) (by kernel_rfl) (by kernel_rfl) (by kernel_rfl) (fun _ _ _ h => h) (Or.inl ⟨by rfl, ?q11xy7⟩) (by assumption) ?_; (case q11xy7 => (intro w hSw; (try dsimp only at hSw); go_simp; (try with_reducible rfl))); (try simp only [Act.put, List.setIfInBounds_toArray, List.set_cons_zero, List.set_cons_succ]); refine wpAnyH_take (i := 8) (v := ?q11xv8) (by simp only [List.getElem?_toArray, List.getElem?_cons_zero, List.getElem?_cons_succ]; exact rfl) (by kernel_rfl) (by kernel_rfl) (by kernel_rfl) (fun _ _ _ h => h) (Or.inl ⟨by rfl, ?q11xy8⟩) (by assumption) ?_; (case q11xy8 => (intro w hSw; (try dsimp only at hSw); go_simp; (try with_reducible rfl))); (try simp only [Act.put, List.setIfInBounds_toArray, List.set_cons_zero, List.set_cons_succ]); refine wpAnyH_done (by kernel_rfl) ?_ _; refine NoPanic.normal ?_)
            clear hq1
            obtain ⟨j, hj⟩ : ∃ j : Nat, j = L2 := ⟨_, rfl⟩
            have hj2 : ((L2 : Int) : Int) = (j : Int) := by rw [hj]; try rfl
            have hj25 : j < 25 := by omega
            obtain ⟨M, hM⟩ : ∃ M, M = advM n LL 2 := ⟨_, rfl⟩
            have HE := Lib.hid (show advM n LL 3 = movL (n : Int) j M by rw [advM_2, if_pos hd, hj, HL2.out, hM])
            obtain ⟨s, hs⟩ := advM_lay HM.out n 2
            rw [← hM] at hs HOf
            have HLay := Lib.hid hs
            have hMl := hs.1
            rw [hj2] at b1
            clear hM hs hj hj2 HMod hd
            obtain ⟨hV, hro, hrw, hd4, hd5⟩ := HOf.out
            rw [hMl] at hro
            have l1 := hro.cellAt j (by omega)
            have hVj : V[j]? = some (V.getD j undef) := by rw [List.getD_eq_getElem?_getD, List.getElem?_eq_getElem (by omega)]; rfl
            rw [hVj] at l1
            have lf := hro.frozenAt j
            have hRx := hrw j (by omega)
            obtain ⟨X, hX⟩ : ∃ X, X = M.getD j [] := ⟨_, rfl⟩
            obtain ⟨xv, hxv⟩ : ∃ xv, xv = V.getD j undef := ⟨_, rfl⟩
            have hfree : ∀ b, xv.ownBlock = some b → b ≠ g0 ∧ ∀ i, i < 25 → ((V.set j (.slice none 0 0)).getD i undef).ownBlock ≠ some b := by
              intro b hb
              rw [hxv] at hb
              refine ⟨fun e => hd4 j (by omega) b hb (by rw [e]; rfl), fun i hi hb' => ?_⟩
              by_cases e : j = i
              · subst e; rw [getD_set_eq (by omega)] at hb'; cases hb'
              · rw [getD_set_ne e] at hb'
                rcases Nat.lt_or_gt_of_ne e with h | h
                · exact hd5 j i h (by omega) b hb hb'
                · exact hd5 i j h (by omega) b hb' hb
            rw [← hX, ← hxv] at hRx
            rw [← hxv] at l1
            obtain ⟨ax, cx, rfl, _⟩ := owns_shape hRx
            have HX := Lib.hid hX
            have hX2 : X.length ≤ 200 := by rw [hX]; exact Nat.le_trans (HLay.out.len hj25) HM.out.tot
            have HRx := Lib.hid hRx
            have HFree := Lib.hid hfree
            have HSet := Lib.hid (OwnLs_set (w' := wf.drew) (v' := .slice none 0 0) (L' := []) (a := j) HOf.out (by omega) (by rw [hMl]) (fun b hb hne => rfl) (fun b hb => by cases hb) (by simpa using World.ownsRow_nil _ _ _ _))
            have j0 : (0 : Int) ≤ (j : Int) := by omega
            have j1 : (j : Int) < (25 : Int) := by omega
            have j2 : (j : Int) < 25 := by omega
            clear hV hro hrw hd4 hd5 hVj hRx hX hxv hfree
            go_wp2_with fail
            (refine wp_region_noPanic ?_; refine wp_region_held_drew (S := fun w' : World => w'.cell? ⟨q, 1, none⟩ = some (.slice (some ⟨g0, 0, none⟩) 25 cv) ∧ w'.cell? ⟨wr.heap.size, 1, none⟩ = some (.int .i64 (j : Int)) ∧ w'.cell? ⟨g0, j, none⟩ = some (.slice ax X.length cx)) (by kernel_rfl) ?q12xb (fun hHeld => ?_); (case q12xb => ((try dsimp only); ((go_split_ands; (try dsimp only); (repeat' apply And.intro); all_goals (repeat (first | with_reducible assumption | (with_reducible refine (cell_set_ne ?_).trans ?_; omega) | (with_reducible refine cell_alloc _ ?_) | (with_reducible refine cell_drew ?_) | (with_reducible refine cell_drewN _ ?_))))))); refine wpAnyH_take (i := 0) (v := ?q12xv0) (by simp only [List.getElem?_toArray, List.getElem?_cons_zero]; exact rfl) (by kernel_rfl) (by kernel_rfl) (by kernel_rfl) (fun _ _ _ h => h) (Or.inl ⟨by rfl, ?q12xy0⟩) (by assumption) ?_; (case q12xy0 => (intro w hSw; (try dsimp only at hSw); go_simp; (try with_reducible rfl))); (try simp only [Act.put, List.setIfInBounds_toArray, List.set_cons_zero, List.set_cons_succ]); refine wpAnyH_take (i := 1) (v := ?q12xv1) (by simp only [List.getElem?_toArray, List.getElem?_cons_zero, List.getElem?_cons_succ]; exact rfl) (by kernel_rfl) (by kernel_rfl) (by kernel_rfl) (fun _ _ _ h => h) (Or.inl ⟨by rfl, ?q12xy1⟩) (by assumption) ?_; (case q12xy1 => (intro w hSw; (try dsimp only at hSw); go_simp; (try with_reducible rfl))); (try simp only [Act.put, List.setIfInBounds_toArray, List.set_cons_zero, List.set_cons_succ]); refine wpAnyH_take (i := 2) (v := ?q12xv2) (by simp only [List.getElem?_toArray, List.getElem?_cons_zero, List.getElem?_cons_succ]; exact rfl) (by kernel_rfl) (by kernel_rfl) (by kernel_rfl) (fun _ _ _ h => h) (Or.inl ⟨by rfl, ?q12xy2⟩) (by assumption) ?_; (case q12xy2 => (intro w hSw; (try dsimp only at hSw); go_simp; (try with_reducible rfl))); (try simp only [Act.put, List.setIfInBounds_toArray, List.set_cons_zero, List.set_cons_succ]); refine wpAnyH_take (i := 3) (v := ?q12xv3) (by simp only [List.getElem?_toArray, List.getElem?_cons_zero, List.getElem?_cons_succ]; exact rfl) (by kernel_rfl) (by kernel_rfl) (by kernel_rfl) (fun _ _ _ h => h) (Or.inl ⟨by rfl, ?q12xy3⟩) (by assumption) ?_; (case q12xy3 => (intro w hSw; (try dsimp only at hSw); go_simp; (try with_reducible rfl))); (try simp only [Act.put, List.setIfInBounds_toArray, List.set_cons_zero, List.set_cons_succ]); refine wpAnyH_take (i := 4) (v := ?q12xv4) (by simp only [List.getElem?_toArray, List.getElem?_cons_zero, List.getElem?_cons_succ]; exact rfl) (by kernel_rfl) (by kernel_rfl) (by kernel_rfl) (fun _ _ _ h => h) (Or.inl ⟨by rfl, ?q12xy4⟩) (by assumption) ?_; (case q12xy4 => (intro w hSw; (try dsimp only at hSw); go_simp; (try with_reducible rfl))); (try simp only [Act.put, List.setIfInBounds_toArray, List.set_cons_zero, List.set_cons_succ]); refine wpAnyH_take (i := 5) (v := ?q12xv5) (by simp only [List.getElem?_toArray, List.getElem?_cons_zero, List.getElem?_cons_succ]; exact rfl) (by kernel_rfl) (by kernel_rfl) (by kernel_rfl) (fun _ _ _ h => h) (Or.inl ⟨by rfl, ?q12xy5⟩) (by assumption) ?_; (case q12xy5 => (intro w hSw; (try dsimp only at hSw); go_simp; (try with_reducible rfl))); (try simp only [Act.put, List.setIfInBounds_toArray, List.set_cons_zero, List.set_cons_succ]); refine wpAnyH_take (i := 6) (v := ?q12xv6) (by simp only [List.getElem?_toArray, List.getElem?_cons_zero, List.getElem?_cons_succ]; exact rfl) (by kernel_rfl) (by kernel_rfl) (by kernel_rfl) (fun _ _ _ h => h) (Or.inl ⟨by rfl, ?q12xy6⟩) (by assumption) ?_; (case q12xy6 => (intro w hSw; (try dsimp only at hSw); go_simp; (try with_reducible rfl))); (try simp only [Act.put, List.setIfInBounds_toArray, List.set_cons_zero, List.set_cons_succ]); refine wpAnyH_take (i := 7) (v := ?q12xv7) (by simp only [List.getElem?_toArray, List.getElem?_cons_zero, List.getElem?_cons_succ]; exact rfl) (by kernel_rfl) (by kernel_rfl) (by kernel_rfl) (fun _ _ _ h => h) (Or.inl ⟨by rfl, ?q12xy7⟩) (by assumption) ?_; (case q12xy7 => (intro w hSw; (try dsimp only at hSw); go_simp; (try with_reducible rfl))); (try simp only [Act.put, List.setIfInBounds_toArray, List.set_cons_zero, List.set_cons_succ]); refine wpAnyH_take (i := 8) (v := ?q12xv8) (by simp only [List.getElem?_toArray, List.getElem?_cons_zero, List.getElem?_cons_succ]; exact rfl) (by kernel_rfl) (by kernel_rfl) (by kernel_rfl) (fun _ _ _ h => h) (Or.inl ⟨by rfl, ?q12xy8⟩) (by assumption) ?_; (case q12xy8 => (intro w hSw; (try dsimp only at hSw); go_simp; (try with_reducible rfl))); (try simp only [Act.put, List.setIfInBounds_toArray, List.set_cons_zero, List.set_cons_succ]); refine wpAnyH_take (i := 9) (v := ?q12xv9) (by simp only [List.getElem?_toArray, List.getElem?_cons_zero, List.getElem?_cons_succ]; exact rfl) (by kernel_rfl) (by kernel_rfl) (by kernel_rfl) (fun _ _ _ h => h) (Or.inl ⟨by rfl, ?q12xy9⟩) (by assumption) ?_; (case q12xy9 => (intro w hSw; (try dsimp only at hSw); go_simp; (try with_reducible rfl))); (try simp only [Act.put, List.setIfInBounds_toArray, List.set_cons_zero, List.set_cons_succ]); refine wpAnyH_done (by kernel_rfl) ?_ _; refine NoPanic.normal ?_)
            go_wp2_with fail
            (refine wp_region_noPanic ?_; refine wp_region_held_drew (S := fun w' : World => w'.cell? ⟨q, 1, none⟩ = some (.slice (some ⟨g0, 0, none⟩) 25 cv) ∧ w'.cell? ⟨wr.heap.size, 1, none⟩ = some (.int .i64 (j : Int))) (by kernel_rfl) ?q13xb (fun hHeld => ?_); (case q13xb => ((try dsimp only); ((go_split_ands; (try dsimp only); (repeat' apply And.intro); all_goals (repeat (first | with_reducible assumption | (with_reducible refine (cell_set_ne ?_).trans ?_; omega) | (with_reducible refine cell_alloc _ ?_) | (with_reducible refine cell_drew ?_) | (with_reducible refine cell_drewN _ ?_))))))); refine wpAnyH_take (i := 0) (v := ?q13xv0) (by simp only [List.getElem?_toArray, List.getElem?_cons_zero]; exact rfl) (by kernel_rfl) (by kernel_rfl) (by kernel_rfl) (fun _ _ _ h => h) (Or.inl ⟨by rfl, ?q13xy0⟩) (by assumption) ?_; (case q13xy0 => (intro w hSw; (try dsimp only at hSw); go_simp; (try with_reducible rfl))); (try simp only [Act.put, List.setIfInBounds_toArray, List.set_cons_zero, List.set_cons_succ]); refine wpAnyH_take (i := 1) (v := ?q13xv1) (by simp only [List.getElem?_toArray, List.getElem?_cons_zero, List.getElem?_cons_succ]; exact rfl) (by kernel_rfl) (by kernel_rfl) (by kernel_rfl) (fun _ _ _ h => h) (Or.inl ⟨by rfl, ?q13xy1⟩) (by assumption) ?_; (case q13xy1 => (intro w hSw; (try dsimp only at hSw); go_simp; (try with_reducible rfl))); (try simp only [Act.put, List.setIfInBounds_toArray, List.set_cons_zero, List.set_cons_succ]); refine wpAnyH_take (i := 2) (v := ?q13xv2) (by simp only [List.getElem?_toArray, List.getElem?_cons_zero, List.getElem?_cons_succ]; exact rfl) (by kernel_rfl) (by kernel_rfl) (by kernel_rfl) (fun _ _ _ h => h) (Or.inl ⟨by rfl, ?q13xy2⟩) (by assumption) ?_; (case q13xy2 => (intro w hSw; (try dsimp only at hSw); go_simp; (try with_reducible rfl))); (try simp only [Act.put, List.setIfInBounds_toArray, List.set_cons_zero, List.set_cons_succ]); refine wpAnyH_take (i := 3) (v := ?q13xv3) (by simp only [List.getElem?_toArray, List.getElem?_cons_zero, List.getElem?_cons_succ]; exact rfl) (by kernel_rfl) (by kernel_rfl) (by kernel_rfl) (fun _ _ _ h => h) (Or.inl ⟨by rfl, ?q13xy3⟩) (by assumption) ?_; (case q13xy3 => (intro w hSw; (try dsimp only at hSw); go_simp; (try with_reducible rfl))); (try simp only [Act.put, List.setIfInBounds_toArray, List.set_cons_zero, List.set_cons_succ]); refine wpAnyH_take (i := 4) (v := ?q13xv4) (by simp only [List.getElem?_toArray, List.getElem?_cons_zero, List.getElem?_cons_succ]; exact rfl) (by kernel_rfl) (by kernel_rfl) (by kernel_rfl) (fun _ _ _ h => h) (Or.inl ⟨by rfl, ?q13xy4⟩) (by assumption) ?_; (case q13xy4 => (intro w hSw; (try dsimp only at hSw); go_simp; (try with_reducible rfl))); (try simp only [Act.put, List.setIfInBounds_toArray, List.set_cons_zero, List.set_cons_succ]); refine wpAnyH_take (i := 5) (v := ?q13xv5) (by simp only [List.getElem?_toArray, List.getElem?_cons_zero, List.getElem?_cons_succ]; exact rfl) (by kernel_rfl) (by kernel_rfl) (by kernel_rfl) (fun _ _ _ h => h) (Or.inl ⟨by rfl, ?q13xy5⟩) (by assumption) ?_; (case q13xy5 => (intro w hSw; (try dsimp only at hSw); go_simp; (try with_reducible rfl))); (try simp only [Act.put, List.setIfInBounds_toArray, List.set_cons_zero, List.set_cons_succ]); refine wpAnyH_take (i := 6) (v := ?q13xv6) (by simp only [List.getElem?_toArray, List.getElem?_cons_zero, List.getElem?_cons_succ]; exact rfl) (by kernel_rfl) (by kernel_rfl) (by kernel_rfl) (fun _ _ _ h => h) (Or.inl ⟨by rfl, ?q13xy6⟩) (by assumption) ?_; (case q13xy6 => (intro w hSw; (try dsimp only at hSw); go_simp; (try with_reducible rfl))); (try simp only [Act.put, List.setIfInBounds_toArray, List.set_cons_zero, List.set_cons_succ]); refine wpAnyH_take (i := 7) (v := ?q13xv7) (by simp only [List.getElem?_toArray, List.getElem?_cons_zero, List.getElem?_cons_succ]; exact rfl) (by kernel_rfl) (by kernel_rfl) (by kernel_rfl) (fun _ _ _ h => h) (Or.inl ⟨by rfl, ?q13xy7⟩) (by assumption) ?_; (case q13xy7 => (intro w hSw; (try dsimp only at hSw); go_simp; (try with_reducible rfl))); (try simp only [Act.put, List.setIfInBounds_toArray, List.set_cons_zero, List.set_cons_succ]); refine wpAnyH_ready (rs := [8]) (by kernel_rfl) (by simp) ?_; refine AllReadyH.cons (by simp only [List.getElem?_toArray, List.getElem?_cons_zero, List.getElem?_cons_succ]; exact rfl) (fun K hK => ?_) AllReadyH.nil; go_simp; refine hK.out _ _ ?q13xs8 (fun hHeld => ?_); (case q13xs8 => ((try dsimp only); ((go_split_ands; (try dsimp only); (repeat' apply And.intro); all_goals (repeat (first | with_reducible assumption | (with_reducible refine (cell_set_ne ?_).trans ?_; omega) | (with_reducible refine cell_alloc _ ?_) | (with_reducible refine cell_drew ?_) | (with_reducible refine cell_drewN _ ?_))))))); clear hK K; (try simp only [Act.put, List.setIfInBounds_toArray, List.set_cons_zero, List.set_cons_succ]); refine wpAnyH_done (by kernel_rfl) ?_ _; refine NoPanic.normal ?_)
            go_wp2_with fail
            obtain ⟨ws, hws⟩ : ∃ ws, ws = (wf.setCell ⟨g0, j, none⟩ (.slice none 0 0)).drew.drew.drew := ⟨_, rfl⟩
            have z0 : ws.cell? ⟨q, 0, none⟩ = some (.int .i64 (n : Int)) := by rw [hws]; exact (cell_set_ne (by omega)).trans z0
            have z1 : ws.cell? ⟨q, 1, none⟩ = some (.slice (some ⟨g0, 0, none⟩) 25 cv) := by rw [hws]; exact (cell_set_ne (by omega)).trans z1
            have HBs : Hid (Below q w2 ws) := by rw [hws]; exact Below.drew (Below.drew (Below.drew (Below.setCell (p := ⟨g0, j, none⟩) HBf.out (by show q ≤ g0; omega) _)))
            have HOs : Hid (OwnLs (q + 1) ws (.slice (some ⟨g0, 0, none⟩) 25 cv) (M.set j []) (V.set j (.slice none 0 0))) := by rw [hws]; exact OwnLs_move HSet.out (fun b _ _ => rfl)
            have HRs : Hid (ws.ownsRow (q + 1) 43 2 (.slice ax X.length cx) X.length (X.map Tm.cells).flatten) := by
              rw [hws]
              exact own_move HRx.out (fun b hb => Below.heap_setCell _ _ _ _ (HFree.out b hb).1)
            have hzs : wf.heap.size = ws.heap.size := by rw [hws]; simp
            rw [← hws]
            clear hws HSet HRx HOf HBf l1 lf b0 b1
            go_loopw [89] (fun i wp => ∃ m : Nat, m ≤ X.length ∧ i = .int .i64 m ∧ AvIn q g0 w2 ws wp n cv (.slice ax X.length cx) (pinsL (n : Int) (M.set j []) (X.take m)) X) (fun i _ => X.length - (intOf i).toNat)
            case atStart => exact ⟨0, Nat.zero_le _, rfl, HBs.out, Nat.le_refl _, z0, z1, HRs.out, _, HOs.out, HFree.out⟩
            case round =>
              obtain ⟨m, hm, rfl, hB, hzp, z0, z1, hR, V2, hO, hF⟩ := hrel
              have HB := Lib.hid hB
              have HO := Lib.hid hO
              have HR := Lib.hid hR
              have HF := Lib.hid hF
              clear hB hO hR hF HBs HOs HRs HFree
              rcases (show m < X.length ∨ m = X.length by omega) with hml | rfl
              · have hml' : (m : Int) < (X.length : Int) := by omega
                have p0 : (0 : Int) ≤ (m : Int) := by omega
                obtain ⟨_, _, e0, _, _, _, pt⟩ := RowAt_fn Tm.zero (RowNew_of_owns HR.out (by rw [List.length_map]) (lenc_Tm _)).1
                injection e0 with e01 _ e03
                subst e01; subst e03
                obtain ⟨bx, ox, rfl, hbx, q1⟩ := pt (by intro h; rw [h] at hml; simp at hml)
                obtain ⟨t, ht⟩ : ∃ t, t = X.getD m Tm.zero := ⟨_, rfl⟩
                have d0 := q1 m 0 hml (by omega)
                have d1 := q1 m 1 hml (by omega)
                rw [← ht] at d0 d1
                have HTk := Lib.hid (tm_take ht hml)
                have HTm := Lib.hid (tm_mem ht hml)
                obtain ⟨t0, t1⟩ := t
                simp only [Tm.cells, List.getElem?_cons_zero, List.getElem?_cons_succ, Nat.add_zero] at d0 d1
                have HTE := Lib.hid (HM.out.tm _ (HLay.out.mem hj25 _ (by rw [← HX.out]; exact HTm.out)))
                obtain ⟨A, rfl⟩ := Int.eq_ofNat_of_zero_le (show 0 ≤ t0 by have := HTE.out.1; simp at this; omega)
                have hA2 : A ≤ 2199023255552 := by have := HTE.out.2.2.1; simp at this; omega
                have hN2 : n ≤ 2199023255552 := by have := HN.out; omega
                have HPk := Lib.hid (pins_ok HLay.out (n : Int) hj25 m)
                rw [← HX.out] at HPk
                obtain ⟨Y, hY⟩ : ∃ Y, Y = pinsL (n : Int) (M.set j []) (X.take m) := ⟨_, rfl⟩
                have HY := Lib.hid hY
                rw [← hY] at HPk HO
                have hplt := placeN_lt A n
                have hET := HM.out.tot
                have hor := (HPk.out.2 _ hplt).1
                have hln : (Y.getD (placeN A n) []).length ≤ 100000 := by have := (HPk.out.2 _ hplt).2; omega
                have HOr := Lib.hid hor
                have HLn2 := Lib.hid hln
                have HY25 := Lib.hid HPk.out.1
                clear ht q1 pt hY hor hln hET
                go_wp2_with fail
                have hba : Below wr.heap.size wr (wr.alloc (.cells #[.int .i64 (A : Int), .int .i64 t1] 43)) := (Below.refl _ _).alloc (Nat.le_refl _) _
                refine (prog_putC q A n t1 _ Y V2 _ (by simp; omega) (cell_below hba z0 (by omega)) (cell_below hba z1 (by omega)) (OwnLs_below HO.out hba) HY25.out hA2 hN2 _ rfl HOr.out HLn2.out).mono ?_
                rintro e w5 ⟨v5, rfl, hown5, hz5, hk5, hn5, hb5⟩
                have hk6 : ∀ b, b < wr.heap.size → b ≠ g0 → (V2.getD (placeN A n) undef).ownBlock ≠ some b → w5.heap[b]? = wr.heap[b]? := fun b h1 h2 h3 =>
                  (hk5 b (by simp; omega) (fun e => h2 (Option.some.inj e).symm) h3).trans (hba.block b h1)
                have hV2 : placeN A n < V2.length := by rw [HO.out.1, HY25.out]; exact hplt
                have hbx' : (Value.slice (some ⟨bx, ox, none⟩) X.length cx).ownBlock = some bx := rfl
                have HF6 := Lib.hid (HF.out bx hbx')
                have hbx6 : w5.heap[bx]? = wr.heap[bx]? := hk6 bx hbx HF6.out.1 (HF6.out.2 _ hplt)
                have z0 : w5.cell? ⟨q, 0, none⟩ = some (.int .i64 (n : Int)) := (hb5.cell (p := ⟨q, 0, none⟩) (by simp)).trans (cell_below hba z0 (by omega))
                have z1 : w5.cell? ⟨q, 1, none⟩ = some (.slice (some ⟨g0, 0, none⟩) 25 cv) := (hb5.cell (p := ⟨q, 1, none⟩) (by simp)).trans (cell_below hba z1 (by omega))
                have HB5 := Lib.hid ((HB.out.trans (hba.mono (by omega))).trans (hb5.mono (by omega)))
                have HR5 := Lib.hid (own_move HR.out (fun b hb => by obtain rfl : bx = b := Option.some.inj hb; exact hbx6))
                have hzp5 : ws.heap.size ≤ w5.heap.size := by simp at hz5; omega
                have HO5 : Hid (OwnLs (q + 1) w5 (.slice (some ⟨g0, 0, none⟩) 25 cv) (pinsL (n : Int) (M.set j []) (X.take (m + 1))) (V2.set (placeN A n) v5)) := by
                  have e : plc ⟨(A : Int), t1⟩ (n : Int) = placeN A n := plc_nat rfl rfl
                  show OwnLs _ _ _ _ _
                  rw [HTk.out, pinsL_snoc, ← HY.out]
                  unfold pinL
                  rw [e]
                  exact hown5
                have HFr : Hid (∀ b, (Value.slice (some ⟨bx, ox, none⟩) X.length cx).ownBlock = some b → b ≠ g0 ∧ ∀ i, i < 25 → ((V2.set (placeN A n) v5).getD i undef).ownBlock ≠ some b) := fun b hb => by
                  obtain rfl : bx = b := Option.some.inj hb
                  refine ⟨HF6.out.1, fun i hi hc => ?_⟩
                  by_cases e : placeN A n = i
                  · subst e
                    rw [getD_set_eq hV2] at hc
                    rcases hn5 bx hc with h | h
                    · exact HF6.out.2 _ hplt h
                    · simp at h; omega
                  · rw [getD_set_ne e] at hc
                    exact HF6.out.2 i hi hc
                clear hown5 hk5 hk6 hn5 hb5 hbx6 hbx' HF6 hba HB HR HO HF
                go_wp2_with fail
                go_roundw
                case rel => exact ⟨m + 1, by omega, by go_num, HB5.out, hzp5, z0, z1, HR5.out, _, HO5.out, HFr.out⟩
                case measure => simp [intOf]; omega
              · have hge : ¬ ((X.length : Nat) : Int) < (X.length : Int) := by omega
                have HEq := Lib.hid (show pinsL (n : Int) (M.set j []) (X.take X.length) = advM n LL 3 by rw [HE.out, List.take_length]; unfold movL; rw [HX.out])
                rw [HEq.out] at HO
                go_wp2_with fail
                go_roundw
                case rel => exact ⟨_, _, _, _, ⟨3, by omega, rfl, HB.out, z0, z1, _, HO.out⟩, rfl, rfl, rfl, rfl⟩
                case measure => simp [intOf]
        · rw [show ((3 : Nat) : Int) = 3 from rfl]
          obtain ⟨we, rfl⟩ : ∃ we, we = wr := ⟨_, rfl⟩
          have hall : advM n LL 3 = wheelOf (n : Int) LL.flatten := by
            have e : n = N + 1 := by have h1 := HN1.out; have h2 := HNn.out; omega
            rw [e]; exact advM_all HM.out
          go_upto_region 21 with (fail)
          obtain ⟨I, hI⟩ : ∃ I, I = n % 8 := ⟨_, rfl⟩
          have e8 : (n : Int) % 8 = (I : Int) := by omega
          have i25 : I < 25 := by omega
          rw [e8]
          have HI := Lib.hid hI
          clear e8 hI
          have i0 : (0 : Int) ≤ (I : Int) := by omega
          have i1 : (I : Int) < 25 := by omega
          obtain ⟨M, hM⟩ : ∃ M, M = wheelOf (n : Int) LL.flatten := ⟨_, rfl⟩
          rw [hall, ← hM] at HO
          clear hall
          have hMl : M.length = 25 := by rw [hM]; exact wheelOf_len _ _
          have HMe := Lib.hid hM
          clear hM
          obtain ⟨hV, hro, hrw, hd4, hd5⟩ := HO.out
          rw [hMl] at hro
          have l1 := hro.cellAt I (by omega)
          have hVj : V[I]? = some (V.getD I undef) := by rw [List.getD_eq_getElem?_getD, List.getElem?_eq_getElem (by omega)]; rfl
          rw [hVj] at l1
          have lf := hro.frozenAt I
          have hg1 := hro.lt g0 rfl
          have hRx := hrw I (by omega)
          obtain ⟨X, hX⟩ : ∃ X, X = M.getD I [] := ⟨_, rfl⟩
          obtain ⟨xv, hxv⟩ : ∃ xv, xv = V.getD I undef := ⟨_, rfl⟩
          have hXE := (adv_end (n := n) (show n = N + 1 by have h1 := HN1.out; have h2 := HNn.out; omega) HM.out)
          have hX2 : X.length ≤ 200 := by
            rw [hX, HMe.out, HI.out, hXE.2, (srtT_perm _).length_eq]
            exact Nat.le_trans (List.length_filter_le _ _) HM.out.tot
          have HXE := Lib.hid hXE
          rw [← hX, ← hxv] at hRx
          rw [← hxv] at l1
          obtain ⟨ax, cx, rfl, _⟩ := owns_shape hRx
          have HX := Lib.hid hX
          have RX := Lib.hid (RowNew_of_owns hRx (by rw [List.length_map]) (lenc_Tm _)).1
          obtain ⟨_, _, e0, _, _, _, pt⟩ := RowAt_fn Tm.zero RX.out
          injection e0 with e01 _ e03
          subst e01; subst e03
          have PT := Lib.hid pt
          obtain ⟨j0, hj, hj0, hj1, hj2⟩ := info_parts info_in
          clear hV hro hrw hd4 hd5 hVj hRx hX hxv pt hXE
          go_wp2_with fail
          go_loopw [12, 113] (fun o i wp => ∃ m : Nat, m ≤ X.length ∧ i = .int .i64 m ∧ Below we.heap.size we wp ∧ wp.ownsRow we.heap.size 3 1 o m ((X.take m).map fun t => Value.int .i64 t.id)) (fun _ i _ => X.length - (intOf i).toNat)
          case atStart => exact ⟨0, Nat.zero_le _, rfl, Below.refl _ _, by simpa using World.ownsRow_nil _ _ _ _⟩
          case round =>
            obtain ⟨m, hm, rfl, hB, hO2⟩ := hrel
            have HBi := Lib.hid hB
            have HOo := Lib.hid hO2
            have hz5 := hB.size
            obtain ⟨ao, co, rfl, _⟩ := owns_shape hO2
            rcases (show m < X.length ∨ m = X.length by omega) with hml | rfl
            · have hml' : (m : Int) < (X.length : Int) := by omega
              have p0 : (0 : Int) ≤ (m : Int) := by omega
              obtain ⟨bx, ox, rfl, hbx, q1⟩ := PT.out (by intro h; rw [h] at hml; simp at hml)
              obtain ⟨t, ht⟩ : ∃ t, t = X.getD m Tm.zero := ⟨_, rfl⟩
              have d0 := q1 m 0 hml (by omega)
              have d1 := q1 m 1 hml (by omega)
              rw [← ht] at d0 d1
              have HTk := Lib.hid (tm_take ht hml)
              obtain ⟨t0, t1⟩ := t
              simp only [Tm.cells, List.getElem?_cons_zero, List.getElem?_cons_succ, Nat.add_zero] at d0 d1
              have d0 := cell_below hB d0 hbx
              have d1 := cell_below hB d1 hbx
              clear ht q1 hB hO2
              go_wp2_with (at_builtin; go_loud (refine wpList_append_own _ rfl _ _ 33 rfl we.heap.size 3 j0 (.int .i64 0) 1 8 Try.underlying33 hj hj0 hj1 hj2 rfl (by decide) _ _ _ rfl (World.ownsRow.alloc (World.ownsRow.alloc HOo.out _) _) ⟨wr.heap.size + 1, 0, none⟩ 1 1 [.int .i64 t1] rfl rfl ?c0 ?c1 ?c2 ?c3 ?c4 ?_))
              case c0 => exact news_lit (by simp) _ _
              case c1 => intro u hu; obtain rfl := List.mem_singleton.1 hu; rfl
              case c2 => unfold maxLen; omega
              case c3 => omega
              case c4 => simp; omega
              intro v6 w6 hown6 hgr6 _
              have hb6 := grown_below (B := we.heap.size) (((Below.refl wr.heap.size wr).alloc (Nat.le_refl _) _).alloc (by simp) _) (by omega) HOo.out hgr6
              have HB6 := Lib.hid (HBi.out.trans hb6)
              have HO6 : Hid (w6.ownsRow we.heap.size 3 1 v6 (m + 1) ((X.take (m + 1)).map fun t => Value.int .i64 t.id)) := by
                show World.ownsRow _ _ _ _ _ _ _
                rw [HTk.out, List.map_append]
                simpa using hown6
              obtain ⟨a6, c6, rfl, _⟩ := owns_shape hown6
              clear hown6 hgr6 hb6 HOo HBi
              go_wp2_with fail
              go_roundw
              case rel => exact ⟨m + 1, by omega, by go_num, HB6.out, HO6.out⟩
              case measure => simp [intOf]; omega
            · have hge : ¬ ((X.length : Nat) : Int) < (X.length : Int) := by omega
              have z0 := cell_below hB z0 (by omega)
              have z1 := cell_below hB z1 (by omega)
              have l1 := cell_below hB l1 (by omega)
              have lf : wr.frozen? ⟨g0, I, none⟩ = false := (hB.frozen (p := ⟨g0, I, none⟩) (by show g0 < _; omega)).trans lf
              have hBq := HB.out.size
              have HBw := Lib.hid (HB.out.trans (HBi.out.mono (by omega)))
              have HOw := Lib.hid (OwnLs_below HO.out HBi.out)
              have HBx := Lib.hid (HB2.out.trans HBw.out)
              have y0 : wr.cell? ⟨w.heap.size + 1, 0, none⟩ = some (.int .i64 0) := (HBx.out.cell (p := ⟨w.heap.size + 1, 0, none⟩) (by show w.heap.size + 1 < q; omega)).trans y0
              have y1 : wr.cell? ⟨w.heap.size + 1, 1, none⟩ = some (.slice none 0 0) := (HBx.out.cell (p := ⟨w.heap.size + 1, 1, none⟩) (by show w.heap.size + 1 < q; omega)).trans y1
              have f0 : ∀ n, wr.frozen? ⟨w.heap.size + 1, n, none⟩ = false := fun n => (HBx.out.frozen (p := ⟨w.heap.size + 1, n, none⟩) (by show w.heap.size + 1 < q; omega)).trans (f0 n)
              have g1 : ¬ q = g0 := by omega
              have g2 : ¬ w.heap.size + 1 = g0 := by omega
              have g3 : ¬ g0 = w.heap.size + 1 := by omega
              clear hB hO2
              go_wp2_with fail
              obtain ⟨e1, e2, e3, e4⟩ := HA.out.yes (by rw [HNn.out]; exact HM.out) HLt.out
              rw [← HN1.out] at e1 e2 e3
              rw [← HXE.out.1, ← HI.out, ← HMe.out] at e2
              rw [← HXE.out.2, ← HI.out, ← HMe.out, ← HX.out] at e3
              rw [List.take_length] at HOo
              have HSet := Lib.hid (OwnLs_set (w' := wr) (v' := .slice none 0 0) (L' := []) (a := I) HOw.out (by omega) (by rw [hMl]) (fun b hb hne => rfl) (fun b hb => by cases hb) (by simpa using World.ownsRow_nil _ _ _ _))
              have hoo : ∀ b, (Value.slice ao X.length co).ownBlock = some b → we.heap.size ≤ b ∧ b < wr.heap.size := fun b hb => HOo.out.lt b hb
              subst e1 e2 e3 e4
              refine bodyPost_ret (v := .tuple #[.agg #[.int .i64 (n : Int), .slice (some ⟨g0, 0, none⟩) 25 cv], .slice ao X.length co, .int .i64 0]) ?_ rfl ⟨_, _, rfl, ?_, ?_, ?_⟩
              · simp [results, Try.results12, go_sem, *]
              · refine LsNew_mono (OwnLs_new (OwnLs_move HSet.out fun b h1 h2 => ?_)) (B := q + 1) (by omega)
                rw [Below.heap_setCell _ _ _ _ (by show b ≠ w.heap.size + 1; omega), Below.heap_setCell _ _ _ _ (by show b ≠ w.heap.size + 1; omega)]
              · refine RowNew_mono (RowNew_of_owns (base := we.heap.size) (e := 3) (n := X.length) (own_move (w := wr) (by rw [List.map_map]; show wr.ownsRow _ _ _ _ _ (X.map fun t => [Value.int .i64 t.id]).flatten; rw [flat1]; exact HOo.out) (fun b hb => ?_)) (by simp) (by simp)) (by omega)
                have := hoo b hb
                rw [Below.heap_setCell _ _ _ _ (by show b ≠ w.heap.size + 1; omega), Below.heap_setCell _ _ _ _ (by show b ≠ w.heap.size + 1; omega), Below.heap_setCell _ _ _ _ (by show b ≠ g0; omega)]
              · have hb0 : Below w.heap.size w wr := HB1.out.trans (HBx.out.mono (by omega))
                exact ((hb0.setCell (p := ⟨g0, I, none⟩) (by show w.heap.size ≤ g0; omega) _).setCell (p := ⟨w.heap.size + 1, 0, none⟩) (by show w.heap.size ≤ w.heap.size + 1; omega) _).setCell (p := ⟨w.heap.size + 1, 1, none⟩) (by show w.heap.size ≤ w.heap.size + 1; omega) _
end Go.Proofs.Ythgfiadfpgfjdaa
