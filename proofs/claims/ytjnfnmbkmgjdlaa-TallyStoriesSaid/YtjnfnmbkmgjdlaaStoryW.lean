/- The walk of TallyStories. -/
import Derived.Test.YtjnfnmbkmgjdlaaStoryP
import Derived.Test.YtjnfnmbkmgjdlaaStoryR
import Derived.Test.YtjnfnmbkmgjdlaaCopyoutputs
import Derived.Test.YtjnfnmbkmgjdlaaSameOutputs
import Derived.Deep.RegionHeld3
namespace Go.Proofs.Ytjnfnmbkmgjdlaa
open Go.RowKit

theorem RowAt_drew {w : World} {sz : Nat} {v : Value} {L : List (List Value)} (h : RowAt w sz v L) : RowAt w.drew sz v L := RowAt_drewN h 1
def StoryAns (X : List Out) (hs hg : Int) (Y : List Out) (code : Int) : Prop := ((∀ x ∈ X, Fits x) ∧ Y = storyL X hs hg X.length ∧ code = 0) ∨ ((∃ x ∈ X, ¬ Fits x) ∧ Y = [] ∧ code = 5)
theorem StoryAns_total (X : List Out) (hs hg : Int) : ∃ Y code, StoryAns X hs hg Y code := by
  by_cases h : ∀ x ∈ X, Fits x
  · exact ⟨_, _, Or.inl ⟨h, rfl, rfl⟩⟩
  · exact ⟨_, _, Or.inr ⟨by simpa using h, rfl, rfl⟩⟩
theorem prog_Story_nil (a : Option Addr) (c : Nat) (hs hg : Int) (w : World) (r : RowAt w 7 (.slice a 0 c) (([] : List Out).map Out.cells)) : Calls Try.prog 8 #[.slice a 0 c, .agg #[.int .i64 hs, .int .i64 hg]] w (StoryPost w [] 0) := by
  have R := Lib.hid r
  clear r
  go_enter Try.func8, Try.ntmps8
  go_wp2_with fail
  refine (prog_Of_ok _ [] _ (RowAt_alloc R.out _) (by simp) (by simp)).mono ?_
  rintro e w1 ⟨rfl, hb1⟩
  obtain ⟨hc1, hf1⟩ := bcell hb1
  have hy1 := hb1.size
  simp at hy1
  rw [talV_lit]
  go_wp2_with fail
  refine wp_loop_rounds 1 ?_
  rw [rounds_succ]
  go_wp2
  refine bodyPost_ret (v := .tuple #[.slice none 0 0, .int .i64 0]) ?_ rfl ⟨_, rfl, RowNew_nil _ _ _, (by repeat (first | (with_reducible exact Below.refl _ _) | (with_reducible assumption) | (with_reducible refine Below.drew ?_) | (with_reducible refine Below_drewN ?_) | (with_reducible refine Below.alloc ?_ (by first | omega | (simp; done) | (simp; omega)) _) | (with_reducible refine Below.setCell ?_ (by first | omega | (simp; done) | (simp; omega)) _) | (with_reducible refine Below.trans ?_ (Below.mono (by assumption) (by first | omega | (simp; done) | (simp; omega))))))⟩
  simp [results, Try.results8, go_sem, *]
theorem ref_Story_nil (a : Option Addr) (c : Nat) (hs hg : Int) (w : World) (r : RowAt w 7 (.slice a 0 c) (([] : List Out).map Out.cells)) : Calls Try.prog 10 #[.slice a 0 c, .agg #[.int .i64 hs, .int .i64 hg]] w (StoryPost w [] 0) := by
  have R := Lib.hid r
  clear r
  go_enter Try.func10, Try.ntmps10
  go_wp2_with fail
  refine (tallyFault_ok _ [] _ (RowAt_alloc R.out _) (by simp) (by simp)).mono ?_
  rintro e w1 ⟨rfl, rfl⟩
  go_wp2_with fail
  refine wp_loop_rounds 1 ?_
  rw [rounds_succ]
  go_wp2
  refine bodyPost_ret (v := .tuple #[.slice none 0 0, .int .i64 0]) ?_ rfl ⟨_, rfl, RowNew_nil _ _ _, (by repeat (first | (with_reducible exact Below.refl _ _) | (with_reducible assumption) | (with_reducible refine Below.drew ?_) | (with_reducible refine Below_drewN ?_) | (with_reducible refine Below.alloc ?_ (by first | omega | (simp; done) | (simp; omega)) _) | (with_reducible refine Below.setCell ?_ (by first | omega | (simp; done) | (simp; omega)) _) | (with_reducible refine Below.trans ?_ (Below.mono (by assumption) (by first | omega | (simp; done) | (simp; omega))))))⟩
  simp [results, Try.results10, go_sem, *]
theorem prog_Story (v : Value) (X : List Out) (hs hg : Int) (Y : List Out) (code : Int) (w : World) (r : RowAt w 7 v (X.map Out.cells)) (hn : X.length * 56 ≤ 140737488351232) (h : StoryAns X hs hg Y code) : Calls Try.prog 8 #[v, .agg #[.int .i64 hs, .int .i64 hg]] w (StoryPost w Y code) := by
  rcases h with ⟨h, rfl, rfl⟩ | ⟨h, rfl, rfl⟩
  · have r' := r
    obtain ⟨a, c, rfl, l, m, n, p⟩ := RowAt_fn Out.zero r
    by_cases hX : X = []
    · subst hX; exact prog_Story_nil a c hs hg w r'
    · obtain ⟨b, o, rfl, hb, q⟩ := p hX
      exact prog_Story_row b o c X hs hg w hb r' hn h q
  · exact prog_Story_bad v X hs hg w r hn h
theorem ref_Story (v : Value) (X : List Out) (hs hg : Int) (Y : List Out) (code : Int) (w : World) (r : RowAt w 7 v (X.map Out.cells)) (hn : X.length * 56 ≤ 140737488351232) (h : StoryAns X hs hg Y code) : Calls Try.prog 10 #[v, .agg #[.int .i64 hs, .int .i64 hg]] w (StoryPost w Y code) := by
  rcases h with ⟨h, rfl, rfl⟩ | ⟨h, rfl, rfl⟩
  · have r' := r
    obtain ⟨a, c, rfl, l, m, n, p⟩ := RowAt_fn Out.zero r
    by_cases hX : X = []
    · subst hX; exact ref_Story_nil a c hs hg w r'
    · obtain ⟨b, o, rfl, hb, q⟩ := p hX
      exact ref_Story_row b o c X hs hg w hb r' hn h q
  · exact ref_Story_bad v X hs hg w r hn h

set_option maxHeartbeats 4000000 in
set_option maxRecDepth 100000 in
theorem walk_TallyStories (v0 v1 : Value) (W : World) (o0 : Is_sl_Output W v0) (o1 : Is_Handle W v1) :
    Calls Try.prog 3 #[v0, v1] W fun e w' => e = .returned (.bool true) ∧ Below W.heap.size W w' := by
  obtain ⟨X, r, _, hn⟩ := o0
  obtain ⟨hs, hg, rfl, _⟩ := o1
  obtain ⟨Y, code, h⟩ := StoryAns_total X hs hg
  have H := Lib.hid h
  have R := Lib.hid r
  have HN := Lib.hid hn
  obtain ⟨a, c, rfl, _⟩ := RowAt_shape r
  clear h r hn
  go_enter Try.func3, Try.ntmps3
  go_wp2_with fail
  (refine wp_region_noPanic ?_; refine wp_region_held_drew (S := (fun w' => w'.cell? ⟨W.heap.size, 0, none⟩ = some (.int .i64 hs) ∧ w'.cell? ⟨W.heap.size, 1, none⟩ = some (.int .i64 hg))) (by kernel_rfl) ?q1xb (fun hHeld => ?_); (case q1xb => ((try dsimp only); (first | (go_simp; done) | (((go_split_ands; (try dsimp only); (repeat' apply And.intro); all_goals (repeat (first | with_reducible assumption | (with_reducible refine (cell_set_ne ?_).trans ?_; omega) | (with_reducible refine cell_alloc _ ?_) | (with_reducible refine cell_drew ?_) | (with_reducible refine cell_below' hb2 ?_) | (with_reducible refine cell_below' hb1 ?_))))); all_goals go_simp)))); refine wpAnyH_take (i := 0) (v := ?q1xv0) (by simp only [List.getElem?_toArray, List.getElem?_cons_zero]; exact rfl) (by kernel_rfl) (by kernel_rfl) (by kernel_rfl) (fun _ _ _ h => h) (Or.inl ⟨by rfl, ?q1xy0⟩) (by assumption) ?_; (case q1xy0 => (intro w hSw; (try dsimp only at hSw); go_simp; (try with_reducible rfl))); (try simp only [Act.put, List.setIfInBounds_toArray, List.set_cons_zero, List.set_cons_succ]); refine wpAnyH_take (i := 2) (v := ?q1xv2) (by simp only [List.getElem?_toArray, List.getElem?_cons_zero, List.getElem?_cons_succ]; exact rfl) (by kernel_rfl) (by kernel_rfl) (by kernel_rfl) (fun _ _ _ h => h) (Or.inl ⟨by rfl, ?q1xy2⟩) (by assumption) ?_; (case q1xy2 => (intro w hSw; (try dsimp only at hSw); go_simp; (try with_reducible rfl))); (try simp only [Act.put, List.setIfInBounds_toArray, List.set_cons_zero, List.set_cons_succ]); refine wpAnyH_ready (rs := [1]) (by kernel_rfl) (by simp) ?_; refine AllReadyH.cons (by simp only [List.getElem?_toArray, List.getElem?_cons_zero, List.getElem?_cons_succ]; exact rfl) (fun K hK => ?_) AllReadyH.nil; go_simp; (first | (go_at_call 9; refine (outputs_copy _ X _ (RowAt_drew (RowAt_alloc R.out _)) HN.out).mono ?_; rintro e w1 ⟨v1, rfl, R1, hb1⟩; obtain ⟨a1, c1, rfl, _⟩ := RowAt_shape R1; have R1' := Lib.hid R1) | (go_at_call 8; refine (prog_Story _ X hs hg Y code _ R1'.out HN.out H.out).mono ?_; rintro e w2 ⟨v2, rfl, R2, hb2⟩; obtain ⟨a2, c2, rfl, _⟩ := RowAt_shape R2.1)); (try go_wp2_with fail); refine hK.out _ _ ?q1xs1 (fun hHeld => ?_); (case q1xs1 => ((try dsimp only); (first | (go_simp; done) | (((go_split_ands; (try dsimp only); (repeat' apply And.intro); all_goals (repeat (first | with_reducible assumption | (with_reducible refine (cell_set_ne ?_).trans ?_; omega) | (with_reducible refine cell_alloc _ ?_) | (with_reducible refine cell_drew ?_) | (with_reducible refine cell_below' hb2 ?_) | (with_reducible refine cell_below' hb1 ?_))))); all_goals go_simp)))); clear hK K; (try simp only [Act.put, List.setIfInBounds_toArray, List.set_cons_zero, List.set_cons_succ]); refine wpAnyH_ready (rs := [3]) (by kernel_rfl) (by simp) ?_; refine AllReadyH.cons (by simp only [List.getElem?_toArray, List.getElem?_cons_zero, List.getElem?_cons_succ]; exact rfl) (fun K hK => ?_) AllReadyH.nil; go_simp; (first | (go_at_call 9; refine (outputs_copy _ X _ (RowAt_drew (RowAt_alloc R.out _)) HN.out).mono ?_; rintro e w1 ⟨v1, rfl, R1, hb1⟩; obtain ⟨a1, c1, rfl, _⟩ := RowAt_shape R1; have R1' := Lib.hid R1) | (go_at_call 8; refine (prog_Story _ X hs hg Y code _ R1'.out HN.out H.out).mono ?_; rintro e w2 ⟨v2, rfl, R2, hb2⟩; obtain ⟨a2, c2, rfl, _⟩ := RowAt_shape R2.1)); (try go_wp2_with fail); refine hK.out _ _ ?q1xs3 (fun hHeld => ?_); (case q1xs3 => ((try dsimp only); (first | (go_simp; done) | (((go_split_ands; (try dsimp only); (repeat' apply And.intro); all_goals (repeat (first | with_reducible assumption | (with_reducible refine (cell_set_ne ?_).trans ?_; omega) | (with_reducible refine cell_alloc _ ?_) | (with_reducible refine cell_drew ?_) | (with_reducible refine cell_below' hb2 ?_) | (with_reducible refine cell_below' hb1 ?_))))); all_goals go_simp)))); clear hK K; (try simp only [Act.put, List.setIfInBounds_toArray, List.set_cons_zero, List.set_cons_succ]); refine wpAnyH_take (i := 4) (v := ?q1xv4) (by simp only [List.getElem?_toArray, List.getElem?_cons_zero, List.getElem?_cons_succ]; exact rfl) (by kernel_rfl) (by kernel_rfl) (by kernel_rfl) (fun _ _ _ h => h) (Or.inl ⟨by rfl, ?q1xy4⟩) (by assumption) ?_; (case q1xy4 => (intro w hSw; (try dsimp only at hSw); go_simp; (try with_reducible rfl))); (try simp only [Act.put, List.setIfInBounds_toArray, List.set_cons_zero, List.set_cons_succ]); refine wpAnyH_take (i := 5) (v := ?q1xv5) (by simp only [List.getElem?_toArray, List.getElem?_cons_zero, List.getElem?_cons_succ]; exact rfl) (by kernel_rfl) (by kernel_rfl) (by kernel_rfl) (fun _ _ _ h => h) (Or.inl ⟨by rfl, ?q1xy5⟩) (by assumption) ?_; (case q1xy5 => (intro w hSw; (try dsimp only at hSw); go_simp; (try with_reducible rfl))); (try simp only [Act.put, List.setIfInBounds_toArray, List.set_cons_zero, List.set_cons_succ]); refine wpAnyH_take (i := 6) (v := ?q1xv6) (by simp only [List.getElem?_toArray, List.getElem?_cons_zero, List.getElem?_cons_succ]; exact rfl) (by kernel_rfl) (by kernel_rfl) (by kernel_rfl) (fun _ _ _ h => h) (Or.inl ⟨by rfl, ?q1xy6⟩) (by assumption) ?_; (case q1xy6 => (intro w hSw; (try dsimp only at hSw); go_simp; (try with_reducible rfl))); (try simp only [Act.put, List.setIfInBounds_toArray, List.set_cons_zero, List.set_cons_succ]); refine wpAnyH_take (i := 7) (v := ?q1xv7) (by simp only [List.getElem?_toArray, List.getElem?_cons_zero, List.getElem?_cons_succ]; exact rfl) (by kernel_rfl) (by kernel_rfl) (by kernel_rfl) (fun _ _ _ h => h) (Or.inl ⟨by rfl, ?q1xy7⟩) (by assumption) ?_; (case q1xy7 => (intro w hSw; (try dsimp only at hSw); go_simp; (try with_reducible rfl))); (try simp only [Act.put, List.setIfInBounds_toArray, List.set_cons_zero, List.set_cons_succ]); refine wpAnyH_take (i := 8) (v := ?q1xv8) (by simp only [List.getElem?_toArray, List.getElem?_cons_zero, List.getElem?_cons_succ]; exact rfl) (by kernel_rfl) (by kernel_rfl) (by kernel_rfl) (fun _ _ _ h => h) (Or.inl ⟨by rfl, ?q1xy8⟩) (by assumption) ?_; (case q1xy8 => (intro w hSw; (try dsimp only at hSw); go_simp; (try with_reducible rfl))); (try simp only [Act.put, List.setIfInBounds_toArray, List.set_cons_zero, List.set_cons_succ]); refine wpAnyH_done (by kernel_rfl) ?_ _; refine NoPanic.normal ?_)
  have B1 : Hid (Below W.heap.size W w1) := (((Below.refl W.heap.size W).alloc (Nat.le_refl _) _).drew).trans (hb1.mono (by simp))
  have R2' := Lib.hid R2.1
  have B2 := Lib.hid (B1.out.trans (hb2.mono B1.out.size))
  have Rb := Lib.hid (RowAt_below R.out B2.out)
  obtain ⟨d0, d1⟩ := hHeld
  clear R2 hb2 R1' R1 hb1
  go_wp2_with fail
  refine (ref_Story _ X hs hg Y code _ Rb.out HN.out H.out).mono ?_
  rintro e w3 ⟨v3, rfl, R3, hb3⟩
  obtain ⟨a3, c3, rfl, _⟩ := RowAt_shape R3.1
  have R3' := Lib.hid R3.1
  have R2b := Lib.hid (RowAt_below R2'.out hb3)
  have B3 := Lib.hid (B2.out.trans (hb3.mono B2.out.size))
  clear R3 hb3 R2' Rb
  go_wp2_with fail
  refine (sameOutputs_yes _ _ Y _ R2b.out R3'.out).mono ?_
  rintro e w4 ⟨rfl, hb4⟩
  have B4 := Lib.hid (B3.out.trans (hb4.mono B3.out.size))
  clear hb4
  go_wp2
  all_goals first | (go_ret; exact ⟨rfl, B4.out⟩) | (exfalso; first | omega | (simp at *; omega) | (simp at *; done))
end Go.Proofs.Ytjnfnmbkmgjdlaa
