/- ring.order: which of two spots comes first; what it lays. -/
import Derived.Test.YtmhbkpgacdmjpaaRing
import Derived.Deep.RegionHeld3
import Derived.Deep.QuietTactic
import Derived.Shelf.SlSortCmp.NoneTotal
namespace Go.Proofs.Ytmhbkpgacdmjpaa
open Go.RowKit Go.Shelf Go.Sort

def cmpI (x y : Int) : Int := if x < y then -1 else if y < x then 1 else 0
def orI (x y : Int) : Int := if x = 0 then y else x
def cfSp (x y : Sp) : Int := orI (cmpI x.hash y.hash) (cmpI x.backend y.backend)
theorem cfSp_lt (x y : Sp) : ltOf cfSp x y = spA x y := by
  unfold ltOf cfSp orI cmpI spA
  by_cases h1 : x.hash < y.hash
  · simp [h1]
  · by_cases h2 : y.hash < x.hash
    · have h3 : ¬ x.hash = y.hash := by omega
      simp [h1, h2, h3]
    · have h3 : x.hash = y.hash := by omega
      by_cases h4 : x.backend < y.backend
      · simp [h3, h4]
      · by_cases h5 : y.backend < x.backend <;> simp [h3, h4, h5]

set_option maxHeartbeats 2000000 in
theorem cmpC (x y : Int) (w : World) : Calls Try.prog 37 #[.int .i64 x, .int .i64 y] w fun e w' => e = .returned (.int .i64 (cmpI x y)) ∧ w' = w := by
  obtain ⟨r, hr⟩ : ∃ r, r = cmpI x y := ⟨_, rfl⟩
  rw [← hr]
  unfold cmpI at hr
  rcases (show x < y ∨ (¬ x < y ∧ y < x) ∨ (¬ x < y ∧ ¬ y < x) by omega) with h | ⟨h, h2⟩ | ⟨h, h2⟩
  · rw [if_pos h] at hr
    subst hr
    go_enter Try.func37, Try.ntmps37
    go_wp2
    all_goals first | (go_ret; exact ⟨rfl, rfl⟩) | (exfalso; first | omega | (simp at *; omega) | (simp at *; done))
  · rw [if_neg h, if_pos h2] at hr
    subst hr
    go_enter Try.func37, Try.ntmps37
    go_wp2
    all_goals first | (go_ret; exact ⟨rfl, rfl⟩) | (exfalso; first | omega | (simp at *; omega) | (simp at *; done))
  · rw [if_neg h, if_neg h2] at hr
    subst hr
    go_enter Try.func37, Try.ntmps37
    go_wp2
    all_goals first | (go_ret; exact ⟨rfl, rfl⟩) | (exfalso; first | omega | (simp at *; omega) | (simp at *; done))
set_option maxHeartbeats 2000000 in
theorem cmpOr (B : Nat) (x y : Int) (w : World) (h0 : w.cell? ⟨B, 0, none⟩ = some (.int .i64 x)) (h1 : w.cell? ⟨B, 1, none⟩ = some (.int .i64 y)) :
    Calls Try.prog 36 #[.slice (some ⟨B, 0, none⟩) 2 2] w fun e w' => e = .returned (.int .i64 (orI x y)) ∧ w' = w := by
  unfold orI
  by_cases hx : x = 0
  · subst hx
    rw [if_pos rfl]
    by_cases hy : y = 0
    · subst hy
      go_enter Try.func36, Try.ntmps36
      go_wp2
      refine wp_loop_rounds 3 ?_
      rw [rounds_succ]
      go_wp2
      rw [rounds_succ]
      go_wp2
      rw [rounds_succ]
      go_wp2
      all_goals first | (go_ret; exact ⟨rfl, rfl⟩) | (exfalso; first | omega | (simp at *; omega) | (simp at *; done))
    · go_enter Try.func36, Try.ntmps36
      go_wp2
      refine wp_loop_rounds 2 ?_
      rw [rounds_succ]
      go_wp2
      rw [rounds_succ]
      go_wp2
      all_goals first | (go_ret; exact ⟨rfl, rfl⟩) | (exfalso; first | omega | (simp at *; omega) | (simp at *; done))
  · rw [if_neg hx]
    go_enter Try.func36, Try.ntmps36
    go_wp2
    refine wp_loop_rounds 1 ?_
    rw [rounds_succ]
    go_wp2
    all_goals first | (go_ret; exact ⟨rfl, rfl⟩) | (exfalso; first | omega | (simp at *; omega) | (simp at *; done))
set_option maxHeartbeats 4000000 in
set_option maxRecDepth 100000 in
theorem orderSp (x y : Sp) (W : World) : Calls Try.prog 23 #[.agg (Sp.cells x).toArray, .agg (Sp.cells y).toArray] W fun e w' => e = .returned (.int .i64 (cfSp x y)) ∧ ∃ q os', w' = Go.Sort.grow (W.drewN q) os' := by
  obtain ⟨x0, x1⟩ := x
  obtain ⟨y0, y1⟩ := y
  unfold Sp.cells
  go_enter Try.func23, Try.ntmps23
  go_wp2_with fail
  (refine wp_region_noPanic ?_; refine wp_region_held_drew (S := fun w' : World => w'.cell? ⟨W.heap.size, 0, none⟩ = some (.int .i64 x0) ∧ w'.cell? ⟨W.heap.size, 1, none⟩ = some (.int .i64 x1) ∧ w'.cell? ⟨W.heap.size + 1, 0, none⟩ = some (.int .i64 y0) ∧ w'.cell? ⟨W.heap.size + 1, 1, none⟩ = some (.int .i64 y1)) (by kernel_rfl) ?q1xb (fun hHeld => ?_); (case q1xb => ((try dsimp only); ((try obtain ⟨s0, s1, s2, s3⟩ := hHeld); refine ⟨?_, ?_, ?_, ?_⟩ <;> first | assumption | (exact cell_alloc _ ‹_›) | (simp; done)))); refine wpAnyH_take (i := 0) (v := ?q1xv0) (by simp only [List.getElem?_toArray, List.getElem?_cons_zero]; exact rfl) (by kernel_rfl) (by kernel_rfl) (by kernel_rfl) (fun _ _ _ h => h) (Or.inl ⟨by rfl, ?q1xy0⟩) (by assumption) ?_; (case q1xy0 => (intro w hSw; (try dsimp only at hSw); go_simp; (try with_reducible rfl))); (try simp only [Act.put, List.setIfInBounds_toArray, List.set_cons_zero, List.set_cons_succ]); refine wpAnyH_take (i := 1) (v := ?q1xv1) (by simp only [List.getElem?_toArray, List.getElem?_cons_zero, List.getElem?_cons_succ]; exact rfl) (by kernel_rfl) (by kernel_rfl) (by kernel_rfl) (fun _ _ _ h => h) (Or.inl ⟨by rfl, ?q1xy1⟩) (by assumption) ?_; (case q1xy1 => (intro w hSw; (try dsimp only at hSw); go_simp; (try with_reducible rfl))); (try simp only [Act.put, List.setIfInBounds_toArray, List.set_cons_zero, List.set_cons_succ]); refine wpAnyH_take (i := 2) (v := ?q1xv2) (by simp only [List.getElem?_toArray, List.getElem?_cons_zero, List.getElem?_cons_succ]; exact rfl) (by kernel_rfl) (by kernel_rfl) (by kernel_rfl) (fun _ _ _ h => h) (Or.inl ⟨by rfl, ?q1xy2⟩) (by assumption) ?_; (case q1xy2 => (intro w hSw; (try dsimp only at hSw); go_simp; (try with_reducible rfl))); (try simp only [Act.put, List.setIfInBounds_toArray, List.set_cons_zero, List.set_cons_succ]); refine wpAnyH_take (i := 3) (v := ?q1xv3) (by simp only [List.getElem?_toArray, List.getElem?_cons_zero, List.getElem?_cons_succ]; exact rfl) (by kernel_rfl) (by kernel_rfl) (by kernel_rfl) (fun _ _ _ h => h) (Or.inl ⟨by rfl, ?q1xy3⟩) (by assumption) ?_; (case q1xy3 => (intro w hSw; (try dsimp only at hSw); go_simp; (try with_reducible rfl))); (try simp only [Act.put, List.setIfInBounds_toArray, List.set_cons_zero, List.set_cons_succ]); refine wpAnyH_take (i := 5) (v := ?q1xv5) (by simp only [List.getElem?_toArray, List.getElem?_cons_zero, List.getElem?_cons_succ]; exact rfl) (by kernel_rfl) (by kernel_rfl) (by kernel_rfl) (fun _ _ _ h => h) (Or.inl ⟨by rfl, ?q1xy5⟩) (by assumption) ?_; (case q1xy5 => (intro w hSw; (try dsimp only at hSw); go_simp; (try with_reducible rfl))); (try simp only [Act.put, List.setIfInBounds_toArray, List.set_cons_zero, List.set_cons_succ]); refine wpAnyH_take (i := 6) (v := ?q1xv6) (by simp only [List.getElem?_toArray, List.getElem?_cons_zero, List.getElem?_cons_succ]; exact rfl) (by kernel_rfl) (by kernel_rfl) (by kernel_rfl) (fun _ _ _ h => h) (Or.inl ⟨by rfl, ?q1xy6⟩) (by assumption) ?_; (case q1xy6 => (intro w hSw; (try dsimp only at hSw); go_simp; (try with_reducible rfl))); (try simp only [Act.put, List.setIfInBounds_toArray, List.set_cons_zero, List.set_cons_succ]); refine wpAnyH_take (i := 7) (v := ?q1xv7) (by simp only [List.getElem?_toArray, List.getElem?_cons_zero, List.getElem?_cons_succ]; exact rfl) (by kernel_rfl) (by kernel_rfl) (by kernel_rfl) (fun _ _ _ h => h) (Or.inl ⟨by rfl, ?q1xy7⟩) (by assumption) ?_; (case q1xy7 => (intro w hSw; (try dsimp only at hSw); go_simp; (try with_reducible rfl))); (try simp only [Act.put, List.setIfInBounds_toArray, List.set_cons_zero, List.set_cons_succ]); refine wpAnyH_take (i := 8) (v := ?q1xv8) (by simp only [List.getElem?_toArray, List.getElem?_cons_zero, List.getElem?_cons_succ]; exact rfl) (by kernel_rfl) (by kernel_rfl) (by kernel_rfl) (fun _ _ _ h => h) (Or.inl ⟨by rfl, ?q1xy8⟩) (by assumption) ?_; (case q1xy8 => (intro w hSw; (try dsimp only at hSw); go_simp; (try with_reducible rfl))); (try simp only [Act.put, List.setIfInBounds_toArray, List.set_cons_zero, List.set_cons_succ]); refine wpAnyH_ready (rs := [4]) (by kernel_rfl) (by simp) ?_; refine AllReadyH.cons (by simp only [List.getElem?_toArray, List.getElem?_cons_zero, List.getElem?_cons_succ]; exact rfl) (fun K hK => ?_) AllReadyH.nil; go_simp; (first | (go_at_call 37; refine (cmpC _ _ _).mono ?_; rintro e w' ⟨rfl, rfl⟩; (try dsimp only)) | (go_at_call 36; refine (cmpOr (W.heap.size + 1 + 1) (cmpI x0 y0) (cmpI x1 y1) _ (by exact (blk_cell (heap_at (w := World.alloc (World.alloc W _) _) (k := W.heap.size + 1 + 1) (.cells #[.int .i64 (cmpI x0 y0), .int .i64 (cmpI x1 y1)] 3) (by simp)) 0)) (by exact (blk_cell (heap_at (w := World.alloc (World.alloc W _) _) (k := W.heap.size + 1 + 1) (.cells #[.int .i64 (cmpI x0 y0), .int .i64 (cmpI x1 y1)] 3) (by simp)) 1))).mono ?_; rintro e w' ⟨rfl, rfl⟩; (try dsimp only))); (try go_wp2_with fail); refine hK.out _ _ ?q1xs4 (fun hHeld => ?_); (case q1xs4 => ((try dsimp only); ((try obtain ⟨s0, s1, s2, s3⟩ := hHeld); refine ⟨?_, ?_, ?_, ?_⟩ <;> first | assumption | (exact cell_alloc _ ‹_›) | (simp; done)))); clear hK K; (try simp only [Act.put, List.setIfInBounds_toArray, List.set_cons_zero, List.set_cons_succ]); refine wpAnyH_ready (rs := [9]) (by kernel_rfl) (by simp) ?_; refine AllReadyH.cons (by simp only [List.getElem?_toArray, List.getElem?_cons_zero, List.getElem?_cons_succ]; exact rfl) (fun K hK => ?_) AllReadyH.nil; go_simp; (first | (go_at_call 37; refine (cmpC _ _ _).mono ?_; rintro e w' ⟨rfl, rfl⟩; (try dsimp only)) | (go_at_call 36; refine (cmpOr (W.heap.size + 1 + 1) (cmpI x0 y0) (cmpI x1 y1) _ (by exact (blk_cell (heap_at (w := World.alloc (World.alloc W _) _) (k := W.heap.size + 1 + 1) (.cells #[.int .i64 (cmpI x0 y0), .int .i64 (cmpI x1 y1)] 3) (by simp)) 0)) (by exact (blk_cell (heap_at (w := World.alloc (World.alloc W _) _) (k := W.heap.size + 1 + 1) (.cells #[.int .i64 (cmpI x0 y0), .int .i64 (cmpI x1 y1)] 3) (by simp)) 1))).mono ?_; rintro e w' ⟨rfl, rfl⟩; (try dsimp only))); (try go_wp2_with fail); refine hK.out _ _ ?q1xs9 (fun hHeld => ?_); (case q1xs9 => ((try dsimp only); ((try obtain ⟨s0, s1, s2, s3⟩ := hHeld); refine ⟨?_, ?_, ?_, ?_⟩ <;> first | assumption | (exact cell_alloc _ ‹_›) | (simp; done)))); clear hK K; (try simp only [Act.put, List.setIfInBounds_toArray, List.set_cons_zero, List.set_cons_succ]); refine wpAnyH_ready (rs := [10]) (by kernel_rfl) (by simp) ?_; refine AllReadyH.cons (by simp only [List.getElem?_toArray, List.getElem?_cons_zero, List.getElem?_cons_succ]; exact rfl) (fun K hK => ?_) AllReadyH.nil; go_simp; refine hK.out _ _ ?q1xs10 (fun hHeld => ?_); (case q1xs10 => ((try dsimp only); ((try obtain ⟨s0, s1, s2, s3⟩ := hHeld); refine ⟨?_, ?_, ?_, ?_⟩ <;> first | assumption | (exact cell_alloc _ ‹_›) | (simp; done)))); clear hK K; (try simp only [Act.put, List.setIfInBounds_toArray, List.set_cons_zero, List.set_cons_succ]); refine wpAnyH_ready (rs := [11]) (by kernel_rfl) (by simp) ?_; refine AllReadyH.cons (by simp only [List.getElem?_toArray, List.getElem?_cons_zero, List.getElem?_cons_succ]; exact rfl) (fun K hK => ?_) AllReadyH.nil; go_simp; (first | (go_at_call 37; refine (cmpC _ _ _).mono ?_; rintro e w' ⟨rfl, rfl⟩; (try dsimp only)) | (go_at_call 36; refine (cmpOr (W.heap.size + 1 + 1) (cmpI x0 y0) (cmpI x1 y1) _ (by exact (blk_cell (heap_at (w := World.alloc (World.alloc W _) _) (k := W.heap.size + 1 + 1) (.cells #[.int .i64 (cmpI x0 y0), .int .i64 (cmpI x1 y1)] 3) (by simp)) 0)) (by exact (blk_cell (heap_at (w := World.alloc (World.alloc W _) _) (k := W.heap.size + 1 + 1) (.cells #[.int .i64 (cmpI x0 y0), .int .i64 (cmpI x1 y1)] 3) (by simp)) 1))).mono ?_; rintro e w' ⟨rfl, rfl⟩; (try dsimp only))); (try go_wp2_with fail); refine hK.out _ _ ?q1xs11 (fun hHeld => ?_); (case q1xs11 => ((try dsimp only); ((try obtain ⟨s0, s1, s2, s3⟩ := hHeld); refine ⟨?_, ?_, ?_, ?_⟩ <;> first | assumption | (exact cell_alloc _ ‹_›) | (simp; done)))); clear hK K; (try simp only [Act.put, List.setIfInBounds_toArray, List.set_cons_zero, List.set_cons_succ]); refine wpAnyH_take (i := 12) (v := ?q1xv12) (by simp only [List.getElem?_toArray, List.getElem?_cons_zero, List.getElem?_cons_succ]; exact rfl) (by kernel_rfl) (by kernel_rfl) (by kernel_rfl) (fun _ _ _ h => h) (Or.inl ⟨by rfl, ?q1xy12⟩) (by assumption) ?_; (case q1xy12 => (intro w hSw; (try dsimp only at hSw); go_simp; (try with_reducible rfl))); (try simp only [Act.put, List.setIfInBounds_toArray, List.set_cons_zero, List.set_cons_succ]); refine wpAnyH_done (by kernel_rfl) ?_ _; refine NoPanic.normal ?_)
  go_wp2
  all_goals (go_ret; refine ⟨rfl, 1, #[.cells #[.int .i64 x0, .int .i64 x1] 45, .cells #[.int .i64 y0, .int .i64 y1] 45, .cells #[.int .i64 (cmpI x0 y0), .int .i64 (cmpI x1 y1)] 3], ?_⟩; rw [alloc_eq_grow, alloc_eq_grow, alloc_eq_grow, grow_grow, grow_grow]; rfl)
end Go.Proofs.Ytmhbkpgacdmjpaa
