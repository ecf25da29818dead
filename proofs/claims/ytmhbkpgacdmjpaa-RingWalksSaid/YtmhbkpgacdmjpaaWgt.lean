/- ring.weights: the weights of a ring, and whether it may be. -/
import Derived.Test.YtmhbkpgacdmjpaaWgtL
import Derived.Test.YtmhbkpgacdmjpaaSpots
import Derived.Test.YtmhbkpgacdmjpaaEqSp
import Derived.Test.YtmhbkpgacdmjpaaSetRow
namespace Go.Proofs.Ytmhbkpgacdmjpaa
open Go.RowKit
/-- Twelve numbers as an array's cells. -/
def ar12 (L : List Int) : Array Value := (L.map (Value.int .i64)).toArray
theorem ar12_size {L : List Int} (h : L.length = 12) : (ar12 L).size = 12 := by simp [ar12, h]
theorem ar12_info {L : List Int} (h : L.length = 12) : (Try.prog.info? 39).map (·.size) = some (ar12 L).size := by
  rw [ar12_size h]; kernel_rfl
theorem ar12_one (L : List Int) : (ar12 L).all (·.oneCell') = true := by simp [ar12]; intro x _; rfl
theorem ar12_get {L : List Int} {m : Nat} {x : Int} (h : L[m]? = some x) : (ar12 L)[m]? = some (.int .i64 x) := by simp [ar12, h]
theorem ar12_set (L : List Int) (m : Nat) (x : Int) : (ar12 L).setIfInBounds m (.int .i64 x) = ar12 (L.set m x) := by simp [ar12, List.map_set]
theorem ar12_zero : (#[.int .i64 0, .int .i64 0, .int .i64 0, .int .i64 0, .int .i64 0, .int .i64 0, .int .i64 0, .int .i64 0, .int .i64 0, .int .i64 0, .int .i64 0, .int .i64 0] : Array Value) = ar12 (List.replicate 12 0) := rfl
theorem ar12_cnt0 (X : List Sp) : ar12 (cntK X 0) = ar12 (List.replicate 12 0) := by
  unfold ar12; rw [cntK_0]; rfl

theorem run_index_ar12 {L : List Int} {k : Nat} {x : Int} (hk : k < 12) (h : L[k]? = some x) : ∀ W, (Instr.index 39 (.agg (ar12 L)) (.int .i64 (k : Int))).run Try.prog W = .ok (.int .i64 x) W := by
  intro W
  have h1 : 0 ≤ (k : Int) ∧ (k : Int) < 12 := by omega
  have h2 := ar12_get h
  simp [Instr.index, run_underlying Try.underlying39, asIntOf, h1, hk, part, h2, go_sem]
theorem cell_keep_set {w : World} {b o : Nat} {v u : Value} {p : Addr} (h : w.cell? ⟨b, o, none⟩ = some v) (hn : b ≠ p.block) : (w.setCell p u).cell? ⟨b, o, none⟩ = some v :=
  (World.cell?_of_block (w := w) (w' := w.setCell p u) (a := ⟨b, o, none⟩) (Below.heap_setCell _ _ _ _ hn)).trans h
theorem own_set_ne {w : World} {B sz n : Nat} {t : TypeId} {v : Value} {cs : List Value} {p : Addr} (h : w.ownsRow B t sz v n cs) (hp : p.block < B) (u : Value) : (w.setCell p u).ownsRow B t sz v n cs := by
  obtain ⟨h1, h2 | ⟨g, cap, cur, h3, h4, h5, h6⟩⟩ := h
  · exact ⟨h1, Or.inl h2⟩
  · exact ⟨h1, Or.inr ⟨g, cap, cur, h3, h4, (Below.heap_setCell _ _ _ _ (by omega)).trans h5, h6⟩⟩
theorem owns_news {w : World} {base e sz n : Nat} {v : Value} {xs : List Value} (h : w.ownsRow base e sz v n xs) : (v = .slice none 0 0 ∧ n = 0) ∨ ∃ g c, v = .slice (some ⟨g, 0, none⟩) n c ∧ ∀ j u, xs[j]? = some u → w.cell? ((⟨g, 0, none⟩ : Addr).add j) = some u := by
  have hl := h.1
  rcases h.2 with ⟨rfl, h0⟩ | ⟨g, cap, cur, rfl, hg, hh, hnc, hcm, hcs, htake⟩
  · exact Or.inl ⟨rfl, h0⟩
  · refine Or.inr ⟨g, cap, rfl, fun j u hu => ?_⟩
    have hj : j < n * sz := by
      rcases Nat.lt_or_ge j (n * sz) with h' | h'
      · exact h'
      · rw [List.getElem?_eq_none (by omega)] at hu; cases hu
    rw [Go.WideShapes.add_plain, Nat.zero_add, h.cellAt j hj, hu]
theorem run_exec_load_row {P : Program} {a : Act} {o : Oper} {w : World} (ty : TypeId) (x : Operand) (ho : o.op = .load ty x) (g : Nat) (hx : a.eval x = .pointer (some ⟨g, 0, none⟩)) (t : TypeId) (cs : Array Value) (fr : Nat × Nat) (d : TypeDesc) (hg : w.heap[g]? = some (.cells cs t fr))
    (hu : P.underlying ty = some d) (hd : (match d with | .struct _ | .array _ _ => true | _ => false) = true) (hi : (P.info? ty).map (·.size) = some cs.size) : (execOp a.eval o).run P w = .ok (.value (.agg cs)) w := by
  unfold execOp
  simp only [ho, hx, Instr.loadAt, Instr.sureAddr, Sem.run_bind, Sem.run_pure, Result.andThen_ok, run_loadVar_row w g t ty cs fr d hg hu hd hi]
def WgtPost (w : World) (X : List Sp) (e : Ending) (w' : World) : Prop := ∃ (L : List Int) (b : Bool), L.length = 12 ∧ e = .returned (.tuple #[.agg (ar12 L), .bool b]) ∧ (RgMay X → b = true ∧ L = mixK X 12) ∧ (¬ RgMay X → b = false) ∧ Below w.heap.size w w'
theorem WgtPost.no {w w' : World} {X : List Sp} {L : List Int} (hL : L.length = 12) (h : ¬ RgMay X) (hb : Below w.heap.size w w') : WgtPost w X (.returned (.tuple #[.agg (ar12 L), .bool false])) w' := ⟨L, false, hL, rfl, fun h' => absurd h' h, fun _ => rfl, hb⟩

/-- What holds at the head of the first loop. -/
def WgtRel1 (w wr : World) (s : Value) (X : List Sp) (k : Nat) : Prop := Below w.heap.size w wr ∧ w.heap.size + 1 + 1 < wr.heap.size ∧ wr.cell? ⟨w.heap.size, 0, none⟩ = some s ∧ wr.heap[w.heap.size + 1]? = some (.cells (ar12 (List.replicate 12 0)) 39 (0, 0)) ∧ wr.heap[w.heap.size + 1 + 1]? = some (.cells (ar12 (cntK X k)) 39 (0, 0)) ∧ Rg1 (X.take k)
/-- What holds at the head of the second loop. -/
def WgtRel2 (w wr : World) (s l : Value) (X : List Sp) (k : Nat) : Prop := Below w.heap.size w wr ∧ w.heap.size + 1 + 1 < wr.heap.size ∧ wr.cell? ⟨w.heap.size, 0, none⟩ = some s ∧ wr.heap[w.heap.size + 1]? = some (.cells (ar12 (List.replicate 12 0)) 39 (0, 0)) ∧ wr.heap[w.heap.size + 1 + 1]? = some (.cells (ar12 (mixK X k)) 39 (0, 0)) ∧ (∀ b, b < k → rct X b % 4 = 0 ∧ rct X b ≤ 32) ∧
  wr.ownsRow (w.heap.size + 1 + 1 + 1) 45 2 l (wantK (rgW X) k).length ((wantK (rgW X) k).map Sp.cells).flatten

set_option maxHeartbeats 4000000 in
set_option maxRecDepth 100000 in
theorem prog_weights (v : Value) (X : List Sp) (w : World) (r : RowAt w 2 v (X.map Sp.cells)) (hn : X.length * 16 ≤ 140737488351232) : Calls Try.prog 18 #[.agg #[v]] w (WgtPost w X) := by
  obtain ⟨i0, hi, hi0, hi1, hi2⟩ := info_parts infoc_Sp
  obtain ⟨a, c, rfl, _, m1, _, p1⟩ := RowAt_fn Sp.zero r
  have R := Lib.hid r
  have P1 := Lib.hid p1
  unfold maxLen at m1
  clear r p1
  go_enter Try.func18, Try.ntmps18
  go_wp2
  go_loopw [13] (fun i wr => ∃ k : Nat, k ≤ X.length ∧ i = .int .i64 k ∧ WgtRel1 w wr (.slice a X.length c) X k) (fun i _ => X.length - (intOf i).toNat)
  case atStart =>
    refine ⟨0, Nat.zero_le _, rfl, (by repeat (first | (with_reducible exact Below.refl _ _) | (with_reducible assumption) | (with_reducible refine Below.drew ?_) | (with_reducible refine Below_drewN ?_) | (with_reducible refine Below.alloc ?_ (by first | omega | (simp; done) | (simp; omega)) _) | (with_reducible refine Below.setCell ?_ (by first | omega | (simp; done) | (simp; omega)) _) | (with_reducible refine Below.trans ?_ (Below.mono (by assumption) (by first | omega | (simp; done) | (simp; omega)))))), by simp, by go_simp, ?_, ?_, by intro s hs; simp at hs⟩
    · rw [← ar12_zero]; exact (Below.heap_alloc _ _ _ (by simp)).trans (heap_at _ (by simp))
    · rw [ar12_cnt0, ← ar12_zero]; exact heap_at _ (by simp)
  case round =>
    obtain ⟨k, hk, rfl, hb, hz, s0, y1, y2, hg⟩ := hrel
    have HB := Lib.hid hb
    have HG := Lib.hid hg
    have Y1 := Lib.hid y1
    have Y2 := Lib.hid y2
    rcases (show k < X.length ∨ X.length = k by omega) with hlt | heq
    · have hlt' : (k : Int) < (X.length : Int) := by omega
      have p0 : (0 : Int) ≤ (k : Int) := by omega
      obtain ⟨b1, o1, rfl, hb1, q1⟩ := P1.out (by intro h; rw [h] at hlt; simp at hlt)
      have a0 := q1 k 0 hlt (by omega)
      have a1 := q1 k 1 hlt (by omega)
      obtain ⟨s, hs⟩ : ∃ s, s = X.getD k Sp.zero := ⟨_, rfl⟩
      rw [← hs] at a0 a1
      have HS := Lib.hid hs
      obtain ⟨h0, m⟩ := s
      simp only [Sp.cells, List.getElem?_cons_zero, List.getElem?_cons_succ, Nat.add_zero] at a0 a1
      have a0 := cell_below hb a0 hb1
      have a1 := cell_below hb a1 hb1
      clear hs q1 hb hg y1 y2
      have hm : m < 0 ∨ (¬ m < 0 ∧ 12 ≤ m) ∨ (0 ≤ m ∧ ¬ m < 0 ∧ ¬ 12 ≤ m) := by omega
      rcases hm with hm | hm | ⟨hm0, hm1, hm2⟩
      · have HN := Lib.hid (cntK_bad HS.out hlt (by simp only; omega))
        go_wp2_with (first | (refine wpList_load_row rfl 39 (.tmp 4) rfl (w.heap.size + 1 + 1) rfl 39 (ar12 (cntK X k)) (0, 0) _ ((Below.heap_alloc _ _ _ (by omega)).trans Y2.out) Try.underlying39 rfl (ar12_info (cntK_len X k)) ?_) | (refine wpList_store_row rfl 39 (.tmp 2) (.tmp 25) rfl (w.heap.size + 1) (ar12 (cntK X k)) rfl rfl 39 (ar12 (List.replicate 12 0)) ((Below.heap_alloc _ _ _ (by omega)).trans Y1.out) (ar12_info (cntK_len X k)) (by rw [ar12_size (cntK_len X k)]; rfl) (ar12_one _) ?_))
        all_goals
          refine bodyPost_ret (v := .tuple #[.agg (ar12 (cntK X k)), .bool false]) ?_ rfl (WgtPost.no (cntK_len X k) HN.out ?_)
          · exact results2_cell_row Try.results18 _ _ (w.heap.size + 1) 39 (ar12 (cntK X k)) (0, 0) _ _ rfl rfl (setRow_block ((Below.heap_alloc _ _ _ (by omega)).trans Y1.out)) Try.underlying39 rfl (ar12_info (cntK_len X k))
          · exact setRow_below (HB.out.alloc (by omega) _) (by omega)
      · have HN := Lib.hid (cntK_bad HS.out hlt (by simp only; omega))
        go_wp2_with (first | (refine wpList_load_row rfl 39 (.tmp 4) rfl (w.heap.size + 1 + 1) rfl 39 (ar12 (cntK X k)) (0, 0) _ ((Below.heap_alloc _ _ _ (by omega)).trans Y2.out) Try.underlying39 rfl (ar12_info (cntK_len X k)) ?_) | (refine wpList_store_row rfl 39 (.tmp 2) (.tmp 25) rfl (w.heap.size + 1) (ar12 (cntK X k)) rfl rfl 39 (ar12 (List.replicate 12 0)) ((Below.heap_alloc _ _ _ (by omega)).trans Y1.out) (ar12_info (cntK_len X k)) (by rw [ar12_size (cntK_len X k)]; rfl) (ar12_one _) ?_))
        all_goals
          refine bodyPost_ret (v := .tuple #[.agg (ar12 (cntK X k)), .bool false]) ?_ rfl (WgtPost.no (cntK_len X k) HN.out ?_)
          · exact results2_cell_row Try.results18 _ _ (w.heap.size + 1) 39 (ar12 (cntK X k)) (0, 0) _ _ rfl rfl (setRow_block ((Below.heap_alloc _ _ _ (by omega)).trans Y1.out)) Try.underlying39 rfl (ar12_info (cntK_len X k))
          · exact setRow_below (HB.out.alloc (by omega) _) (by omega)
      · obtain ⟨m, rfl⟩ := Int.eq_ofNat_of_zero_le hm0
        have hm12 : m < 12 := by omega
        have e1 : wr.cell? ⟨w.heap.size + 1 + 1, m, none⟩ = some (.int .i64 (rct (X.take k) m)) := (blk_cell Y2.out m).trans (ar12_get (cntK_get X k hm12))
        have e2 : wr.frozen? ⟨w.heap.size + 1 + 1, m, none⟩ = false := blk_free Y2.out m
        have hL := rct_le (X.take k) m
        have hL2 : (X.take k).length ≤ k := List.length_take_le _ _
        have hm12' : (m : Int) < 12 := by omega
        go_wp2
        go_roundw
        case rel =>
          refine ⟨k + 1, by omega, by go_num, (HB.out.setCell (by simp; omega) _).alloc (by simp; have := HB.out.size; omega) _, by simp; omega, (by repeat (first | (with_reducible assumption) | (with_reducible refine cell_alloc _ ?_) | (with_reducible refine cell_drewN _ ?_) | (refine (cell_set_ne (by omega)).trans ?_))), ?_, ?_, ?_⟩
          · exact (Below.heap_alloc _ _ _ (by simp; omega)).trans (blk_set_ne Y1.out (by omega))
          · refine (Below.heap_alloc _ _ _ (by simp; omega)).trans ((blk_set Y2.out _).trans ?_)
            rw [ar12_set, cntK_succ HS.out hlt rfl hm12]
          · exact rg1_step hlt HG.out (by rw [← HS.out]; exact hm0) (by rw [← HS.out]; simp only; omega)
        case measure => simp [intOf]; omega
    · have hge : ¬ (k : Int) < (X.length : Int) := by omega
      have hN1 : Rg1 X := by have := HG.out; rwa [List.take_of_length_le (by omega)] at this
      have HR1 := Lib.hid hN1
      have e0 := cntK_all X heq
      rw [e0] at y2
      have Y2 := Lib.hid y2
      clear hb hg y1 y2 hN1 HG
      have X0 := Lib.hid heq
      clear heq e0
      go_wp2_with (first | (refine wpList_load_row rfl 39 (.tmp 4) rfl (w.heap.size + 1 + 1) rfl 39 (ar12 (mixK X 0)) (0, 0) _ (id Y2.out) Try.underlying39 rfl (ar12_info (mixK_len X 0)) ?_))
      go_loopw [7, 34] (fun l i wr2 => ∃ k : Nat, k ≤ 12 ∧ i = .int .i64 k ∧ WgtRel2 w wr2 (.slice a X.length c) l X k) (fun _ i _ => 12 - (intOf i).toNat)
      case atStart => exact ⟨0, Nat.zero_le _, rfl, HB.out, hz, s0, Y1.out, Y2.out, by intro b hb; omega, World.ownsRow_nil _ _ _ _⟩
      case round =>
        clear HB Y1 Y2 hz s0
        obtain ⟨k, hk, rfl, hb, hz, s0, y1, y2, hg, hown⟩ := hrel
        have HB := Lib.hid hb
        have Y1 := Lib.hid y1
        have Y2 := Lib.hid y2
        have HG := Lib.hid hg
        have HO := Lib.hid hown
        obtain ⟨a2, c2, rfl, _⟩ := owns_shape hown
        clear hb y1 y2 hg hown
        rcases (show k < 12 ∨ k = 12 by omega) with hlt | rfl
        · have hlt' : (k : Int) < 12 := by omega
          have hix := run_index_ar12 hlt (mixK_get X 0 hlt)
          rw [if_neg (Nat.not_lt_zero k)] at hix
          obtain ⟨n, hn⟩ : ∃ n, n = rct X k := ⟨_, rfl⟩
          have HN := Lib.hid hn
          rw [← hn] at hix
          clear hn
          rcases (show (¬ n % 4 = 0) ∨ (n % 4 = 0 ∧ 32 < n) ∨ (n % 4 = 0 ∧ n ≤ 32) by omega) with h4 | ⟨h4, h5⟩ | ⟨h4, h5⟩
          · have h6 : ¬ (n : Int) % 4 = 0 := by omega
            have HN := Lib.hid (mixK_bad hlt (by rw [← HN.out]; exact Or.inl h4))
            clear h4
            go_wp2_with (first | (refine wpList_load_row rfl 39 (.tmp 4) rfl (w.heap.size + 1 + 1) rfl 39 (ar12 (mixK X k)) (0, 0) _ (id Y2.out) Try.underlying39 rfl (ar12_info (mixK_len X k)) ?_) | (refine wpList_store_row rfl 39 (.tmp 2) (.tmp 45) rfl (w.heap.size + 1) (ar12 (mixK X k)) rfl rfl 39 (ar12 (List.replicate 12 0)) (id Y1.out) (ar12_info (mixK_len X k)) (by rw [ar12_size (mixK_len X k)]; rfl) (ar12_one _) ?_))
            all_goals (refine bodyPost_ret (v := .tuple #[.agg (ar12 (mixK X k)), .bool false]) ?_ rfl (WgtPost.no (mixK_len X k) HN.out ?_); (focus (exact results2_cell_row Try.results18 _ _ (w.heap.size + 1) 39 (ar12 (mixK X k)) (0, 0) _ _ rfl rfl (setRow_block (id Y1.out)) Try.underlying39 rfl (ar12_info (mixK_len X k)))); exact setRow_below (HB.out) (by omega))
          · have h6 : (n : Int) % 4 = 0 := by omega
            have h7 : 32 < (n : Int) := by omega
            have HN := Lib.hid (mixK_bad hlt (by rw [← HN.out]; exact Or.inr h5))
            clear h4
            go_wp2_with (first | (refine wpList_load_row rfl 39 (.tmp 4) rfl (w.heap.size + 1 + 1) rfl 39 (ar12 (mixK X k)) (0, 0) _ (id Y2.out) Try.underlying39 rfl (ar12_info (mixK_len X k)) ?_) | (refine wpList_store_row rfl 39 (.tmp 2) (.tmp 45) rfl (w.heap.size + 1) (ar12 (mixK X k)) rfl rfl 39 (ar12 (List.replicate 12 0)) (id Y1.out) (ar12_info (mixK_len X k)) (by rw [ar12_size (mixK_len X k)]; rfl) (ar12_one _) ?_))
            all_goals (refine bodyPost_ret (v := .tuple #[.agg (ar12 (mixK X k)), .bool false]) ?_ rfl (WgtPost.no (mixK_len X k) HN.out ?_); (focus (exact results2_cell_row Try.results18 _ _ (w.heap.size + 1) 39 (ar12 (mixK X k)) (0, 0) _ _ rfl rfl (setRow_block (id Y1.out)) Try.underlying39 rfl (ar12_info (mixK_len X k)))); exact setRow_below (HB.out) (by omega))
          · obtain ⟨q, rfl⟩ : ∃ q, n = 4 * q := ⟨n / 4, by omega⟩
            have h6 : ((4 * q : Nat) : Int) % 4 = 0 := by omega
            have h7 : ¬ 32 < ((4 * q : Nat) : Int) := by omega
            have hq : (rgW X).getD k 0 = q := by rw [rgW_get X hlt, ← HN.out]; omega
            have HQ := Lib.hid hq
            have hw : (wantK (rgW X) k).length ≤ 32 * k := wantK_le HG.out (by omega)
            have e1 : wr.cell? ⟨w.heap.size + 1 + 1, k, none⟩ = some (.int .i64 ((4 * q : Nat) : Int)) := by
              refine (blk_cell Y2.out k).trans (ar12_get ?_)
              rw [mixK_get X k hlt, if_neg (by omega), ← HN.out]
            have e2 : wr.frozen? ⟨w.heap.size + 1 + 1, k, none⟩ = false := blk_free Y2.out k
            clear h4 hq
            go_wp2_with fail
            refine (prog_spots k q _ (by omega) (by omega)).mono ?_
            rintro e w1 ⟨v2, rfl, hown2, hb2⟩
            have hz1 := hb2.size
            have hsz : ∀ (p : Addr) (u : Value), (wr.setCell p u).heap.size = wr.heap.size := fun p u => by simp
            rw [hsz] at hz1 hb2
            have HB1 := Lib.hid ((HB.out.setCell (p := ⟨w.heap.size + 1 + 1, k, none⟩) (by simp; omega) (.int .i64 (q : Int))).trans (hb2.mono HB.out.size))
            have s1 := cell_below hb2 (cell_keep_set s0 (by show w.heap.size ≠ w.heap.size + 1 + 1; omega)) (by omega)
            have Y1' := Lib.hid (blk_below hb2 (blk_set_ne Y1.out (by omega)) (by omega))
            have Y2' := Lib.hid (blk_below hb2 (blk_set Y2.out _) (by omega))
            have HO1 := Lib.hid (own_keep (own_set_ne (p := ⟨w.heap.size + 1 + 1, k, none⟩) HO.out (by show w.heap.size + 1 + 1 < _; omega) (.int .i64 (q : Int))) (by rw [hsz]; exact hb2))
            clear s0 Y1 Y2 HO HB hb2
            have hlq : (spotsOf k q).length = 4 * q := spotsOf_len k q
            have hN : ∀ (v' : Value) (w' : World), w'.ownsRow (w.heap.size + 1 + 1 + 1) 45 2 v' ((wantK (rgW X) k).length + 4 * q) (((wantK (rgW X) k).map Sp.cells).flatten ++ ((spotsOf k q).map Sp.cells).flatten) → w'.ownsRow (w.heap.size + 1 + 1 + 1) 45 2 v' (wantK (rgW X) (k + 1)).length ((wantK (rgW X) (k + 1)).map Sp.cells).flatten := by
              intro v' w' h
              rw [wantK_succ, HQ.out, List.length_append, hlq, List.map_append, List.flatten_append]; exact h
            have HW := Lib.hid hN
            have hmk : ar12 ((mixK X k).set k (q : Int)) = ar12 (mixK X (k + 1)) := by rw [mixK_succ X hlt, ← HN.out]; congr 2; omega
            rw [ar12_set, hmk] at Y2'
            have hg' : ∀ b, b < k + 1 → rct X b % 4 = 0 ∧ rct X b ≤ 32 := by
              intro b hb
              rcases (show b < k ∨ b = k by omega) with h | rfl
              · exact HG.out b h
              · rw [← HN.out]; omega
            have HG' := Lib.hid hg'
            clear hN hmk hg' HG
            rcases owns_news hown2 with ⟨rfl, h0⟩ | ⟨g, c3, rfl, hnews⟩
            · go_wp2_with (at_builtin; go_loud (refine wpList_append_own_none rfl _ _ 22 rfl (w.heap.size + 1 + 1 + 1) 45 i0 2 Try.underlying22 hi _ _ _ rfl HO1.out rfl ?_))
              go_wp2
              go_roundw
              case rel => exact ⟨k + 1, by omega, by go_num, HB1.out, by omega, s1, Y1'.out, Y2'.out, HG'.out, HW.out _ _ (by have := HO1.out; have h1 : q = 0 := by omega
                                                                                                                              subst h1; simpa [spotsOf] using this)⟩
              case measure => simp [intOf]; omega
            · have HNW := Lib.hid hnews
              clear hnews
              go_wp2_with (at_builtin; go_loud (refine wpList_append_own _ rfl _ _ 22 rfl (w.heap.size + 1 + 1 + 1) 45 i0 (.agg #[.int .i64 0, .int .i64 0]) 2 16 Try.underlying22 hi hi0 hi1 hi2 rfl (by decide) _ _ _ rfl HO1.out ⟨g, 0, none⟩ (4 * q) c3 ((spotsOf k q).map Sp.cells).flatten rfl ?c0 HNW.out ?c1 ?c2 ?c3 ?c4 ?_))
              case c0 => rw [flatten_length (sz := 2) (lenc_Sp _), List.length_map, hlq]
              case c1 => exact onec_Sp _
              case c2 => unfold maxLen; omega
              case c3 => omega
              case c4 => omega
              intro v' w6 hown' hgrow _
              obtain ⟨a', cap', rfl, _⟩ := owns_shape hown'
              have HO6 := Lib.hid (HW.out _ _ hown')
              have hb6 := grown_below (B := w.heap.size + 1 + 1 + 1) (Below.refl w1.heap.size w1) (by omega) HO1.out hgrow
              have s6 := cell_below hb6 s1 (by omega)
              have Y6 := Lib.hid (blk_below hb6 Y1'.out (by omega))
              have Z6 := Lib.hid (blk_below hb6 Y2'.out (by omega))
              have HB6 := Lib.hid (HB1.out.trans (hb6.mono (by omega)))
              have hz6 := hb6.size
              clear hown' hgrow hb6 HO1 HB1 Y1' Y2' s1 HW
              go_wp2
              go_roundw
              case rel => exact ⟨k + 1, by omega, by go_num, HB6.out, by omega, s6, Y6.out, Z6.out, HG'.out, HO6.out⟩
              case measure => simp [intOf]; omega
        · have hl12 : (wantK (rgW X) 12).length ≤ 384 := wantK_le HG.out (by omega)
          obtain ⟨r, hr⟩ : ∃ r : Bool, (srt (wantK (rgW X) 12) = X ∧ r = true) ∨ (srt (wantK (rgW X) 12) ≠ X ∧ r = false) := by
            by_cases h : srt (wantK (rgW X) 12) = X
            · exact ⟨true, Or.inl ⟨h, rfl⟩⟩
            · exact ⟨false, Or.inr ⟨h, rfl⟩⟩
          have HR := Lib.hid hr
          clear hr
          go_wp2_with fail
          refine (sort_Sp (w.heap.size + 1 + 1 + 1) _ (wantK (rgW X) 12) _ (by omega) HO.out (by omega)).mono ?_
          rintro e w1 ⟨rfl, hown1, hb1, hz1, _⟩
          have HB1 := Lib.hid (HB.out.trans (hb1.mono (by omega)))
          have s1 := cell_below hb1 s0 (by omega)
          have Y1' := Lib.hid (blk_below hb1 Y1.out (by omega))
          have Y2' := Lib.hid (blk_below hb1 Y2.out (by omega))
          have hls : (srt (wantK (rgW X) 12)).length = (wantK (rgW X) 12).length := (srt_perm _).length_eq
          have HRow := Lib.hid (RowAt_of_owns hown1 (by rw [List.length_map, hls]) (lenc_Sp _))
          have HRX := Lib.hid (RowAt_below R.out (HB1.out))
          clear hown1 hb1 HO s0 Y1 Y2 HB hls
          go_wp2_with fail
          refine wp_region_noPanic ?_
          refine wp_region_held_drew (S := fun w' => w'.heap[w.heap.size + 1 + 1]? = some (.cells (ar12 (mixK X 12)) 39 (0, 0)) ∧ w'.cell? ⟨w.heap.size, 0, none⟩ = some (.slice a X.length c)) (by kernel_rfl) ?hb (fun hHeld => ?_)
          case hb => exact ⟨Y2'.out, cell_drew s1⟩
          refine wpAnyH_take (i := 0) (v := ?v0) (by simp only [List.getElem?_toArray, List.getElem?_cons_zero]; exact rfl) (by kernel_rfl) (by kernel_rfl) (by kernel_rfl) (fun _ _ _ h => h) (Or.inl ⟨by rfl, ?y0⟩) (by assumption) ?_
          case y0 => (intro w' hSw; (try dsimp only at hSw); (refine run_exec_load_row 39 (.tmp 4) ?_ (w.heap.size + 1 + 1) ?_ 39 _ (0, 0) _ hSw.1 Try.underlying39 rfl (ar12_info (mixK_len X 12))) <;> rfl)
          (try simp only [Act.put, List.setIfInBounds_toArray, List.set_cons_zero, List.set_cons_succ])
          refine wpAnyH_take (i := 1) (v := ?v1) (by simp only [List.getElem?_toArray, List.getElem?_cons_zero, List.getElem?_cons_succ]; exact rfl) (by kernel_rfl) (by kernel_rfl) (by kernel_rfl) (fun _ _ _ h => h) (Or.inl ⟨by rfl, ?y1⟩) (by assumption) ?_
          case y1 => (intro w' hSw; (try dsimp only at hSw); obtain ⟨z1, z2⟩ := hSw; go_simp; (try with_reducible rfl))
          (try simp only [Act.put, List.setIfInBounds_toArray, List.set_cons_zero, List.set_cons_succ])
          refine wpAnyH_take (i := 2) (v := ?v2) (by simp only [List.getElem?_toArray, List.getElem?_cons_zero, List.getElem?_cons_succ]; exact rfl) (by kernel_rfl) (by kernel_rfl) (by kernel_rfl) (fun _ _ _ h => h) (Or.inl ⟨by rfl, ?y2⟩) (by assumption) ?_
          case y2 => (intro w' hSw; (try dsimp only at hSw); obtain ⟨z1, z2⟩ := hSw; go_simp; (try with_reducible rfl))
          (try simp only [Act.put, List.setIfInBounds_toArray, List.set_cons_zero, List.set_cons_succ])
          refine wpAnyH_take (i := 3) (v := ?v3) (by simp only [List.getElem?_toArray, List.getElem?_cons_zero, List.getElem?_cons_succ]; exact rfl) (by kernel_rfl) (by kernel_rfl) (by kernel_rfl) (fun _ _ _ h => h) (Or.inl ⟨by rfl, ?y3⟩) (by assumption) ?_
          case y3 => (intro w' hSw; (try dsimp only at hSw); obtain ⟨z1, z2⟩ := hSw; go_simp; (try with_reducible rfl))
          (try simp only [Act.put, List.setIfInBounds_toArray, List.set_cons_zero, List.set_cons_succ])
          refine wpAnyH_ready (rs := [4]) (by kernel_rfl) (by simp) ?_
          refine AllReadyH.cons (by simp only [List.getElem?_toArray, List.getElem?_cons_zero, List.getElem?_cons_succ]; exact rfl) (fun K hK => ?_) AllReadyH.nil
          go_simp
          (go_at_call 32; refine (equalSp _ _ _ X _ (RowAt_drewN HRow.out 1) (RowAt_drewN HRX.out 1) r HR.out).mono ?_; rintro e w2 ⟨rfl, q2, rfl⟩)
          (try go_wp2_with fail)
          refine hK.out _ _ ?s4 (fun hHeld => ?_)
          case s4 => exact hHeld
          clear hK K
          (try simp only [Act.put, List.setIfInBounds_toArray, List.set_cons_zero, List.set_cons_succ])
          refine wpAnyH_ready (rs := [5]) (by kernel_rfl) (by simp) ?_
          refine AllReadyH.cons (by simp only [List.getElem?_toArray, List.getElem?_cons_zero, List.getElem?_cons_succ]; exact rfl) (fun K hK => ?_) AllReadyH.nil
          rw [if_pos (by rfl)]
          refine wp_store_row 39 (.tmp 2) (.tmp 60) rfl (w.heap.size + 1) (ar12 (mixK X 12)) rfl rfl 39 (ar12 (List.replicate 12 0)) (blk_below (n := w.heap.size + 1 + 1) (Below_drewN (Below.refl (w.heap.size + 1 + 1) w1)) Y1'.out (by omega)) (ar12_info (mixK_len X 12)) (by rw [ar12_size (mixK_len X 12)]; rfl) (ar12_one _) ?_
          refine hK.out _ _ ?s5 (fun hHeld => ?_)
          case s5 => exact ⟨setRow_ne hHeld.1 (by omega), cell_setRow_ne hHeld.2 (by omega)⟩
          clear hK K
          (try simp only [Act.put])
          refine wpAnyH_take (i := 6) (v := ?v6) (by simp only [List.getElem?_toArray, List.getElem?_cons_zero, List.getElem?_cons_succ]; exact rfl) (by kernel_rfl) (by kernel_rfl) (by kernel_rfl) (fun _ _ _ h => h) (Or.inl ⟨by rfl, ?y6⟩) (by assumption) ?_
          case y6 => (intro w' hSw; (try dsimp only at hSw); go_simp; (try with_reducible rfl))
          (try simp only [Act.put, List.setIfInBounds_toArray, List.set_cons_zero, List.set_cons_succ])
          refine wpAnyH_done (by kernel_rfl) ?_ _
          refine NoPanic.normal ?_
          go_wp2
          all_goals
            refine bodyPost_ret (v := .tuple #[.agg (ar12 (mixK X 12)), .bool r]) ?_ rfl ⟨_, r, mixK_len X 12, rfl, ?_, ?_, ?_⟩
            · exact results2_cell_row Try.results18 _ _ (w.heap.size + 1) 39 (ar12 (mixK X 12)) (0, 0) _ _ rfl rfl (setRow_block (blk_below (n := w.heap.size + 1 + 1) (Below_drewN (Below.refl (w.heap.size + 1 + 1) w1)) Y1'.out (by omega))) Try.underlying39 rfl (ar12_info (mixK_len X 12))
            · intro hm
              rcases HR.out with ⟨_, h⟩ | ⟨h, _⟩
              · exact ⟨h, rfl⟩
              · exact absurd hm.2.2.symm h
            · intro hm
              rcases HR.out with ⟨h, _⟩ | ⟨_, h⟩
              · exact absurd ⟨HR1.out, HG.out, h.symm⟩ hm
              · exact h
            · exact setRow_below (Below_drewN HB1.out) (by omega)
end Go.Proofs.Ytmhbkpgacdmjpaa
