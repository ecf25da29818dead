/- ring.Walk: what it calls; its walk up to the range over a function. -/
import Derived.RangeFuncNested
import Derived.RangeFuncBound
import Derived.RangeFuncCalls
import Derived.RangeFuncLeaves
import Derived.Shelf.Abstract
import Derived.Shelf.RegionOpen
import Derived.OwnWalkIn
import Derived.TacticsInMore
import Derived.LoopNIn
import Derived.LoopIn
import Derived.Test.YtmhbkpgacdmjpaaRgWalkR
import Derived.Test.YtmhbkpgacdmjpaaRgWalkC
namespace Go.Proofs.Ytmhbkpgacdmjpaa
open Go.RowKit Go.Shelf
attribute [local go_sem] Oper.semAt_some
set_option maxHeartbeats 1000000 in
theorem index_int (v : Value) (L : List Int) (b : Int) (w : World) (r : RowAt w 1 v (L.map fun x => [Value.int .i64 x])) : Calls Try.prog 44 #[v, .int .i64 b] w fun e w' => e = .returned (.int .i64 (idxOf (fun x => b == x) L)) ∧ w' = w := by
  obtain ⟨a, c, rfl, _, m1, _, p1⟩ := RowAt_fn (0 : Int) r
  unfold maxLen at m1
  have P1 := Lib.hid p1
  clear r p1
  go_enter Try.func44, Try.ntmps44
  go_wp2
  go_loop [8] (fun i => ∃ k : Nat, k ≤ L.length ∧ i = .int .i64 k ∧ ∀ x ∈ L.take k, (b == x) = false) (fun i => L.length - (intOf i).toNat)
  case atStart => exact ⟨0, Nat.zero_le _, rfl, by simp⟩
  case round =>
    obtain ⟨k, hk, rfl, hall⟩ := hrel
    have HA := Lib.hid hall
    clear hall
    rcases (show k < L.length ∨ L.length = k by omega) with hlt | heq
    · have hlt' : (k : Int) < (L.length : Int) := by omega
      have p0 : (0 : Int) ≤ (k : Int) := by omega
      obtain ⟨b1, o1, rfl, hb1, q1⟩ := P1.out (by intro h; rw [h] at hlt; simp at hlt)
      have a0 := q1 k 0 hlt (by omega)
      obtain ⟨s, hs⟩ : ∃ s, s = L.getD k 0 := ⟨_, rfl⟩
      rw [← hs] at a0
      simp only [List.getElem?_cons_zero, Nat.mul_one, Nat.add_zero] at a0
      have HS := Lib.hid hs
      clear hs q1
      by_cases hb : b = s
      · subst hb
        go_wp2
        all_goals first | (go_ret; exact ⟨rI (idxOf_hit (p := fun x => b == x) hlt HS.out (by simp) HA.out).symm, rfl⟩) | (exfalso; first | omega | (simp at *; omega) | (simp at *; done))
      · have hb' : (b == s) = false := by simpa using hb
        have HA2 := Lib.hid (idx_step (p := fun x => b == x) hlt HS.out hb' HA.out)
        go_wp2
        all_goals
          go_round
          case rel => exact ⟨k + 1, by omega, by go_num, HA2.out⟩
          case measure => simp [intOf]; omega
    · have hge : ¬ (k : Int) < (L.length : Int) := by omega
      have HE := Lib.hid (idxOf_none heq HA.out)
      clear heq HA
      go_wp2
      all_goals first | (go_ret; exact ⟨rI HE.out.symm, rfl⟩) | (exfalso; first | omega | (simp at *; omega) | (simp at *; done))
theorem contains_int (v : Value) (L : List Int) (b : Int) (w : World) (r : RowAt w 1 v (L.map fun x => [Value.int .i64 x])) (q : Bool) (hq : q = decide (b ∈ L)) : Calls Try.prog 30 #[v, .int .i64 b] w fun e w' => e = .returned (.bool q) ∧ w' = w := by
  have K := Lib.hid (index_int v L b w r)
  have HI := idxOf_any (fun x => b == x) L
  have hany : L.any (fun x => b == x) = q := by
    rw [hq, Bool.eq_iff_iff]; simp
  rw [hany] at HI
  obtain ⟨i, hi⟩ : ∃ i, i = idxOf (fun x => b == x) L := ⟨_, rfl⟩
  rw [← hi] at K HI
  obtain ⟨a, c, rfl, _⟩ := RowAt_shape (f := fun x : Int => [Value.int .i64 x]) r
  clear r hi hany hq
  cases q with
  | true =>
    have h0 : 0 ≤ i := HI.1.1 rfl
    clear HI
    go_enter Try.func30, Try.ntmps30
    go_wp2_with fail
    refine K.out.mono ?_
    rintro e w' ⟨rfl, rfl⟩
    go_wp2
    all_goals first | (go_ret; exact ⟨rfl, rfl⟩) | (exfalso; first | omega | (simp at *; omega) | (simp at *; done))
  | false =>
    have h0 : i < 0 := HI.2.1 rfl
    clear HI
    have h1 : decide (0 ≤ i) = false := by simp; omega
    go_enter Try.func30, Try.ntmps30
    go_wp2_with fail
    refine K.out.mono ?_
    rintro e w' ⟨rfl, rfl⟩
    go_wp2
    all_goals first | (go_ret; exact ⟨rfl, rfl⟩) | (exfalso; first | omega | (simp at *; omega) | (simp at *; done))
theorem prog_rgAlong (v : Value) (a : Int) (w : World) (hv : ∃ x n c, v = .slice x n c) : Calls Try.prog 29 #[v, .int .i64 a] w fun e w' => e = .returned (.func (.func 42) #[] #[.pointer (some ⟨w.heap.size, 0, none⟩), .pointer (some ⟨w.heap.size + 1, 0, none⟩)]) ∧ w' = (w.alloc (.cells #[v] 22)).alloc (.cells #[.int .i64 a] 3) := by
  obtain ⟨x, n, c, rfl⟩ := hv
  go_enter Try.func29, Try.ntmps29
  go_wp2
  all_goals first | (go_ret; exact ⟨rfl, rfl⟩) | (exfalso; first | omega | (simp at *; omega) | (simp at *; done))
theorem heap_kept {W W' : World} {B b : Nat} {cs : Array Value} {t : TypeId} {fr : Nat × Nat} {row : Option Nat} (h : W.heap[b]? = some (.cells cs t fr)) (hg : W.grownBy W' row) (hr : ∀ r, row = some r → B ≤ r ∧ ∃ o : Obj, W.heap[r]? = some o ∧ o.isCells = false) : W'.heap[b]? = some (.cells cs t fr) := by
  have hlt := lt_of_block h
  refine (hg.block b hlt (fun e => ?_)).trans h
  obtain ⟨_, o, ho, hc⟩ := hr b e.symm
  rw [h] at ho
  cases ho
  cases hc
theorem own_kept {W W' : World} {B B' sz n : Nat} {t : TypeId} {v : Value} {cs : List Value} {row : Option Nat} (h : W.ownsRow B' t sz v n cs) (hg : W.grownBy W' row) (hr : ∀ r, row = some r → B ≤ r ∧ ∃ o : Obj, W.heap[r]? = some o ∧ o.isCells = false) : W'.ownsRow B' t sz v n cs := by
  obtain ⟨h1, h2 | ⟨g, cap, cur, h3, h4, h5, h6⟩⟩ := h
  · exact ⟨h1, Or.inl h2⟩
  · exact ⟨h1, Or.inr ⟨g, cap, cur, h3, h4, heap_kept h5 hg hr, h6⟩⟩
theorem below_kept {W W' A : World} {B B' : Nat} {row : Option Nat} (h : Below B' A W) (hB : B' ≤ B) (hz : B' ≤ W.heap.size) (hg : W.grownBy W' row) (hr : ∀ r, row = some r → B ≤ r ∧ ∃ o : Obj, W.heap[r]? = some o ∧ o.isCells = false) : Below B' A W' :=
  h.grown hg hz (fun k hk => Nat.le_trans hB (hr k hk).1)
theorem ints_flat (L : List Int) : (L.map fun x => [Value.int .i64 x]).flatten = L.map (Value.int .i64) := by
  induction L with
  | nil => rfl
  | cons x L ih => simp only [List.map_cons, List.flatten_cons] at ih ⊢; rw [ih]; rfl
theorem own_row_cells {w : World} {B e sz n : Nat} {v : Value} {xs : List Value} (h : w.ownsRow B e sz v n xs) : ∀ (j : Nat) (o : Obj), v.ownBlock = some j → w.heap[j]? = some o → o.isCells = true := by
  intro j o hv ho
  rcases h.2 with ⟨rfl, _⟩ | ⟨g, cap, cur, rfl, _, hg, _⟩
  · cases hv
  · cases hv; rw [hg] at ho; cases ho; rfl
theorem heap_put {W : World} {D b : Nat} {o o' : Obj} {x : Obj} (hK : W.heap[D]? = some o) (ho : o.isCells = false) (h : W.heap[b]? = some x) (hx : x.isCells = true) : (W.putObj D o').heap[b]? = some x := by
  have : b ≠ D := by rintro rfl; rw [hK] at h; cases h; rw [ho] at hx; cases hx
  exact (World.putObj_heap_other this).trans h
theorem own_put {W : World} {D : Nat} {o' : Obj} {B e sz n : Nat} {v : Value} {xs : List Value} (h : W.ownsRow B e sz v n xs) (hK : W.heap[D]? = some (.deferred (some []))) : (W.putObj D o').ownsRow B e sz v n xs := by
  obtain ⟨h1, h2 | ⟨g, cap, cur, h3, h4, h5, h6⟩⟩ := h
  · exact ⟨h1, Or.inl h2⟩
  · exact ⟨h1, Or.inr ⟨g, cap, cur, h3, h4, heap_put hK rfl h5 rfl, h6⟩⟩
theorem below_put {A W : World} {D B : Nat} {o o' : Obj} (h : Below B A W) (_hK : W.heap[D]? = some o) (hD : B ≤ D) : Below B A (W.putObj D o') :=
  h.trans ⟨rfl, rfl, rfl, by simp, fun k hk => World.putObj_heap_other (by omega)⟩
/-- Between two rounds. -/
def WkI (w : World) (n1 bo : Nat) (pre : List Sp) (W : World) : Prop := ∃ v, W.heap[bo]? = some (.cells #[v] 35 (0, 0)) ∧ W.ownsRow n1 3 1 v (walkL pre).length ((walkL pre).map (Value.int .i64)) ∧ Below w.heap.size w W ∧ n1 ≤ W.heap.size
theorem WkI.own {w : World} {n1 bo : Nat} (h : w.heap.size ≤ n1) : OwnFrom n1 (WkI w n1 bo) := by
  intro s W W' row hs hg hr
  obtain ⟨v, h1, h2, h3, h4⟩ := hs
  exact ⟨v, heap_kept h1 hg hr, own_kept h2 hg hr, below_kept h3 h (Nat.le_trans h h4) hg hr, Nat.le_trans h4 hg.size⟩
set_option maxHeartbeats 4000000 in
set_option maxRecDepth 100000 in
theorem prog_RgWalk (v : Value) (X : List Sp) (w : World) (key : Int) (L : List Int) (c : Int) (r : RowAt w 2 v (X.map Sp.cells)) (hn : X.length * 16 ≤ 140737488351232) (ha : WalkAns X key L c) : Calls Try.prog 15 #[.agg #[v], .int .i64 key] w (WalkPost w L c) := by
  have R := Lib.hid r
  obtain ⟨a, cp, rfl, _⟩ := RowAt_shape r
  have HA := Lib.hid ha
  clear r ha
  refine (callsIn_wide (n := 6)).1 ?_
  refine callsIn_of_wp_marks Try.func15 rfl trivial ?_ rfl
  refine wpIn_wide.2 ?_
  simp only [Try.ntmps15, List.size_toArray, List.length_cons, List.length_nil, Nat.reduceAdd, Nat.reduceSub, Array.replicate_succ, Array.replicate_zero, List.push_toArray, List.append_toArray, List.nil_append, List.cons_append]
  go_wp2_with fail
  refine (prog_weights _ X _ (RowAt_alloc R.out _) hn).mono ?_
  rintro e w1 ⟨W, bo, hW, rfl, h1, h2, hb⟩
  have HB := Lib.hid (((Below.refl w.heap.size w).alloc (Nat.le_refl _) _).trans (hb.mono (by simp)))
  have hz1 := hb.size
  simp at hz1
  have k0 : w.heap.size < w1.heap.size := by omega
  have g0 : w1.cell? ⟨w.heap.size, 0, none⟩ = some (.slice a X.length cp) := by rw [hb.cell (p := ⟨w.heap.size, 0, none⟩) (by first | omega | (simp; done) | (simp; omega))]; go_simp
  have H1 := Lib.hid h1
  have H2 := Lib.hid h2
  have HW := Lib.hid hW
  clear hb h1 h2 hW
  rcases HA.out with ⟨hm, rfl, rfl⟩ | ⟨hm, hs, rfl, rfl⟩ | ⟨K, hm, rfl, hK, rfl, rfl⟩
  · have := H2.out hm
    subst this
    clear hm HA
    go_wp2_with (refine wpList_store_rowF rfl 39 (.tmp 6) (.tmp 15) rfl w1.heap.size (ar12 W) rfl rfl 39 (ar12 (List.replicate 12 0)) (heap_at _ rfl) (ar12_info HW.out) (by rw [ar12_size HW.out]; rfl) (ar12_one _) ?_; intro W2 hW2 _ hs2 hb2; obtain ⟨hc2, hf2⟩ := bcell hb2; have hb2' := Lib.hid ((HB.out.alloc (by omega) _).trans (hb2.mono (by omega))); clear hb2; simp at hs2)
    exact ⟨_, results_tmp2 rfl _ _ _, WalkPost.nil hb2'.out⟩
  · obtain ⟨rfl, rfl⟩ := H1.out hm
    clear hm HA
    go_wp2_with (refine wpList_store_rowF rfl 39 (.tmp 6) (.tmp 15) rfl w1.heap.size (ar12 (mixK X 12)) rfl rfl 39 (ar12 (List.replicate 12 0)) (heap_at _ rfl) (ar12_info HW.out) (by rw [ar12_size HW.out]; rfl) (ar12_one _) ?_; intro W2 hW2 _ hs2 hb2; obtain ⟨hc2, hf2⟩ := bcell hb2; have hb2' := Lib.hid ((HB.out.alloc (by omega) _).trans (hb2.mono (by omega))); clear hb2; simp at hs2)
    refine (prog_Key_bad key _ (by omega)).mono ?_
    rintro e w3 ⟨rfl, hb3⟩
    have HB3 := Lib.hid (hb2'.out.trans (hb3.mono (by omega)))
    clear hb3
    go_wp2
    all_goals exact ⟨_, results_tmp2 rfl _ _ _, WalkPost.nil HB3.out⟩
  · obtain ⟨rfl, rfl⟩ := H1.out hm
    have HM := Lib.hid hm
    clear hm HA
    go_wp2_with (refine wpList_store_rowF rfl 39 (.tmp 6) (.tmp 15) rfl w1.heap.size (ar12 (mixK X 12)) rfl rfl 39 (ar12 (List.replicate 12 0)) (heap_at _ rfl) (ar12_info HW.out) (by rw [ar12_size HW.out]; rfl) (ar12_one _) ?_; intro W2 hW2 _ hs2 hb2; obtain ⟨hc2, hf2⟩ := bcell hb2; have hb2' := Lib.hid ((HB.out.alloc (by omega) _).trans (hb2.mono (by omega))); clear hb2; simp at hs2)
    refine (prog_Key_ok K _ hK).mono ?_
    rintro e w3 ⟨rfl, hb3⟩
    have hz3 := hb3.size
    have HB3 := Lib.hid (hb2'.out.trans (hb3.mono (by omega)))
    have g3 : w3.cell? ⟨w.heap.size, 0, none⟩ = some (.slice a X.length cp) := by rw [hb3.cell (p := ⟨w.heap.size, 0, none⟩) (by simp; omega), hc2 _ _ k0]; go_simp
    have k3 : w.heap.size < w3.heap.size := by omega
    obtain ⟨at_, hat⟩ : ∃ a : Nat, a = mix4 (K % 256) (K / 256 % 256) (K / 65536 % 256) (K / 16777216) := ⟨_, rfl⟩
    rw [← hat]
    have HAT := Lib.hid (show keyH K = (at_ : Int) by rw [hat]; rfl)
    clear hat hb3 hc2 hf2 hW2 hb2' g0
    go_wp2_with (go_at_call 29; refine (prog_rgAlong _ _ _ ⟨_, _, _, rfl⟩).mono ?_; rintro e w' ⟨rfl, rfl⟩)
    obtain ⟨W0, hW0⟩ : ∃ W0, W0 = ((w3.alloc (.cells #[.slice none 0 0] 35)).alloc (.cells #[.slice a X.length cp] 22)).alloc (.cells #[.int .i64 (at_ : Int)] 3) := ⟨_, rfl⟩
    have hsz : W0.heap.size = w3.heap.size + 1 + 1 + 1 := by rw [hW0]; simp
    have hB0 : Below w3.heap.size w3 W0 := by rw [hW0]; exact (((Below.refl _ _).alloc (Nat.le_refl _) _).alloc (by simp) _).alloc (by simp; omega) _
    have b0 : W0.heap[w3.heap.size]? = some (.cells #[.slice none 0 0] 35 (0, 0)) := by rw [hW0]; exact (Below.heap_alloc _ _ _ (by simp; omega)).trans ((Below.heap_alloc _ _ _ (by simp)).trans (heap_at _ rfl))
    have b1 : W0.heap[w3.heap.size + 1]? = some (.cells #[.slice a X.length cp] 22 (0, 0)) := by rw [hW0]; exact (Below.heap_alloc _ _ _ (by simp)).trans (heap_at _ (by simp))
    have b2 : W0.heap[w3.heap.size + 1 + 1]? = some (.cells #[.int .i64 (at_ : Int)] 3 (0, 0)) := by rw [hW0]; exact heap_at _ (by simp)
    rw [← hW0]
    clear hW0
    have HB0 := Lib.hid (HB3.out.trans (hB0.mono HB3.out.size))
    have hrow : RowAt W0 2 (.slice a X.length cp) (X.map Sp.cells) := RowAt_below R.out HB0.out
    have hlX := HM.out.len
    have c1 : W0.cell? ⟨w3.heap.size + 1, 0, none⟩ = some (.slice a X.length cp) := blk_cell b1 0
    have c2 : W0.cell? ⟨w3.heap.size + 1 + 1, 0, none⟩ = some (.int .i64 (at_ : Int)) := blk_cell b2 0
    have hne : X ≠ [] → ∀ ad, a = some ad → ad.block ≠ w3.heap.size := by
      intro hX ad hd
      obtain ⟨a', c', e, _, _, _, p⟩ := RowAt_fn Sp.zero R.out
      injection e with e1 _ _
      obtain ⟨b, o, e2, hb, _⟩ := p hX
      rw [hd] at e1
      rw [← e1] at e2
      injection e2 with e2
      rw [e2]
      show b ≠ w3.heap.size
      omega
    have hw3 : w.heap.size ≤ w3.heap.size := HB3.out.size
    refine (wpIn_wide (n := 6)).1 ?_
    refine wpIn_rangeFunc_ownH (P := Try.prog) rfl (by omega) (gf := 42) (lb := #[.pointer (some ⟨w3.heap.size + 1, 0, none⟩), .pointer (some ⟨w3.heap.size + 1 + 1, 0, none⟩)]) rfl trivial (enters_of Try.func42 (by kernel_rfl) rfl)
      (along1_stops 5 (by omega) (w3.heap.size + 1) (w3.heap.size + 1 + 1) w3.heap.size cp a at_ X hlX HM.out.ord W0 c1 c2 (by omega) hrow hne) Kw.trans (kw_b (Nat.le_refl _)) (Below.refl _ _) (fun _ => rfl)
      (WkI w W0.heap.size w3.heap.size) (fun _ _ _ => False) (WkI.own (by omega)) (fun _ _ _ _ _ hs _ _ => hs)
      ⟨_, b0, World.ownsRow_nil _ _ _ _, HB0.out, Nat.le_refl _⟩
      (fun x a' W => ∃ Bx, W0.heap.size ≤ Bx ∧ W.heap[Bx]? = some (.cells #[.int .i64 x.hash, .int .i64 x.backend] 45 (0, 0)) ∧ a' = { tmps := #[.agg #[.slice a X.length cp], .int .i64 (K : Int), .pointer (some ⟨w.heap.size, 0, none⟩), undef, .slice none 0 0, .int .i64 0, .pointer (some ⟨w1.heap.size, 0, none⟩), .bool true, .int .i64 (at_ : Int), .int .i64 0, .pointer (some ⟨w3.heap.size, 0, none⟩), .pointer (some ⟨Bx, 0, none⟩), .tuple #[.agg (ar12 (mixK X 12)), .bool true], .agg #[.slice a X.length cp], .tuple #[.agg (ar12 (mixK X 12)), .bool true], .agg (ar12 (mixK X 12)), .bool true, .bool true, .bool false, .tuple #[.int .i64 (at_ : Int), .int .i64 0], .int .i64 (K : Int), .tuple #[.int .i64 (at_ : Int), .int .i64 0], .int .i64 (at_ : Int), .int .i64 0, .int .i64 0, .bool false, undef, .pointer (some ⟨w.heap.size, 0, none⟩), .slice a X.length cp, .int .i64 (at_ : Int), .func (.func 42) #[] #[.pointer (some ⟨w3.heap.size + 1, 0, none⟩), .pointer (some ⟨w3.heap.size + 1 + 1, 0, none⟩)], .agg #[.int .i64 x.hash, .int .i64 x.backend], undef, undef, undef, undef, undef, undef, undef, undef, undef, undef, undef], defers := [] })
      (fun x a' _ Y Z row hs hg hr => by obtain ⟨Bx, h1, h2, h3⟩ := hs; exact ⟨Bx, h1, heap_kept h2 hg hr, h3⟩) ?assign ?body ?done ?stop
    case assign =>
      rintro l pre x W K' ⟨v, h1, h2, h3, h4⟩ hK'
      simp only [spArg]
      gi_wp2
      exact hK' _ _ ((KeepsOthers.alloc _ _).from _) (Kw.of_below ((Below.refl W.heap.size W).alloc (Nat.le_refl _) _) h4) ⟨v, (Below.heap_alloc _ _ _ (lt_of_block h1)).trans h1, h2.alloc _, h3.alloc h3.size _, by simp; omega⟩ ⟨W.heap.size, h4, heap_at _ rfl, rfl⟩
    case body =>
      rintro l pre x a' W hl ⟨rl, hrl⟩ ⟨v, h1, h2, h3, h4⟩ ⟨Bx, hBx, bX, rfl⟩ hlt
      obtain ⟨xh, xb⟩ := x
      have hsW := h3.size
      have d0 : W.cell? ⟨w3.heap.size, 0, none⟩ = some v := blk_cell h1 0
      have d1 : W.frozen? ⟨w3.heap.size, 0, none⟩ = false := blk_free h1 0
      have d2 : W.cell? ⟨Bx, 1, none⟩ = some (.int .i64 xb) := blk_cell bX 1
      obtain ⟨av, cv, rfl, _⟩ := owns_shape h2
      have hwl := walkL_len pre
      obtain ⟨q, hq⟩ : ∃ q, q = decide (xb ∈ walkL pre) := ⟨_, rfl⟩
      have hrw : RowAt W 1 (.slice av (walkL pre).length cv) ((walkL pre).map fun x => [Value.int .i64 x]) := by
        refine RowAt_of_owns (base := W0.heap.size) (e := 3) (n := (walkL pre).length) ?_ (by rw [List.length_map]) (by intro c hc; simp only [List.mem_map] at hc; obtain ⟨x, _, rfl⟩ := hc; rfl)
        rw [ints_flat]; exact h2
      have HQ := Lib.hid hq
      clear hq
      cases q with
      | true =>
        gi_wp2_with (refine ⟨trivial, ?_⟩; gi_at_call 30; refine (CallsIn.inRound l (callsIn_wide.2 (contains_int _ (walkL pre) xb _ hrw true HQ.out))).mono ?_; rintro e w' ⟨rfl, rfl⟩)
        exact ⟨KeepsFrom.refl _ _, Kw.refl _ _ _, ⟨_, h1, by rw [walkL_snoc]; unfold wkStep; rw [if_pos (by simpa using HQ.out.symm)]; exact h2, h3, h4⟩⟩
      | false =>
        have HW := Lib.hid (show walkL (pre ++ [⟨xh, xb⟩]) = walkL pre ++ [xb] by rw [walkL_snoc]; unfold wkStep; rw [if_neg (by simpa using HQ.out.symm)])
        obtain ⟨i0, hi, hi0, hi1, hi2⟩ := info_parts info_rint
        gi_wp2_with (first | (refine ⟨trivial, ?_⟩; gi_at_call 30; refine (CallsIn.inRound l (callsIn_wide.2 (contains_int _ (walkL pre) xb _ hrw false HQ.out))).mono ?_; rintro e w' ⟨rfl, rfl⟩) | (gi_at_builtin; go_loud (refine wpListIn_append_own _ rfl _ _ 35 rfl W0.heap.size 3 i0 (.int .i64 0) 1 8 Try.underlying35 hi hi0 hi1 hi2 rfl (by decide) _ _ _ rfl (h2.alloc _) ⟨w'.heap.size, 0, none⟩ 1 1 [.int .i64 xb] rfl rfl (news_lit rfl [.int .i64 xb] 3) (by simp [Value.oneCell']) (by unfold maxLen; omega) (by omega) (by simp; omega) ?_); intro v6 w6 hown6 hgrow0 _; have hgrow : (w'.alloc (.cells #[.int .i64 xb] 3)).grownBy w6 (Value.slice av (walkL pre).length cv).ownBlock := hgrow0; have hb6 := grown_below (B := W0.heap.size) ((Below.refl w'.heap.size w').alloc (Nat.le_refl _) _) h4 h2 hgrow; have HG := Lib.hid hgrow; have e1 := blk_below hb6 h1 (by omega); have d6 : w6.cell? ⟨w3.heap.size, 0, none⟩ = some _ := blk_cell e1 0; have f6 := blk_free e1 0; have HO6 := Lib.hid hown6; have HB6 := Lib.hid hb6; obtain ⟨a6, c6, rfl, _⟩ := owns_shape hown6; clear hgrow hgrow0 hb6 hown6))
        have hz6 := HB6.out.size
        refine ⟨((((KeepsOthers.alloc w' _).trans (KeepsOthers.of_grownBy HG.out (own_row_cells (h2.alloc _)))).trans (KeepsOthers.setCell _ _ _)).from _), ?_, ?_⟩
        · refine ⟨by simp; omega, fun b hb1 hb2 => ?_⟩
          exact (Below.heap_setCell _ _ _ _ hb2).trans (HB6.out.block b hb1)
        · refine ⟨_, blk_set e1 _, ?_, (h3.trans (HB6.out.mono (by omega))).setCell (by simp; omega) _, by simp; omega⟩
          rw [HW.out, List.length_append, List.map_append]
          exact own_set_ne HO6.out (by simp; omega) _
    case done =>
      rintro D ys W hD ⟨k, hcut, rfl⟩ ⟨v, h1, h2, h3, h4⟩ hK
      have d0 : W.cell? ⟨w3.heap.size, 0, none⟩ = some v := blk_cell h1 0
      go_wp2
      refine ⟨by simp, .inl ⟨_, _, rfl, run_takeDeferred hK, ?_⟩⟩
      refine ⟨_, results_tmp2 rfl _ _ _, ?_⟩
      rw [HAT.out]
      have e : walkAt X at_ = walkL (rot k X) := by unfold walkAt; rw [cut_filter HM.out.1 hcut]
      rw [e]
      exact WalkPost.own (B := W0.heap.size) (own_put h2 hK) rfl (by omega) (below_put h3 hK (by omega))
    case stop =>
      rintro D c pre W _ _ h _
      exact h.elim
end Go.Proofs.Ytmhbkpgacdmjpaa
