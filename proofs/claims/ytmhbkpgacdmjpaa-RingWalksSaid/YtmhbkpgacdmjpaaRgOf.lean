/- usherref.RingOf: spots one by one put where they belong. -/
import Derived.Test.YtmhbkpgacdmjpaaWgt
namespace Go.Proofs.Ytmhbkpgacdmjpaa
open Go.RowKit
theorem ref_ahead (a b : Sp) (w : World) : Calls Try.prog 39 #[.agg #[.int .i64 a.hash, .int .i64 a.backend], .agg #[.int .i64 b.hash, .int .i64 b.backend]] w fun e w' => e = .returned (.bool (spA a b)) ∧ Below w.heap.size w w' := by
  obtain ⟨x, y⟩ := a
  obtain ⟨z, u⟩ := b
  obtain ⟨r, hr⟩ : ∃ r, r = spA ⟨x, y⟩ ⟨z, u⟩ := ⟨_, rfl⟩
  rw [← hr]
  simp only [spA] at hr
  rcases (show x < z ∨ (¬ x < z ∧ x = z ∧ y < u) ∨ (¬ x < z ∧ x = z ∧ ¬ y < u) ∨ (¬ x < z ∧ ¬ x = z) by omega) with h | ⟨h, rfl, h2⟩ | ⟨h, rfl, h2⟩ | ⟨h, h2⟩
  · have : r = true := by rw [hr]; simp [h]
    subst this; clear hr
    go_enter Try.func39, Try.ntmps39
    go_wp2
    all_goals first | (go_ret; exact ⟨rfl, (by repeat (first | (with_reducible exact Below.refl _ _) | (with_reducible assumption) | (with_reducible refine Below.drew ?_) | (with_reducible refine Below_drewN ?_) | (with_reducible refine Below.alloc ?_ (by first | omega | (simp; done) | (simp; omega)) _) | (with_reducible refine Below.setCell ?_ (by first | omega | (simp; done) | (simp; omega)) _) | (with_reducible refine Below.trans ?_ (Below.mono (by assumption) (by first | omega | (simp; done) | (simp; omega))))))⟩) | (exfalso; first | omega | (simp at *; omega) | (simp at *; done))
  · have : r = true := by rw [hr]; simp [h2]
    subst this; clear hr
    go_enter Try.func39, Try.ntmps39
    go_wp2
    all_goals first | (go_ret; exact ⟨rfl, (by repeat (first | (with_reducible exact Below.refl _ _) | (with_reducible assumption) | (with_reducible refine Below.drew ?_) | (with_reducible refine Below_drewN ?_) | (with_reducible refine Below.alloc ?_ (by first | omega | (simp; done) | (simp; omega)) _) | (with_reducible refine Below.setCell ?_ (by first | omega | (simp; done) | (simp; omega)) _) | (with_reducible refine Below.trans ?_ (Below.mono (by assumption) (by first | omega | (simp; done) | (simp; omega))))))⟩) | (exfalso; first | omega | (simp at *; omega) | (simp at *; done))
  · have : r = false := by rw [hr]; simp; omega
    subst this; clear hr
    have h3 : decide (y < u) = false := by simp; omega
    go_enter Try.func39, Try.ntmps39
    go_wp2
    all_goals first | (go_ret; exact ⟨rfl, (by repeat (first | (with_reducible exact Below.refl _ _) | (with_reducible assumption) | (with_reducible refine Below.drew ?_) | (with_reducible refine Below_drewN ?_) | (with_reducible refine Below.alloc ?_ (by first | omega | (simp; done) | (simp; omega)) _) | (with_reducible refine Below.setCell ?_ (by first | omega | (simp; done) | (simp; omega)) _) | (with_reducible refine Below.trans ?_ (Below.mono (by assumption) (by first | omega | (simp; done) | (simp; omega))))))⟩) | (exfalso; first | omega | (simp at *; omega) | (simp at *; done))
  · have : r = false := by rw [hr]; simp [h2]; omega
    subst this; clear hr
    have h3 : (x == z) = false := by simpa using h2
    go_enter Try.func39, Try.ntmps39
    go_wp2
    all_goals first | (go_ret; exact ⟨rfl, (by repeat (first | (with_reducible exact Below.refl _ _) | (with_reducible assumption) | (with_reducible refine Below.drew ?_) | (with_reducible refine Below_drewN ?_) | (with_reducible refine Below.alloc ?_ (by first | omega | (simp; done) | (simp; omega)) _) | (with_reducible refine Below.setCell ?_ (by first | omega | (simp; done) | (simp; omega)) _) | (with_reducible refine Below.trans ?_ (Below.mono (by assumption) (by first | omega | (simp; done) | (simp; omega))))))⟩) | (exfalso; first | omega | (simp at *; omega) | (simp at *; done))
theorem ref_aheadR (a b : Sp) (w : World) (r : Bool) (h : r = spA a b) : Calls Try.prog 39 #[.agg #[.int .i64 a.hash, .int .i64 a.backend], .agg #[.int .i64 b.hash, .int .i64 b.backend]] w fun e w' => e = .returned (.bool r) ∧ Below w.heap.size w w' := by
  rw [h]; exact ref_ahead a b w
/-- The spots while the i-th of backend b is put. -/
def xB (ws : List Nat) (b i : Nat) : List Sp := wantK ws b ++ (List.range i).map (spOf b)
theorem xB_0 (ws : List Nat) (b : Nat) : xB ws b 0 = wantK ws b := by simp [xB]
theorem xB_succ (ws : List Nat) (b i : Nat) : xB ws b (i + 1) = xB ws b i ++ [spOf b i] := by simp [xB, List.range_succ]
theorem xB_end (ws : List Nat) (b : Nat) : xB ws b (4 * ws.getD b 0) = wantK ws (b + 1) := by rw [wantK_succ]; rfl
theorem xB_len {ws : List Nat} (h : ∀ b, ws.getD b 0 ≤ 8) (b i : Nat) : (xB ws b i).length ≤ 32 * b + i := by
  unfold xB; rw [List.length_append]; have := wantK_len ws h b; simp; omega
theorem flat_set2 (Y : List Sp) (k : Nat) (s : Sp) (h : k < Y.length) : (((Y.map Sp.cells).flatten.set (k * 2) (.int .i64 s.hash)).set (k * 2 + 1) (.int .i64 s.backend)) = ((Y.set k s).map Sp.cells).flatten := by
  induction Y generalizing k with
  | nil => simp at h
  | cons y Y ih =>
    cases k with
    | zero => simp [Sp.cells]
    | succ k =>
      have := ih k (by simpa using h)
      simp only [List.map_cons, List.flatten_cons, List.set_cons_succ, Sp.cells, List.cons_append, List.nil_append] at this ⊢
      rw [show (k + 1) * 2 = k * 2 + 1 + 1 by omega, List.set_cons_succ, List.set_cons_succ, List.set_cons_succ, List.set_cons_succ, this]
theorem set_mid (A C : List Sp) (p x y : Sp) : (A ++ p :: x :: C).set (A.length + 1) y = A ++ p :: y :: C := by
  rw [List.set_append_right _ _ (by omega)]; simp
theorem set_mid0 (A C : List Sp) (p y : Sp) : (A ++ p :: C).set A.length y = A ++ y :: C := by
  rw [List.set_append_right _ _ (by omega)]; simp

theorem flat_swap (A C : List Sp) (p x : Sp) {q : Nat} (h : A.length = q) : (((((A ++ p :: x :: C).map Sp.cells).flatten.set ((q + 1) * 2) (.int .i64 p.hash)).set ((q + 1) * 2 + 1) (.int .i64 p.backend)).set (q * 2) (.int .i64 x.hash)).set (q * 2 + 1) (.int .i64 x.backend) = ((A ++ x :: p :: C).map Sp.cells).flatten := by
  subst h
  rw [flat_set2 _ _ _ (by simp), flat_set2 _ _ _ (by simp), set_mid, set_mid0]
theorem results1_cell_row {P : Program} {fn : Func} {p : Tmp} {ty : TypeId} (h : fn.results = #[.cell p ty]) (tmps : Array Value) (w : World) (g : Nat) (t : TypeId) (cs : Array Value) (fr : Nat × Nat) (d : TypeDesc)
    (hp : tmps.getD p undef = .pointer (some ⟨g, 0, none⟩)) (hg : w.heap[g]? = some (.cells cs t fr))
    (hu : P.underlying ty = some d) (hd : (match d with | .struct _ | .array _ _ => true | _ => false) = true) (hi : (P.info? ty).map (·.size) = some cs.size) :
    (results fn tmps).run P w = .ok (.agg cs) w := by
  have hp' : tmps[p]?.getD undef = .pointer (some ⟨g, 0, none⟩) := by simpa using hp
  simp [results, h, hp', asAddr, run_loadVar_row w g t ty cs fr d hg hu hd hi]
theorem flat_at0 (A C : List Sp) (p : Sp) {k : Nat} (h : A.length = k) : ((A ++ p :: C).map Sp.cells).flatten[k * 2]? = some (.int .i64 p.hash) ∧ ((A ++ p :: C).map Sp.cells).flatten[k * 2 + 1]? = some (.int .i64 p.backend) := by
  have hl : (A.map Sp.cells).flatten.length = k * 2 := by rw [flatten_length (lenc_Sp A), List.length_map, h]
  rw [List.map_append, List.flatten_append, List.map_cons, List.flatten_cons]
  constructor
  · rw [List.getElem?_append_right (by omega), hl, Nat.sub_self]; rfl
  · rw [List.getElem?_append_right (by omega), hl, show k * 2 + 1 - k * 2 = 1 by omega]; rfl
def RgRow (w wr : World) (l : Value) (X : List Sp) : Prop := Below w.heap.size w wr ∧ w.heap.size < wr.heap.size ∧ wr.heap[w.heap.size]? = some (.cells #[.slice none 0 0] 24 (0, 0)) ∧ wr.ownsRow (w.heap.size + 1) 45 2 l X.length ((srt X).map Sp.cells).flatten
/-- While x goes down to its place. -/
def RgIn (w wr : World) (l : Value) (n k : Nat) (X : List Sp) (x : Sp) : Prop := Below w.heap.size w wr ∧ w.heap.size < wr.heap.size ∧ wr.heap[w.heap.size]? = some (.cells #[.slice none 0 0] 24 (0, 0)) ∧ ∃ A C, A.length = k ∧ A ++ C = srt X ∧ (∀ y ∈ C, spA x y = true) ∧ wr.ownsRow (w.heap.size + 1) 45 2 l n ((A ++ x :: C).map Sp.cells).flatten
theorem RgRow_next {w wr : World} {l : Value} {N : Nat} {ws : List Nat} {b j : Nat} {A C : List Sp} {x : Sp} (hB : Below w.heap.size w wr) (hz : w.heap.size < wr.heap.size) (y0 : wr.heap[w.heap.size]? = some (.cells #[.slice none 0 0] 24 (0, 0)))
    (hN : N = (xB ws b j).length) (hx : x = spOf b j) (hAC : A ++ C = srt (xB ws b j)) (h1 : A = [] ∨ spA x (A.getD (A.length - 1) Sp.zero) = false) (hC : ∀ y ∈ C, spA x y = true)
    (hown : wr.ownsRow (w.heap.size + 1) 45 2 l (N + 1) ((A ++ x :: C).map Sp.cells).flatten) : RgRow w wr l (xB ws b (j + 1)) := by
  refine ⟨hB, hz, y0, ?_⟩
  rw [xB_succ, ← hx, ← srt_put hAC h1 hC, List.length_append, ← hN]
  exact hown
def RgPost (w : World) (X : List Sp) (e : Ending) (w' : World) : Prop := ∃ v, e = .returned (.agg #[v]) ∧ RowNew w.heap.size w' 2 v (X.map Sp.cells) ∧ Below w.heap.size w w'
def icN (n : Nat) : List Value := [.int .i64 (n : Int)]

set_option maxHeartbeats 4000000 in
set_option maxRecDepth 100000 in
theorem ref_RingOf (v : Value) (ws : List Nat) (w : World) (r : RowAt w 1 v (ws.map icN)) (hl : ws.length = 12) (h8 : ∀ b, ws.getD b 0 ≤ 8) : Calls Try.prog 25 #[v] w (RgPost w (ringOf ws)) := by
  obtain ⟨i0, hi, hi0, hi1, hi2⟩ := info_parts infoc_Sp
  obtain ⟨a, c, rfl, _, m1, _, p1⟩ := RowAt_fn 0 r
  obtain ⟨bw, ow, rfl, hbw, q1⟩ := p1 (by intro h; rw [h] at hl; simp at hl)
  have Q1 := Lib.hid q1
  unfold maxLen at m1
  rw [hl]
  have HL := Lib.hid hl
  clear r p1 q1 hl
  go_enter Try.func25, Try.ntmps25
  go_wp2
  go_loopw [3, 4] (fun l i wr => ∃ b : Nat, b ≤ 12 ∧ i = .int .i64 b ∧ RgRow w wr l (wantK ws b)) (fun _ i _ => 12 - (intOf i).toNat)
  case atStart => exact ⟨0, Nat.zero_le _, rfl, (by repeat (first | (with_reducible exact Below.refl _ _) | (with_reducible assumption) | (with_reducible refine Below.drew ?_) | (with_reducible refine Below_drewN ?_) | (with_reducible refine Below.alloc ?_ (by first | omega | (simp; done) | (simp; omega)) _) | (with_reducible refine Below.setCell ?_ (by first | omega | (simp; done) | (simp; omega)) _) | (with_reducible refine Below.trans ?_ (Below.mono (by assumption) (by first | omega | (simp; done) | (simp; omega)))))), by simp, heap_at _ rfl, by simpa [srt, wantK] using World.ownsRow_nil _ _ _ _⟩
  case round =>
    obtain ⟨b, hb, rfl, hbel, hz, y0, hown⟩ := hrel
    obtain ⟨a, cap, rfl, _⟩ := owns_shape hown
    have HB := Lib.hid hbel
    have Y0 := Lib.hid y0
    have HO := Lib.hid hown
    clear hbel y0 hown
    rcases (show b < 12 ∨ b = 12 by omega) with hlt | rfl
    rotate_left
    · have c0 : wr.cell? ⟨w.heap.size, 0, none⟩ = some (.slice none 0 0) := blk_cell Y0.out 0
      have f0 : wr.frozen? ⟨w.heap.size, 0, none⟩ = false := blk_free Y0.out 0
      go_wp2
      refine bodyPost_ret (v := .agg #[.slice a (wantK ws 12).length cap]) ?_ rfl ⟨_, rfl, ?_, HB.out.setCell (by simp) _⟩
      · exact results1_cell_row Try.results25 _ _ w.heap.size 24 #[.slice a (wantK ws 12).length cap] (0, 0) _ rfl (blk_set Y0.out _) Try.underlying24 rfl (by kernel_rfl)
      · exact RowNew_mono (RowNew_of_owns (own_set_ne HO.out (by simp) _) (by rw [List.length_map]; exact (srt_perm _).length_eq) (lenc_Sp _)) (by omega)
    · have hlt' : (b : Int) < 12 := by omega
      have p0 : (0 : Int) ≤ (b : Int) := by omega
      obtain ⟨n, hn⟩ : ∃ n, n = ws.getD b 0 := ⟨_, rfl⟩
      have hn8 : n ≤ 8 := by rw [hn]; exact h8 b
      have HN := Lib.hid hn
      clear hn
      go_wp2
      go_loopw [3, 5] (fun l i wr2 => ∃ j : Nat, j ≤ 4 * n ∧ i = .int .i64 j ∧ RgRow w wr2 l (xB ws b j)) (fun _ i _ => 4 * n - (intOf i).toNat)
      case atStart => exact ⟨0, Nat.zero_le _, rfl, by unfold RgRow; rw [xB_0]; exact ⟨HB.out, hz, Y0.out, HO.out⟩⟩
      case round =>
        clear HB Y0 HO hz
        obtain ⟨j, hj, rfl, hbel, hz, y0, hown⟩ := hrel
        obtain ⟨a, cap, rfl, _⟩ := owns_shape hown
        have HB := Lib.hid hbel
        have Y0 := Lib.hid y0
        have HO := Lib.hid hown
        have q0 : wr.cell? ⟨bw, ow + b, none⟩ = some (.int .i64 (n : Int)) := by
          have := cell_below hbel (Q1.out b 0 (by rw [HL.out]; exact hlt) (by omega)) hbw
          rw [← HN.out] at this
          simpa [icN] using this
        clear hbel y0 hown
        rcases (show j < 4 * n ∨ j = 4 * n by omega) with hjl | rfl
        rotate_left
        · have e := Lib.hid (show xB ws b (4 * n) = wantK ws (b + 1) by rw [HN.out]; exact xB_end ws b)
          have hge : ¬ ((4 * n : Nat) : Int) < 4 * (n : Int) := by omega
          go_wp2
          go_roundw
          case rel => exact ⟨b + 1, by omega, by go_num, by rw [← e.out]; exact ⟨HB.out, hz, Y0.out, HO.out⟩⟩
          case measure => simp [intOf]; omega
        · have hjl' : (j : Int) < 4 * (n : Int) := by omega
          go_wp2_with fail
          refine (ref_SpotAt_ok b j _ (by omega) (by omega)).mono ?_
          rintro e w1 ⟨rfl, hb1⟩
          have hb1' := hb1
          have HB1 := Lib.hid (HB.out.trans (hb1'.mono HB.out.size))
          have Y1 := Lib.hid (blk_below hb1' Y0.out (by omega))
          have HO1 := Lib.hid (own_keep HO.out hb1')
          have hz1 := hb1'.size
          have hlx2 := xB_len h8 b j
          clear hb1 HB Y0 HO
          go_wp2_with (at_builtin; go_loud (refine wpList_append_own _ rfl _ _ 22 rfl (w.heap.size + 1) 45 i0 (.agg #[.int .i64 0, .int .i64 0]) 2 16 Try.underlying22 hi hi0 hi1 hi2 rfl (by decide) _ _ _ rfl (HO1.out.alloc _) ⟨w1.heap.size, 0, none⟩ 1 1 (Sp.cells (spOf b j)) rfl rfl (news_lit rfl _ 45) ?c1 ?c2 ?c3 ?c4 ?_))
          case c1 => exact sp_one _
          case c2 => unfold maxLen; omega
          case c3 => omega
          case c4 => simp; omega
          intro v' w6 hown' hgrow _
          have hO6 : w6.ownsRow (w.heap.size + 1) 45 2 v' ((xB ws b j).length + 1) ((srt (xB ws b j) ++ [spOf b j]).map Sp.cells).flatten := by
            rw [List.map_append, List.flatten_append]; simpa using hown'
          have HO6 := Lib.hid hO6
          rcases owns_news hO6 with ⟨_, h0⟩ | ⟨g, cap', rfl, _⟩
          · omega
          have hb6 := grown_below (B := w.heap.size + 1) ((Below.refl w1.heap.size w1).alloc (Nat.le_refl _) _) (by omega) HO1.out hgrow
          have Y6 := Lib.hid (blk_below hb6 Y1.out (by omega))
          have HB6 := Lib.hid (HB1.out.trans (hb6.mono (by omega)))
          have hz6 := hb6.size
          clear hown' hgrow hb6 HO1 HB1 Y1 hO6
          go_wp2_with fail
          have hln : ((xB ws b j).length : Int) + 1 - 1 = ((xB ws b j).length : Int) := by omega
          obtain ⟨N, hN⟩ : ∃ N, N = (xB ws b j).length := ⟨_, rfl⟩
          rw [← hN] at HO6 hlx2 hln ⊢
          have HN2 := Lib.hid hN
          clear hN
          obtain ⟨x, hx⟩ : ∃ x, x = spOf b j := ⟨_, rfl⟩
          rw [← hx] at HO6
          have HX := Lib.hid hx
          clear hx
          go_wp2_with fail
          go_loopw [8] (fun i wr2 => ∃ k : Nat, k ≤ N ∧ i = .int .i64 k ∧ RgIn w wr2 (.slice (some ⟨g, 0, none⟩) (N + 1) cap') (N + 1) k (xB ws b j) x) (fun i _ => (intOf i).toNat)
          case atStart => exact ⟨N, Nat.le_refl _, by go_num, HB6.out, by omega, Y6.out, srt (xB ws b j), [], by rw [HN2.out]; exact (srt_perm _).length_eq, by simp, by simp, HO6.out⟩
          case round =>
            clear HB6 Y6 hz6 HO6 hz1
            obtain ⟨k, hk, rfl, hbel, hz, y0, A, C, hA, hAC, hC, hown⟩ := hrel
            have HB := Lib.hid hbel
            have Y0 := Lib.hid y0
            have HO := Lib.hid hown
            have HA := Lib.hid hA
            have HAC := Lib.hid hAC
            have HC := Lib.hid hC
            clear hbel y0 hA hAC hC
            rcases (show k = 0 ∨ ∃ q, k = q + 1 by rcases k with _ | q; exact Or.inl rfl; exact Or.inr ⟨q, rfl⟩) with hk0 | ⟨q, rfl⟩
            · clear hown
              subst hk0
              go_wp2_with fail
              (refine wp_region_noPanic ?_; refine wp_region_held_drew (S := fun _ => True) (by kernel_rfl) ?q1xb (fun hHeld => ?_); (case q1xb => ((try dsimp only); all_goals trivial)); refine wpAnyH_take (i := 0) (v := ?q1xv0) (by simp only [List.getElem?_toArray, List.getElem?_cons_zero]; exact rfl) (by kernel_rfl) (by kernel_rfl) (by kernel_rfl) (fun _ _ _ h => h) (Or.inl ⟨by rfl, ?q1xy0⟩) (by assumption) ?_; (case q1xy0 => (intro w hSw; (try dsimp only at hSw); go_simp; (try with_reducible rfl))); (try simp only [Act.put, List.setIfInBounds_toArray, List.set_cons_zero, List.set_cons_succ]); refine wpAnyH_take (i := 1) (v := ?q1xv1) (by simp only [List.getElem?_toArray, List.getElem?_cons_zero, List.getElem?_cons_succ]; exact rfl) (by kernel_rfl) (by kernel_rfl) (by kernel_rfl) (fun _ _ _ h => h) (Or.inl ⟨by rfl, ?q1xy1⟩) (by assumption) ?_; (case q1xy1 => (intro w hSw; (try dsimp only at hSw); go_simp; (try with_reducible rfl))); (try simp only [Act.put, List.setIfInBounds_toArray, List.set_cons_zero, List.set_cons_succ]); refine wpAnyH_take (i := 2) (v := ?q1xv2) (by simp only [List.getElem?_toArray, List.getElem?_cons_zero, List.getElem?_cons_succ]; exact rfl) (by kernel_rfl) (by kernel_rfl) (by kernel_rfl) (fun _ _ _ h => h) (Or.inl ⟨by rfl, ?q1xy2⟩) (by assumption) ?_; (case q1xy2 => (intro w hSw; (try dsimp only at hSw); go_simp; (try with_reducible rfl))); (try simp only [Act.put, List.setIfInBounds_toArray, List.set_cons_zero, List.set_cons_succ]); refine wpAnyH_take (i := 3) (v := undef) (by simp only [List.getElem?_toArray, List.getElem?_cons_zero, List.getElem?_cons_succ]; exact rfl) (by kernel_rfl) (by kernel_rfl) (by kernel_rfl) (fun _ _ _ h => h) (Or.inr ⟨by rfl, rfl⟩) (by assumption) ?_; (try simp only [Act.put, List.setIfInBounds_toArray, List.set_cons_zero, List.set_cons_succ]); refine wpAnyH_take (i := 4) (v := undef) (by simp only [List.getElem?_toArray, List.getElem?_cons_zero, List.getElem?_cons_succ]; exact rfl) (by kernel_rfl) (by kernel_rfl) (by kernel_rfl) (fun _ _ _ h => h) (Or.inr ⟨by rfl, rfl⟩) (by assumption) ?_; (try simp only [Act.put, List.setIfInBounds_toArray, List.set_cons_zero, List.set_cons_succ]); refine wpAnyH_take (i := 5) (v := undef) (by simp only [List.getElem?_toArray, List.getElem?_cons_zero, List.getElem?_cons_succ]; exact rfl) (by kernel_rfl) (by kernel_rfl) (by kernel_rfl) (fun _ _ _ h => h) (Or.inr ⟨by rfl, rfl⟩) (by assumption) ?_; (try simp only [Act.put, List.setIfInBounds_toArray, List.set_cons_zero, List.set_cons_succ]); refine wpAnyH_take (i := 6) (v := undef) (by simp only [List.getElem?_toArray, List.getElem?_cons_zero, List.getElem?_cons_succ]; exact rfl) (by kernel_rfl) (by kernel_rfl) (by kernel_rfl) (fun _ _ _ h => h) (Or.inr ⟨by rfl, rfl⟩) (by assumption) ?_; (try simp only [Act.put, List.setIfInBounds_toArray, List.set_cons_zero, List.set_cons_succ]); refine wpAnyH_take (i := 7) (v := undef) (by simp only [List.getElem?_toArray, List.getElem?_cons_zero, List.getElem?_cons_succ]; exact rfl) (by kernel_rfl) (by kernel_rfl) (by kernel_rfl) (fun _ _ _ h => h) (Or.inr ⟨by rfl, rfl⟩) (by assumption) ?_; (try simp only [Act.put, List.setIfInBounds_toArray, List.set_cons_zero, List.set_cons_succ]); refine wpAnyH_take (i := 8) (v := undef) (by simp only [List.getElem?_toArray, List.getElem?_cons_zero, List.getElem?_cons_succ]; exact rfl) (by kernel_rfl) (by kernel_rfl) (by kernel_rfl) (fun _ _ _ h => h) (Or.inr ⟨by rfl, rfl⟩) (by assumption) ?_; (try simp only [Act.put, List.setIfInBounds_toArray, List.set_cons_zero, List.set_cons_succ]); refine wpAnyH_take (i := 9) (v := undef) (by simp only [List.getElem?_toArray, List.getElem?_cons_zero, List.getElem?_cons_succ]; exact rfl) (by kernel_rfl) (by kernel_rfl) (by kernel_rfl) (fun _ _ _ h => h) (Or.inr ⟨by rfl, rfl⟩) (by assumption) ?_; (try simp only [Act.put, List.setIfInBounds_toArray, List.set_cons_zero, List.set_cons_succ]); refine wpAnyH_take (i := 10) (v := undef) (by simp only [List.getElem?_toArray, List.getElem?_cons_zero, List.getElem?_cons_succ]; exact rfl) (by kernel_rfl) (by kernel_rfl) (by kernel_rfl) (fun _ _ _ h => h) (Or.inr ⟨by rfl, rfl⟩) (by assumption) ?_; (try simp only [Act.put, List.setIfInBounds_toArray, List.set_cons_zero, List.set_cons_succ]); refine wpAnyH_take (i := 11) (v := undef) (by simp only [List.getElem?_toArray, List.getElem?_cons_zero, List.getElem?_cons_succ]; exact rfl) (by kernel_rfl) (by kernel_rfl) (by kernel_rfl) (fun _ _ _ h => h) (Or.inr ⟨by rfl, rfl⟩) (by assumption) ?_; (try simp only [Act.put, List.setIfInBounds_toArray, List.set_cons_zero, List.set_cons_succ]); refine wpAnyH_take (i := 12) (v := undef) (by simp only [List.getElem?_toArray, List.getElem?_cons_zero, List.getElem?_cons_succ]; exact rfl) (by kernel_rfl) (by kernel_rfl) (by kernel_rfl) (fun _ _ _ h => h) (Or.inr ⟨by rfl, rfl⟩) (by assumption) ?_; (try simp only [Act.put, List.setIfInBounds_toArray, List.set_cons_zero, List.set_cons_succ]); refine wpAnyH_take (i := 13) (v := ?q1xv13) (by simp only [List.getElem?_toArray, List.getElem?_cons_zero, List.getElem?_cons_succ]; exact rfl) (by kernel_rfl) (by kernel_rfl) (by kernel_rfl) (fun _ _ _ h => h) (Or.inl ⟨by rfl, ?q1xy13⟩) (by assumption) ?_; (case q1xy13 => (intro w hSw; (try dsimp only at hSw); go_simp; (try with_reducible rfl))); (try simp only [Act.put, List.setIfInBounds_toArray, List.set_cons_zero, List.set_cons_succ]); refine wpAnyH_done (by kernel_rfl) ?_ _; refine NoPanic.normal ?_)
              go_wp2_with fail
              exact ⟨⟨j + 1, by omega, by go_num, RgRow_next HB.out.drew hz Y0.out HN2.out HX.out HAC.out (Or.inl (List.length_eq_zero_iff.1 HA.out)) HC.out (own_keep HO.out (Below.drew (Below.refl _ _)))⟩, by simp [intOf]; omega⟩
            · obtain ⟨p, A', rfl⟩ : ∃ p A', A = A' ++ [p] := by
                have := HA.out
                rcases List.eq_nil_or_concat A with rfl | ⟨A', p, rfl⟩
                · simp at this
                · exact ⟨p, A', by simp⟩
              have hA' : A'.length = q := by have := HA.out; simpa using this
              have e : A' ++ [p] ++ x :: C = A' ++ p :: x :: C := by simp
              rw [e] at hown HO
              have e0 := flat_at0 A' (x :: C) p hA'
              have e1 := flat_at0 (A' ++ [p]) C x (k := q + 1) (by simpa using hA')
              rw [e] at e1
              have hlen : ((A' ++ p :: x :: C).map Sp.cells).flatten.length = (N + 1) * 2 := hown.1
              have d0 := (hown.cellAt (q * 2) (by omega)).trans e0.1
              have d1 := (hown.cellAt (q * 2 + 1) (by omega)).trans e0.2
              have d2 := (hown.cellAt ((q + 1) * 2) (by omega)).trans e1.1
              have d3 := (hown.cellAt ((q + 1) * 2 + 1) (by omega)).trans e1.2
              have gl : g < wr.heap.size := (hown.lt _ rfl).2
              have gB := (hown.lt _ rfl).1
              have HA' := Lib.hid hA'
              obtain ⟨r, hr⟩ : ∃ r, r = spA x p := ⟨_, rfl⟩
              have HR := Lib.hid hr
              clear hown e e0 e1 hlen hA' hr
              obtain ⟨xh, xb⟩ := x
              obtain ⟨ph, pb⟩ := p
              simp only at d0 d1 d2 d3
              have hq1 : (0 : Int) < (q : Int) + 1 := by omega
              have hq2 : (q : Int) + 1 < (N : Int) + 1 := by omega
              have hq3 : (q : Int) < (N : Int) + 1 := by omega
              have hq0 : (0 : Int) ≤ (q : Int) := by omega
              have hq4 : (0 : Int) ≤ (q : Int) + 1 := by omega
              have hq5 : ((q : Int) + 1).toNat = q + 1 := by omega
              have hq6 : IntKind.i64.wrap (q : Int) = (q : Int) := IntWalk.i64_in _ (by omega)
              go_wp2_with fail
              (refine wp_region_noPanic ?_; refine wp_region_held_drew (S := fun w' => w'.cell? ⟨g, q * 2, none⟩ = some (.int .i64 ph) ∧ w'.cell? ⟨g, q * 2 + 1, none⟩ = some (.int .i64 pb) ∧ w'.cell? ⟨g, (q + 1) * 2, none⟩ = some (.int .i64 xh) ∧ w'.cell? ⟨g, (q + 1) * 2 + 1, none⟩ = some (.int .i64 xb)) (by kernel_rfl) ?q2xb (fun hHeld => ?_); (case q2xb => ((try dsimp only); ((go_split_ands; (try dsimp only); (repeat' apply And.intro); all_goals (repeat (first | with_reducible assumption | (with_reducible refine (cell_set_ne ?_).trans ?_; omega) | (with_reducible refine cell_alloc _ ?_) | (with_reducible refine cell_drew ?_) | (with_reducible refine cell_below' hb2 ?_))))))); refine wpAnyH_take (i := 0) (v := ?q2xv0) (by simp only [List.getElem?_toArray, List.getElem?_cons_zero]; exact rfl) (by kernel_rfl) (by kernel_rfl) (by kernel_rfl) (fun _ _ _ h => h) (Or.inl ⟨by rfl, ?q2xy0⟩) (by assumption) ?_; (case q2xy0 => (intro w hSw; (try dsimp only at hSw); go_simp; (try with_reducible rfl))); (try simp only [Act.put, List.setIfInBounds_toArray, List.set_cons_zero, List.set_cons_succ]); refine wpAnyH_take (i := 1) (v := ?q2xv1) (by simp only [List.getElem?_toArray, List.getElem?_cons_zero, List.getElem?_cons_succ]; exact rfl) (by kernel_rfl) (by kernel_rfl) (by kernel_rfl) (fun _ _ _ h => h) (Or.inl ⟨by rfl, ?q2xy1⟩) (by assumption) ?_; (case q2xy1 => (intro w hSw; (try dsimp only at hSw); go_simp; (try with_reducible rfl))); (try simp only [Act.put, List.setIfInBounds_toArray, List.set_cons_zero, List.set_cons_succ]); refine wpAnyH_take (i := 2) (v := ?q2xv2) (by simp only [List.getElem?_toArray, List.getElem?_cons_zero, List.getElem?_cons_succ]; exact rfl) (by kernel_rfl) (by kernel_rfl) (by kernel_rfl) (fun _ _ _ h => h) (Or.inl ⟨by rfl, ?q2xy2⟩) (by assumption) ?_; (case q2xy2 => (intro w hSw; (try dsimp only at hSw); go_simp; (try with_reducible rfl))); (try simp only [Act.put, List.setIfInBounds_toArray, List.set_cons_zero, List.set_cons_succ]); refine wpAnyH_take (i := 3) (v := ?q2xv3) (by simp only [List.getElem?_toArray, List.getElem?_cons_zero, List.getElem?_cons_succ]; exact rfl) (by kernel_rfl) (by kernel_rfl) (by kernel_rfl) (fun _ _ _ h => h) (Or.inl ⟨by rfl, ?q2xy3⟩) (by assumption) ?_; (case q2xy3 => (intro w hSw; (try dsimp only at hSw); go_simp; (try with_reducible rfl))); (try simp only [Act.put, List.setIfInBounds_toArray, List.set_cons_zero, List.set_cons_succ]); refine wpAnyH_take (i := 4) (v := ?q2xv4) (by simp only [List.getElem?_toArray, List.getElem?_cons_zero, List.getElem?_cons_succ]; exact rfl) (by kernel_rfl) (by kernel_rfl) (by kernel_rfl) (fun _ _ _ h => h) (Or.inl ⟨by rfl, ?q2xy4⟩) (by assumption) ?_; (case q2xy4 => (intro w hSw; (try dsimp only at hSw); go_simp; (try with_reducible rfl))); (try simp only [Act.put, List.setIfInBounds_toArray, List.set_cons_zero, List.set_cons_succ]); refine wpAnyH_take (i := 5) (v := ?q2xv5) (by simp only [List.getElem?_toArray, List.getElem?_cons_zero, List.getElem?_cons_succ]; exact rfl) (by kernel_rfl) (by kernel_rfl) (by kernel_rfl) (fun _ _ _ h => h) (Or.inl ⟨by rfl, ?q2xy5⟩) (by assumption) ?_; (case q2xy5 => (intro w hSw; (try dsimp only at hSw); go_simp; (try with_reducible rfl))); (try simp only [Act.put, List.setIfInBounds_toArray, List.set_cons_zero, List.set_cons_succ]); refine wpAnyH_take (i := 6) (v := ?q2xv6) (by simp only [List.getElem?_toArray, List.getElem?_cons_zero, List.getElem?_cons_succ]; exact rfl) (by kernel_rfl) (by kernel_rfl) (by kernel_rfl) (fun _ _ _ h => h) (Or.inl ⟨by rfl, ?q2xy6⟩) (by assumption) ?_; (case q2xy6 => (intro w hSw; (try dsimp only at hSw); go_simp; (try with_reducible rfl))); (try simp only [Act.put, List.setIfInBounds_toArray, List.set_cons_zero, List.set_cons_succ]); refine wpAnyH_take (i := 7) (v := ?q2xv7) (by simp only [List.getElem?_toArray, List.getElem?_cons_zero, List.getElem?_cons_succ]; exact rfl) (by kernel_rfl) (by kernel_rfl) (by kernel_rfl) (fun _ _ _ h => h) (Or.inl ⟨by rfl, ?q2xy7⟩) (by assumption) ?_; (case q2xy7 => (intro w hSw; (try dsimp only at hSw); go_simp; (try with_reducible rfl))); (try simp only [Act.put, List.setIfInBounds_toArray, List.set_cons_zero, List.set_cons_succ]); refine wpAnyH_take (i := 8) (v := ?q2xv8) (by simp only [List.getElem?_toArray, List.getElem?_cons_zero, List.getElem?_cons_succ]; exact rfl) (by kernel_rfl) (by kernel_rfl) (by kernel_rfl) (fun _ _ _ h => h) (Or.inl ⟨by rfl, ?q2xy8⟩) (by assumption) ?_; (case q2xy8 => (intro w hSw; (try dsimp only at hSw); go_simp; (try with_reducible rfl))); (try simp only [Act.put, List.setIfInBounds_toArray, List.set_cons_zero, List.set_cons_succ]); refine wpAnyH_take (i := 9) (v := ?q2xv9) (by simp only [List.getElem?_toArray, List.getElem?_cons_zero, List.getElem?_cons_succ]; exact rfl) (by kernel_rfl) (by kernel_rfl) (by kernel_rfl) (fun _ _ _ h => h) (Or.inl ⟨by rfl, ?q2xy9⟩) (by assumption) ?_; (case q2xy9 => (intro w hSw; (try dsimp only at hSw); go_simp; (try with_reducible rfl))); (try simp only [Act.put, List.setIfInBounds_toArray, List.set_cons_zero, List.set_cons_succ]); refine wpAnyH_take (i := 10) (v := ?q2xv10) (by simp only [List.getElem?_toArray, List.getElem?_cons_zero, List.getElem?_cons_succ]; exact rfl) (by kernel_rfl) (by kernel_rfl) (by kernel_rfl) (fun _ _ _ h => h) (Or.inl ⟨by rfl, ?q2xy10⟩) (by assumption) ?_; (case q2xy10 => (intro w hSw; (try dsimp only at hSw); go_simp; (try with_reducible rfl))); (try simp only [Act.put, List.setIfInBounds_toArray, List.set_cons_zero, List.set_cons_succ]); refine wpAnyH_take (i := 11) (v := ?q2xv11) (by simp only [List.getElem?_toArray, List.getElem?_cons_zero, List.getElem?_cons_succ]; exact rfl) (by kernel_rfl) (by kernel_rfl) (by kernel_rfl) (fun _ _ _ h => h) (Or.inl ⟨by rfl, ?q2xy11⟩) (by assumption) ?_; (case q2xy11 => (intro w hSw; (try dsimp only at hSw); go_simp; (try with_reducible rfl))); (try simp only [Act.put, List.setIfInBounds_toArray, List.set_cons_zero, List.set_cons_succ]); refine wpAnyH_ready (rs := [12]) (by kernel_rfl) (by simp) ?_; refine AllReadyH.cons (by simp only [List.getElem?_toArray, List.getElem?_cons_zero, List.getElem?_cons_succ]; exact rfl) (fun K hK => ?_) AllReadyH.nil; go_simp; (go_at_call 39; refine (ref_aheadR ⟨xh, xb⟩ ⟨ph, pb⟩ _ r HR.out).mono ?_; rintro e w2 ⟨rfl, hb2⟩); (try go_wp2_with fail); refine hK.out _ _ ?q2xs12 (fun hHeld => ?_); (case q2xs12 => ((try dsimp only); ((go_split_ands; (try dsimp only); (repeat' apply And.intro); all_goals (repeat (first | with_reducible assumption | (with_reducible refine (cell_set_ne ?_).trans ?_; omega) | (with_reducible refine cell_alloc _ ?_) | (with_reducible refine cell_drew ?_) | (with_reducible refine cell_below' hb2 ?_))))))); clear hK K; (try simp only [Act.put, List.setIfInBounds_toArray, List.set_cons_zero, List.set_cons_succ]); refine wpAnyH_take (i := 13) (v := ?q2xv13) (by simp only [List.getElem?_toArray, List.getElem?_cons_zero, List.getElem?_cons_succ]; exact rfl) (by kernel_rfl) (by kernel_rfl) (by kernel_rfl) (fun _ _ _ h => h) (Or.inl ⟨by rfl, ?q2xy13⟩) (by assumption) ?_; (case q2xy13 => (intro w hSw; (try dsimp only at hSw); go_simp; (try with_reducible rfl))); (try simp only [Act.put, List.setIfInBounds_toArray, List.set_cons_zero, List.set_cons_succ]); refine wpAnyH_done (by kernel_rfl) ?_ _; refine NoPanic.normal ?_)
              clear d0 d1 d2 d3
              have hbD : Below wr.heap.size wr w2 := (Below_drewN (n := 1) (Below.refl wr.heap.size wr)).trans (hb2.mono (by simp))
              have HB2 := Lib.hid (HB.out.trans (hbD.mono HB.out.size))
              have hz2 := hbD.size
              have Y2 := Lib.hid (blk_below hbD Y0.out hz)
              have gl2 : g < w2.heap.size := by omega
              have HO2 := Lib.hid (own_keep HO.out hbD)
              have fz : ∀ m, w2.frozen? ⟨g, m, none⟩ = false := fun m => HO2.out.frozenAt m
              have e0 := flat_at0 A' (⟨xh, xb⟩ :: C) ⟨ph, pb⟩ HA'.out
              have e1 := flat_at0 (A' ++ [⟨ph, pb⟩]) C ⟨xh, xb⟩ (k := q + 1) (by simpa using HA'.out)
              rw [show A' ++ [⟨ph, pb⟩] ++ ⟨xh, xb⟩ :: C = A' ++ ⟨ph, pb⟩ :: ⟨xh, xb⟩ :: C by simp] at e1
              have hlen : ((A' ++ ⟨ph, pb⟩ :: ⟨xh, xb⟩ :: C).map Sp.cells).flatten.length = (N + 1) * 2 := HO2.out.1
              have d0 := (HO2.out.cellAt (q * 2) (by omega)).trans e0.1
              have d1 := (HO2.out.cellAt (q * 2 + 1) (by omega)).trans e0.2
              have d2 := (HO2.out.cellAt ((q + 1) * 2) (by omega)).trans e1.1
              have d3 := (HO2.out.cellAt ((q + 1) * 2 + 1) (by omega)).trans e1.2
              have i0 := fz (q * 2)
              have i1 := fz (q * 2 + 1)
              have i2 := fz ((q + 1) * 2)
              have i3 := fz ((q + 1) * 2 + 1)
              simp only at d0 d1 d2 d3
              clear fz e0 e1 hlen hbD hb2 HO HB Y0 HL
              cases r with
              | false =>
                go_wp2_with fail
                exact ⟨⟨j + 1, by omega, by go_num, RgRow_next HB2.out (by omega) Y2.out HN2.out HX.out HAC.out (Or.inr (by simpa using HR.out.symm)) HC.out (by simpa using HO2.out)⟩, by simp [intOf]; omega⟩
              | true =>
                go_wp2_with fail
                go_roundw
                case measure => simp [intOf]
                case rel =>
                  refine ⟨q, by omega, rfl, (((((HB2.out.setCell (by simp; omega) _).setCell (by simp; omega) _).setCell (by simp; omega) _).setCell (by simp; omega) _).alloc (by simp; omega) _), by simp; omega, (Below.heap_alloc _ _ _ (by simp; omega)).trans (blk_set_ne (blk_set_ne (blk_set_ne (blk_set_ne Y2.out (by omega)) (by omega)) (by omega)) (by omega)), A', ⟨ph, pb⟩ :: C, HA'.out, by simpa using HAC.out, ?_, ?_⟩
                  · intro y hy
                    rcases List.mem_cons.1 hy with rfl | hy
                    · exact HR.out.symm
                    · exact HC.out y hy
                  · rw [← flat_swap A' C ⟨ph, pb⟩ ⟨xh, xb⟩ HA'.out]
                    exact ((((HO2.out.stored _ _).1.stored _ _).1.stored _ _).1.stored _ _).1.alloc _
end Go.Proofs.Ytmhbkpgacdmjpaa
