/- usherref.WheelOf: timers one by one put where they belong. -/
import Derived.Test.YthgfiadfpgfjdaaWhTo
import Derived.Maps.AppendAt
namespace Go.Proofs.Ythgfiadfpgfjdaa
open Go.RowKit
theorem flat_set2 (Y : List Tm) (k : Nat) (s : Tm) (h : k < Y.length) : (((Y.map Tm.cells).flatten.set (k * 2) (.int .i64 s.at_)).set (k * 2 + 1) (.int .i64 s.id)) = ((Y.set k s).map Tm.cells).flatten := by
  induction Y generalizing k with
  | nil => simp at h
  | cons y Y ih =>
    cases k with
    | zero => simp [Tm.cells]
    | succ k =>
      have := ih k (by simpa using h)
      simp only [List.map_cons, List.flatten_cons, List.set_cons_succ, Tm.cells, List.cons_append, List.nil_append] at this ⊢
      rw [show (k + 1) * 2 = k * 2 + 1 + 1 by omega, List.set_cons_succ, List.set_cons_succ, List.set_cons_succ, List.set_cons_succ, this]
theorem set_mid (A C : List Tm) (p x y : Tm) : (A ++ p :: x :: C).set (A.length + 1) y = A ++ p :: y :: C := by
  rw [List.set_append_right _ _ (by omega)]; simp
theorem set_mid0 (A C : List Tm) (p y : Tm) : (A ++ p :: C).set A.length y = A ++ y :: C := by
  rw [List.set_append_right _ _ (by omega)]; simp

theorem flat_swap (A C : List Tm) (p x : Tm) {q : Nat} (h : A.length = q) : (((((A ++ p :: x :: C).map Tm.cells).flatten.set ((q + 1) * 2) (.int .i64 p.at_)).set ((q + 1) * 2 + 1) (.int .i64 p.id)).set (q * 2) (.int .i64 x.at_)).set (q * 2 + 1) (.int .i64 x.id) = ((A ++ x :: p :: C).map Tm.cells).flatten := by
  subst h
  rw [flat_set2 _ _ _ (by simp), flat_set2 _ _ _ (by simp), set_mid, set_mid0]
theorem results1_cell_row {P : Program} {fn : Func} {p : Tmp} {ty : TypeId} (h : fn.results = #[.cell p ty]) (tmps : Array Value) (w : World) (g : Nat) (t : TypeId) (cs : Array Value) (fr : Nat × Nat) (d : TypeDesc)
    (hp : tmps.getD p undef = .pointer (some ⟨g, 0, none⟩)) (hg : w.heap[g]? = some (.cells cs t fr))
    (hu : P.underlying ty = some d) (hd : (match d with | .struct _ | .array _ _ => true | _ => false) = true) (hi : (P.info? ty).map (·.size) = some cs.size) :
    (results fn tmps).run P w = .ok (.agg cs) w := by
  have hp' : tmps[p]?.getD undef = .pointer (some ⟨g, 0, none⟩) := by simpa using hp
  simp [results, h, hp', asAddr, run_loadVar_row w g t ty cs fr d hg hu hd hi]
theorem flat_at0 (A C : List Tm) (p : Tm) {k : Nat} (h : A.length = k) : ((A ++ p :: C).map Tm.cells).flatten[k * 2]? = some (.int .i64 p.at_) ∧ ((A ++ p :: C).map Tm.cells).flatten[k * 2 + 1]? = some (.int .i64 p.id) := by
  have hl : (A.map Tm.cells).flatten.length = k * 2 := by rw [flatten_length (lenc_Tm A), List.length_map, h]
  rw [List.map_append, List.flatten_append, List.map_cons, List.flatten_cons]
  constructor
  · rw [List.getElem?_append_right (by omega), hl, Nat.sub_self]; rfl
  · rw [List.getElem?_append_right (by omega), hl, show k * 2 + 1 - k * 2 = 1 by omega]; rfl
theorem owns_news {w : World} {base e sz n : Nat} {v : Value} {xs : List Value} (h : w.ownsRow base e sz v n xs) : (v = .slice none 0 0 ∧ n = 0) ∨ ∃ g c, v = .slice (some ⟨g, 0, none⟩) n c ∧ ∀ j u, xs[j]? = some u → w.cell? ((⟨g, 0, none⟩ : Addr).add j) = some u := by
  have hl := h.1
  rcases h.2 with ⟨rfl, h0⟩ | ⟨g, cap, cur, rfl, hg, hh, hnc, hcm, hcs, htake⟩
  · exact Or.inl ⟨rfl, h0⟩
  · refine Or.inr ⟨g, cap, rfl, fun j u hu => ?_⟩
    have hj : j < n * sz := by
      rcases Nat.lt_or_ge j (n * sz) with h' | h'
      · exact h'
      · rw [List.getElem?_eq_none (by omega)] at hu; cases hu
    rw [Go.WideShapes.add_plain, Nat.zero_add, h.cellAt j hj, hu]
/-- Those of the first k that belong at i. -/
def fl (now : Int) (L : List Tm) (i k : Nat) : List Tm := (L.take k).filter fun t => plc t now == i
theorem fl_0 (now : Int) (L : List Tm) (i : Nat) : fl now L i 0 = [] := by simp [fl]
theorem fl_yes {now : Int} {L : List Tm} {i k : Nat} {t : Tm} (ht : t = L.getD k Tm.zero) (h : k < L.length) (hp : plc t now = i) : fl now L i (k + 1) = fl now L i k ++ [t] := by
  unfold fl; rw [tm_take ht h, List.filter_append]; simp [hp]
theorem fl_no {now : Int} {L : List Tm} {i k : Nat} {t : Tm} (ht : t = L.getD k Tm.zero) (h : k < L.length) (hp : ¬ plc t now = i) : fl now L i (k + 1) = fl now L i k := by
  unfold fl; rw [tm_take ht h, List.filter_append]; simp [hp]
theorem fl_len (now : Int) (L : List Tm) (i k : Nat) : (fl now L i k).length ≤ k := by
  unfold fl; refine Nat.le_trans (List.length_filter_le _ _) ?_; simp; omega
theorem fl_all (now : Int) (L : List Tm) (i : Nat) : fl now L i L.length = L.filter fun t => plc t now == i := by simp [fl]
theorem fl_sub {now : Int} {L : List Tm} {i k : Nat} : ∀ t ∈ fl now L i k, t ∈ L := by
  intro t h; unfold fl at h; exact List.mem_of_mem_take (List.mem_filter.1 h).1
def woN (now : Int) (L : List Tm) (i : Nat) : List (List Tm) := (List.range i).map fun i => srtT (L.filter fun t => plc t now == i)
theorem woN_succ (now : Int) (L : List Tm) (i : Nat) : woN now L (i + 1) = woN now L i ++ [srtT (L.filter fun t => plc t now == i)] := by simp [woN, List.range_succ]
theorem woN_len (now : Int) (L : List Tm) (i : Nat) : (woN now L i).length = i := by simp [woN]
theorem woN_all (now : Int) (L : List Tm) : woN now L 25 = wheelOf now L := rfl
/-- The list x while its place is filled. -/
def WoRow (wO wr : World) (x : Value) (X : List Tm) : Prop := Below wO.heap.size wO wr ∧ wr.ownsRow wO.heap.size 43 2 x X.length ((srtT X).map Tm.cells).flatten
/-- While the timer y goes down to its place. -/
def WoIn (wO wr : World) (x : Value) (n k : Nat) (X : List Tm) (y : Tm) : Prop := Below wO.heap.size wO wr ∧ ∃ A C, A.length = k ∧ A ++ C = srtT X ∧ (∀ z ∈ C, tmA y z = true) ∧ wr.ownsRow wO.heap.size 43 2 x n ((A ++ y :: C).map Tm.cells).flatten
theorem WoRow_next {wO wr : World} {x : Value} {N : Nat} {X A C : List Tm} {y : Tm} (hB : Below wO.heap.size wO wr) (hN : N = X.length) (hAC : A ++ C = srtT X) (h1 : A = [] ∨ tmA y (A.getD (A.length - 1) Tm.zero) = false) (hC : ∀ z ∈ C, tmA y z = true)
    (hown : wr.ownsRow wO.heap.size 43 2 x (N + 1) ((A ++ y :: C).map Tm.cells).flatten) : WoRow wO wr x (X ++ [y]) := by
  refine ⟨hB, ?_⟩
  rw [← srtT_put hAC h1 hC, List.length_append, ← hN]
  exact hown
def WoPost (w : World) (now : Int) (LL : List (List Tm)) (e : Ending) (w' : World) : Prop := ∃ v, e = .returned (.agg #[.int .i64 now, v]) ∧ LsNew w.heap.size w' v LL ∧ Below w.heap.size w w'
set_option maxHeartbeats 4000000 in
set_option maxRecDepth 100000 in
theorem ref_WheelOf (v : Value) (now : Nat) (L : List Tm) (w : World) (r : RowAt w 2 v (L.map Tm.cells)) (hn : now ≤ 2199023255552) (ht : ∀ t ∈ L, 0 ≤ t.at_ ∧ t.at_ ≤ 2199023255552) (hl : L.length ≤ 1048576) :
    Calls Try.prog 22 #[.int .i64 now, v] w (WoPost w now (wheelOf now L)) := by
  obtain ⟨i0, hi, hi0, hi1, hi2⟩ := info_parts infoc_Tm
  obtain ⟨j0, hj, hj0, hj1, hj2⟩ := info_parts info_wls
  obtain ⟨a, c, rfl, _, m1, _, p1⟩ := RowAt_fn Tm.zero r
  have P1 := Lib.hid p1
  have HT := Lib.hid ht
  clear r p1 ht
  go_enter Try.func22, Try.ntmps22
  go_wp2
  go_loopw [6] (fun i wr => ∃ n : Nat, n ≤ 25 ∧ i = .int .i64 n ∧ ∃ x V, Below w.heap.size w wr ∧ w.heap.size + 1 < wr.heap.size ∧ wr.heap[w.heap.size]? = some (.cells #[.int .i64 0, .slice none 0 0] 24 (0, 0)) ∧ wr.heap[w.heap.size + 1]? = some (.cells #[.int .i64 (now : Int), x] 24 (0, 0)) ∧ OwnLs (w.heap.size + 1 + 1) wr x (woN now L n) V) (fun i _ => 25 - (intOf i).toNat)
  case atStart => exact ⟨0, Nat.zero_le _, rfl, .slice none 0 0, [], (by repeat (first | (with_reducible exact Below.refl _ _) | (with_reducible assumption) | (with_reducible refine Below.drew ?_) | (with_reducible refine Below_drewN ?_) | (with_reducible refine Below.alloc ?_ (by first | omega | (simp; done) | (simp; omega)) _) | (with_reducible refine Below.setCell ?_ (by first | omega | (simp; done) | (simp; omega)) _) | (with_reducible refine Below.trans ?_ (Below.mono (by assumption) (by first | omega | (simp; done) | (simp; omega)))))), by simp, (Below.heap_alloc _ _ _ (by simp)).trans (heap_at _ rfl), heap_at _ (by simp), OwnLs_nil _ _⟩
  case round =>
    rename World => wO
    obtain ⟨n, hn25, rfl, x, V, hbel, hz, y0, y1, hown⟩ := hrel
    have HB := Lib.hid hbel
    have Y0 := Lib.hid y0
    have Y1 := Lib.hid y1
    have HO := Lib.hid hown
    clear hbel y0 y1 hown
    have hzs := HB.out.size
    rcases (show n < 25 ∨ n = 25 by omega) with hlt | rfl
    rotate_left
    · have c0 : wO.cell? ⟨w.heap.size, 0, none⟩ = some (.int .i64 0) := blk_cell Y0.out 0
      have c1 : wO.cell? ⟨w.heap.size, 1, none⟩ = some (.slice none 0 0) := blk_cell Y0.out 1
      have f0 : wO.frozen? ⟨w.heap.size, 0, none⟩ = false := blk_free Y0.out 0
      have f1 : wO.frozen? ⟨w.heap.size, 1, none⟩ = false := blk_free Y0.out 1
      have d0 : wO.cell? ⟨w.heap.size + 1, 0, none⟩ = some (.int .i64 (now : Int)) := blk_cell Y1.out 0
      have d1 : wO.cell? ⟨w.heap.size + 1, 1, none⟩ = some x := blk_cell Y1.out 1
      obtain ⟨ax, cx, rfl, _⟩ := owns_shape HO.out.2.1
      go_wp2
      refine bodyPost_ret (v := .agg #[.int .i64 (now : Int), .slice ax (woN now L 25).length cx]) ?_ rfl ⟨_, rfl, ?_, (HB.out.setCell (by simp) _).setCell (by simp) _⟩
      · exact results1_cell_row Try.results22 _ _ w.heap.size 24 #[.int .i64 (now : Int), _] (0, 0) _ rfl (blk_set (blk_set Y0.out _) _) Try.underlying24 rfl (by kernel_rfl)
      · refine LsNew_mono (OwnLs_new (OwnLs_move HO.out fun b h1 h2 => ?_)) (by omega)
        rw [Below.heap_setCell _ _ _ _ (by simp; omega), Below.heap_setCell _ _ _ _ (by simp; omega)]
    · have hlt' : (n : Int) < 25 := by omega
      have p0 : (0 : Int) ≤ (n : Int) := by omega
      go_wp2_with fail
      go_loopw [7, 8] (fun x i wr => ∃ k : Nat, k ≤ L.length ∧ i = .int .i64 k ∧ WoRow wO wr x (fl now L n k)) (fun _ i _ => L.length - (intOf i).toNat)
      case atStart => exact ⟨0, Nat.zero_le _, rfl, Below.refl _ _, by simpa [fl_0, srtT] using World.ownsRow_nil _ _ _ _⟩
      case round =>
        obtain ⟨k, hk, rfl, hbel, hown⟩ := hrel
        obtain ⟨ax, cx, rfl, _⟩ := owns_shape hown
        have hbel0 := hbel
        have HBk := Lib.hid hbel
        have HOx := Lib.hid hown
        have hz1 := hbel.size
        clear hbel hown
        rcases (show k < L.length ∨ k = L.length by omega) with hkl | rfl
        rotate_left
        · have hge : ¬ ((L.length : Nat) : Int) < (L.length : Int) := by omega
          have HX : Hid (wr.ownsRow wO.heap.size 43 2 (.slice ax (fl now L n L.length).length cx) (srtT (fl now L n L.length)).length ((srtT (fl now L n L.length)).map Tm.cells).flatten) := by
            show wr.ownsRow wO.heap.size 43 2 (.slice ax (fl now L n L.length).length cx) (srtT (fl now L n L.length)).length ((srtT (fl now L n L.length)).map Tm.cells).flatten
            rw [(srtT_perm (fl now L n L.length)).length_eq]
            exact HOx.out
          have d1 : wr.cell? ⟨w.heap.size + 1, 1, none⟩ = some x := cell_below HBk.out (blk_cell Y1.out 1) (by omega)
          have f1 : wr.frozen? ⟨w.heap.size + 1, 1, none⟩ = false := (HBk.out.frozen (p := ⟨w.heap.size + 1, 1, none⟩) (by simp; omega)).trans (blk_free Y1.out 1)
          have HO1 := Lib.hid (OwnLs_below HO.out HBk.out)
          have hln := woN_len now L n
          obtain ⟨av, cv, rfl, _⟩ := owns_shape HO1.out.2.1
          rw [hln] at d1 HO1 HO Y1
          go_wp2_with (at_builtin; go_loud (refine wpList_append_own_at _ rfl _ _ 22 rfl (w.heap.size + 1 + 1) 38 j0 (.slice none 0 0) 1 24 Try.underlying22 hj hj0 hj1 hj2 rfl (by decide) _ _ _ (by rfl) (HO1.out.2.1.alloc _) ⟨wr.heap.size, 0, none⟩ 1 1 [.slice ax (fl now L n L.length).length cx] (by rfl) rfl (cell_one_new _ _ _) (by intro u hu; simp at hu; subst hu; rfl) (by unfold maxLen; omega) (by omega) (by simp; omega) ?_))
          intro v' w6 happ hg3 _ hat
          have hb6 := grown_below (B := w.heap.size + 1 + 1) ((Below.refl wr.heap.size wr).alloc (Nat.le_refl _) _) (by omega) (show wr.ownsRow _ 38 1 (.slice av n cv) n V by have h := HO1.out.2.1; rw [hln] at h; exact h) hg3
          have e1 : w6.cell? ⟨w.heap.size + 1, 1, none⟩ = _ := cell_below hb6 d1 (by omega)
          have e2 : w6.frozen? ⟨w.heap.size + 1, 1, none⟩ = false := (hb6.frozen (p := ⟨w.heap.size + 1, 1, none⟩) (by simp)).trans f1
          have hz6 := hb6.size
          have HB6 := Lib.hid hb6
          have E4 := Lib.hid (OwnLs_push (L := srtT (fl now L n L.length)) HO.out (by omega) HBk.out HX.out ((Below.refl _ _).alloc (Nat.le_refl _) _) (by rw [hln]; exact happ) hg3 (by simpa using hat))
          obtain ⟨a6, c6, rfl, _⟩ := owns_shape happ
          clear happ hg3 hat hb6 d1 f1
          go_wp2_with fail
          have kp : ∀ b, b < w.heap.size + 1 + 1 → w6.heap[b]? = wO.heap[b]? := fun b hb => (HB6.out.block b hb).trans (HBk.out.block b (by omega))
          have HBz : Below w.heap.size w w6 := (HB.out.trans (HBk.out.mono (by omega))).trans (HB6.out.mono (by omega))
          refine ⟨⟨n + 1, by omega, by go_num, _, V ++ [.slice ax (fl now L n L.length).length cx], HBz.setCell (by simp) _, by simp; omega, (Below.heap_setCell _ _ _ _ (by simp)).trans ((kp _ (by omega)).trans Y0.out), blk_set ((kp _ (by omega)).trans Y1.out) _, ?_⟩, by simp [intOf]; omega⟩
          rw [woN_succ, ← fl_all]
          exact OwnLs_move E4.out (fun b h1 h2 => Below.heap_setCell _ _ _ _ (by simp; omega))
        · have hkl' : (k : Int) < (L.length : Int) := by omega
          have p1 : (0 : Int) ≤ (k : Int) := by omega
          obtain ⟨b1, o1, rfl, hb1, q1⟩ := P1.out (by intro h; rw [h] at hkl; simp at hkl)
          have HBw := Lib.hid (HB.out.trans (HBk.out.mono (by omega)))
          obtain ⟨t, ht⟩ : ∃ t, t = L.getD k Tm.zero := ⟨_, rfl⟩
          have d0 := q1 k 0 hkl (by omega)
          have d1 := q1 k 1 hkl (by omega)
          rw [← ht] at d0 d1
          have htm := HT.out t (tm_mem ht hkl)
          have HFY := Lib.hid (fun h => fl_yes (now := (now : Int)) (i := n) ht hkl h)
          have HFN := Lib.hid (fun h => fl_no (now := (now : Int)) (i := n) ht hkl h)
          obtain ⟨t0, t1⟩ := t
          simp only [Tm.cells, List.getElem?_cons_zero, List.getElem?_cons_succ, Nat.add_zero] at d0 d1
          have d0 := cell_below HBw.out d0 hb1
          have d1 := cell_below HBw.out d1 hb1
          simp only at htm
          obtain ⟨A, rfl⟩ := Int.eq_ofNat_of_zero_le htm.1
          have hA2 : A ≤ 2199023255552 := by omega
          have HPl := Lib.hid (plc_nat (t := ⟨(A : Int), t1⟩) (now := (now : Int)) rfl rfl)
          obtain ⟨P, hP⟩ : ∃ P, P = placeN A now := ⟨_, rfl⟩
          have HP := Lib.hid hP
          have hP2 := placeN_lt A now
          rw [← hP] at HPl hP2
          clear hP ht q1
          by_cases hpk : P = n
          rotate_left
          · have hFN := HFN.out (by rw [HPl.out]; exact hpk)
            have HF := Lib.hid hFN
            have e1 : ((P : Int) != (n : Int)) = true := by rw [bne_iff_ne]; omega
            have e2 : ¬ (P : Int) = (n : Int) := by omega
            clear hpk hFN
            go_wp2_with (go_at_call 34; refine (ref_PlaceOf A now _ hA2 hn).mono ?_; rw [← HP.out]; rintro e w2 ⟨rfl, hw2⟩; have hw2 := hw2.symm; subst hw2)
            go_roundw
            case rel => exact ⟨k + 1, by omega, by go_num, HBk.out, by rw [HF.out]; exact HOx.out⟩
            case measure => simp [intOf]; omega
          · subst hpk
            have hFY := HFY.out HPl.out
            have HF := Lib.hid hFY
            have hfln := fl_len (now : Int) L P k
            obtain ⟨X, hX⟩ : ∃ X, X = fl (now : Int) L P k := ⟨_, rfl⟩
            rw [← hX] at HF hfln HOx ⊢
            clear hFY hX HFN HFY htm
            go_wp2_with (first | (go_at_call 34; refine (ref_PlaceOf A now _ hA2 hn).mono ?_; rw [← HP.out]; rintro e w2 ⟨rfl, hw2⟩; have hw2 := hw2.symm; subst hw2) | (at_builtin; go_loud (refine wpList_append_own _ rfl _ _ 38 rfl wO.heap.size 43 i0 (.agg #[.int .i64 0, .int .i64 0]) 2 16 Try.underlying38 hi hi0 hi1 hi2 rfl (by decide) _ _ _ rfl (HOx.out.alloc _) ⟨wr.heap.size, 0, none⟩ 1 1 (Tm.cells ⟨(A : Int), t1⟩) rfl rfl (news_lit rfl _ 43) ?c1 ?c2 ?c3 ?c4 ?_)))
            case c1 => exact tm_one _
            case c2 => unfold maxLen; omega
            case c3 => omega
            case c4 => simp; omega
            intro v' w6 hown' hgrow _
            have hO6 : w6.ownsRow wO.heap.size 43 2 v' (X.length + 1) ((srtT X ++ ([⟨(A : Int), t1⟩] : List Tm)).map Tm.cells).flatten := by
              rw [List.map_append, List.flatten_append]; simpa using hown'
            have HO6 := Lib.hid hO6
            rcases owns_news hO6 with ⟨_, h0⟩ | ⟨g, cap', rfl, _⟩
            · omega
            have hb6 := grown_below (B := wO.heap.size) ((Below.refl wr.heap.size wr).alloc (Nat.le_refl _) _) (by omega) HOx.out hgrow
            have HB6 := Lib.hid (HBk.out.trans (hb6.mono (by omega)))
            have hz6 := hb6.size
            clear hown' hgrow hb6 HOx HBk hO6 HBw d0 d1
            have hln : (X.length : Int) + 1 - 1 = (X.length : Int) := by omega
            obtain ⟨N, hN⟩ : ∃ N, N = X.length := ⟨_, rfl⟩
            rw [← hN] at HO6 hfln hln ⊢
            have HN2 := Lib.hid hN
            clear hN
            obtain ⟨y, hy⟩ : ∃ y : Tm, y = ⟨(A : Int), t1⟩ := ⟨_, rfl⟩
            rw [← hy] at HO6 HF
            clear hy HPl HP
            go_wp2_with fail
            go_loopw [9] (fun i wr2 => ∃ k : Nat, k ≤ N ∧ i = .int .i64 k ∧ WoIn wO wr2 (.slice (some ⟨g, 0, none⟩) (N + 1) cap') (N + 1) k X y) (fun i _ => (intOf i).toNat)
            case atStart => exact ⟨N, Nat.le_refl _, by go_num, HB6.out, srtT X, [], by rw [HN2.out]; exact (srtT_perm _).length_eq, by simp, by simp, HO6.out⟩
            case round =>
              clear HB6 hz6 HO6 hz1 hbel0
              obtain ⟨k2, hk2, rfl, hbel, A2, C, hA, hAC, hC, hown⟩ := hrel
              have HB2 := Lib.hid hbel
              have HO2 := Lib.hid hown
              have HA := Lib.hid hA
              have HAC := Lib.hid hAC
              have HC := Lib.hid hC
              have hz2 := hbel.size
              clear hbel hA hAC hC
              rcases (show k2 = 0 ∨ ∃ q, k2 = q + 1 by rcases k2 with _ | q; exact Or.inl rfl; exact Or.inr ⟨q, rfl⟩) with hk0 | ⟨q, rfl⟩
              · clear hown
                subst hk0
                go_wp2_with fail
                (refine wp_region_noPanic ?_; refine wp_region_held_drew (S := fun _ => True) (by kernel_rfl) ?q1xb (fun hHeld => ?_); (case q1xb => ((try dsimp only); all_goals trivial)); refine wpAnyH_take (i := 0) (v := ?q1xv0) (by simp only [List.getElem?_toArray, List.getElem?_cons_zero]; exact rfl) (by kernel_rfl) (by kernel_rfl) (by kernel_rfl) (fun _ _ _ h => h) (Or.inl ⟨by rfl, ?q1xy0⟩) (by assumption) ?_; (case q1xy0 => (intro w hSw; (try dsimp only at hSw); go_simp; (try with_reducible rfl))); (try simp only [Act.put, List.setIfInBounds_toArray, List.set_cons_zero, List.set_cons_succ]); refine wpAnyH_take (i := 1) (v := ?q1xv1) (by simp only [List.getElem?_toArray, List.getElem?_cons_zero, List.getElem?_cons_succ]; exact rfl) (by kernel_rfl) (by kernel_rfl) (by kernel_rfl) (fun _ _ _ h => h) (Or.inl ⟨by rfl, ?q1xy1⟩) (by assumption) ?_; (case q1xy1 => (intro w hSw; (try dsimp only at hSw); go_simp; (try with_reducible rfl))); (try simp only [Act.put, List.setIfInBounds_toArray, List.set_cons_zero, List.set_cons_succ]); refine wpAnyH_take (i := 2) (v := ?q1xv2) (by simp only [List.getElem?_toArray, List.getElem?_cons_zero, List.getElem?_cons_succ]; exact rfl) (by kernel_rfl) (by kernel_rfl) (by kernel_rfl) (fun _ _ _ h => h) (Or.inl ⟨by rfl, ?q1xy2⟩) (by assumption) ?_; (case q1xy2 => (intro w hSw; (try dsimp only at hSw); go_simp; (try with_reducible rfl))); (try simp only [Act.put, List.setIfInBounds_toArray, List.set_cons_zero, List.set_cons_succ]); refine wpAnyH_take (i := 3) (v := undef) (by simp only [List.getElem?_toArray, List.getElem?_cons_zero, List.getElem?_cons_succ]; exact rfl) (by kernel_rfl) (by kernel_rfl) (by kernel_rfl) (fun _ _ _ h => h) (Or.inr ⟨by rfl, rfl⟩) (by assumption) ?_; (try simp only [Act.put, List.setIfInBounds_toArray, List.set_cons_zero, List.set_cons_succ]); refine wpAnyH_take (i := 4) (v := undef) (by simp only [List.getElem?_toArray, List.getElem?_cons_zero, List.getElem?_cons_succ]; exact rfl) (by kernel_rfl) (by kernel_rfl) (by kernel_rfl) (fun _ _ _ h => h) (Or.inr ⟨by rfl, rfl⟩) (by assumption) ?_; (try simp only [Act.put, List.setIfInBounds_toArray, List.set_cons_zero, List.set_cons_succ]); refine wpAnyH_take (i := 5) (v := undef) (by simp only [List.getElem?_toArray, List.getElem?_cons_zero, List.getElem?_cons_succ]; exact rfl) (by kernel_rfl) (by kernel_rfl) (by kernel_rfl) (fun _ _ _ h => h) (Or.inr ⟨by rfl, rfl⟩) (by assumption) ?_; (try simp only [Act.put, List.setIfInBounds_toArray, List.set_cons_zero, List.set_cons_succ]); refine wpAnyH_take (i := 6) (v := undef) (by simp only [List.getElem?_toArray, List.getElem?_cons_zero, List.getElem?_cons_succ]; exact rfl) (by kernel_rfl) (by kernel_rfl) (by kernel_rfl) (fun _ _ _ h => h) (Or.inr ⟨by rfl, rfl⟩) (by assumption) ?_; (try simp only [Act.put, List.setIfInBounds_toArray, List.set_cons_zero, List.set_cons_succ]); refine wpAnyH_take (i := 7) (v := undef) (by simp only [List.getElem?_toArray, List.getElem?_cons_zero, List.getElem?_cons_succ]; exact rfl) (by kernel_rfl) (by kernel_rfl) (by kernel_rfl) (fun _ _ _ h => h) (Or.inr ⟨by rfl, rfl⟩) (by assumption) ?_; (try simp only [Act.put, List.setIfInBounds_toArray, List.set_cons_zero, List.set_cons_succ]); refine wpAnyH_take (i := 8) (v := undef) (by simp only [List.getElem?_toArray, List.getElem?_cons_zero, List.getElem?_cons_succ]; exact rfl) (by kernel_rfl) (by kernel_rfl) (by kernel_rfl) (fun _ _ _ h => h) (Or.inr ⟨by rfl, rfl⟩) (by assumption) ?_; (try simp only [Act.put, List.setIfInBounds_toArray, List.set_cons_zero, List.set_cons_succ]); refine wpAnyH_take (i := 9) (v := undef) (by simp only [List.getElem?_toArray, List.getElem?_cons_zero, List.getElem?_cons_succ]; exact rfl) (by kernel_rfl) (by kernel_rfl) (by kernel_rfl) (fun _ _ _ h => h) (Or.inr ⟨by rfl, rfl⟩) (by assumption) ?_; (try simp only [Act.put, List.setIfInBounds_toArray, List.set_cons_zero, List.set_cons_succ]); refine wpAnyH_take (i := 10) (v := undef) (by simp only [List.getElem?_toArray, List.getElem?_cons_zero, List.getElem?_cons_succ]; exact rfl) (by kernel_rfl) (by kernel_rfl) (by kernel_rfl) (fun _ _ _ h => h) (Or.inr ⟨by rfl, rfl⟩) (by assumption) ?_; (try simp only [Act.put, List.setIfInBounds_toArray, List.set_cons_zero, List.set_cons_succ]); refine wpAnyH_take (i := 11) (v := undef) (by simp only [List.getElem?_toArray, List.getElem?_cons_zero, List.getElem?_cons_succ]; exact rfl) (by kernel_rfl) (by kernel_rfl) (by kernel_rfl) (fun _ _ _ h => h) (Or.inr ⟨by rfl, rfl⟩) (by assumption) ?_; (try simp only [Act.put, List.setIfInBounds_toArray, List.set_cons_zero, List.set_cons_succ]); refine wpAnyH_take (i := 12) (v := undef) (by simp only [List.getElem?_toArray, List.getElem?_cons_zero, List.getElem?_cons_succ]; exact rfl) (by kernel_rfl) (by kernel_rfl) (by kernel_rfl) (fun _ _ _ h => h) (Or.inr ⟨by rfl, rfl⟩) (by assumption) ?_; (try simp only [Act.put, List.setIfInBounds_toArray, List.set_cons_zero, List.set_cons_succ]); refine wpAnyH_take (i := 13) (v := ?q1xv13) (by simp only [List.getElem?_toArray, List.getElem?_cons_zero, List.getElem?_cons_succ]; exact rfl) (by kernel_rfl) (by kernel_rfl) (by kernel_rfl) (fun _ _ _ h => h) (Or.inl ⟨by rfl, ?q1xy13⟩) (by assumption) ?_; (case q1xy13 => (intro w hSw; (try dsimp only at hSw); go_simp; (try with_reducible rfl))); (try simp only [Act.put, List.setIfInBounds_toArray, List.set_cons_zero, List.set_cons_succ]); refine wpAnyH_done (by kernel_rfl) ?_ _; refine NoPanic.normal ?_)
                go_wp2_with fail
                exact ⟨⟨k + 1, by omega, by go_num, by rw [HF.out]; exact WoRow_next HB2.out.drew HN2.out HAC.out (Or.inl (List.length_eq_zero_iff.1 HA.out)) HC.out (own_keep HO2.out (Below.drew (Below.refl _ _)))⟩, by simp [intOf]; omega⟩
              · obtain ⟨p, A', rfl⟩ : ∃ p A', A2 = A' ++ [p] := by
                  have := HA.out
                  rcases List.eq_nil_or_concat A2 with rfl | ⟨A', p, rfl⟩
                  · simp at this
                  · exact ⟨p, A', by simp⟩
                have hA' : A'.length = q := by have := HA.out; simpa using this
                have e : A' ++ [p] ++ y :: C = A' ++ p :: y :: C := by simp
                rw [e] at hown HO2
                have e0 := flat_at0 A' (y :: C) p hA'
                have e1 := flat_at0 (A' ++ [p]) C y (k := q + 1) (by simpa using hA')
                rw [e] at e1
                have hlen : ((A' ++ p :: y :: C).map Tm.cells).flatten.length = (N + 1) * 2 := hown.1
                have d0 := (hown.cellAt (q * 2) (by omega)).trans e0.1
                have d1 := (hown.cellAt (q * 2 + 1) (by omega)).trans e0.2
                have d2 := (hown.cellAt ((q + 1) * 2) (by omega)).trans e1.1
                have d3 := (hown.cellAt ((q + 1) * 2 + 1) (by omega)).trans e1.2
                have gl : g < wr.heap.size := (hown.lt _ rfl).2
                have gB := (hown.lt _ rfl).1
                have HA' := Lib.hid hA'
                obtain ⟨r, hr⟩ : ∃ r, r = tmA y p := ⟨_, rfl⟩
                have HR := Lib.hid hr
                clear hown e e0 e1 hlen hA' hr
                obtain ⟨xh, xb⟩ := y
                obtain ⟨ph, pb⟩ := p
                simp only at d0 d1 d2 d3
                have hq1 : (0 : Int) < (q : Int) + 1 := by omega
                have hq2 : (q : Int) + 1 < (N : Int) + 1 := by omega
                have hq3 : (q : Int) < (N : Int) + 1 := by omega
                have hq0 : (0 : Int) ≤ (q : Int) := by omega
                have hq4 : (0 : Int) ≤ (q : Int) + 1 := by omega
                have hq5 : ((q : Int) + 1).toNat = q + 1 := by omega
                have hq6 : IntKind.i64.wrap (q : Int) = (q : Int) := IntWalk.i64_in _ (by omega)
                go_wp2_with fail
                (refine wp_region_noPanic ?_; refine wp_region_held_drew (S := fun w' => w'.cell? ⟨g, q * 2, none⟩ = some (.int .i64 ph) ∧ w'.cell? ⟨g, q * 2 + 1, none⟩ = some (.int .i64 pb) ∧ w'.cell? ⟨g, (q + 1) * 2, none⟩ = some (.int .i64 xh) ∧ w'.cell? ⟨g, (q + 1) * 2 + 1, none⟩ = some (.int .i64 xb)) (by kernel_rfl) ?q2xb (fun hHeld => ?_); (case q2xb => ((try dsimp only); ((go_split_ands; (try dsimp only); (repeat' apply And.intro); all_goals (repeat (first | with_reducible assumption | (with_reducible refine (cell_set_ne ?_).trans ?_; omega) | (with_reducible refine cell_alloc _ ?_) | (with_reducible refine cell_drew ?_) | (with_reducible refine cell_below' hb2 ?_))))))); refine wpAnyH_take (i := 0) (v := ?q2xv0) (by simp only [List.getElem?_toArray, List.getElem?_cons_zero]; exact rfl) (by kernel_rfl) (by kernel_rfl) (by kernel_rfl) (fun _ _ _ h => h) (Or.inl ⟨by rfl, ?q2xy0⟩) (by assumption) ?_; (case q2xy0 => (intro w hSw; (try dsimp only at hSw); go_simp; (try with_reducible rfl))); (try simp only [Act.put, List.setIfInBounds_toArray, List.set_cons_zero, List.set_cons_succ]); refine wpAnyH_take (i := 1) (v := ?q2xv1) (by simp only [List.getElem?_toArray, List.getElem?_cons_zero, List.getElem?_cons_succ]; exact rfl) (by kernel_rfl) (by kernel_rfl) (by kernel_rfl) (fun _ _ _ h => h) (Or.inl ⟨by rfl, ?q2xy1⟩) (by assumption) ?_; (case q2xy1 => (intro w hSw; (try dsimp only at hSw); go_simp; (try with_reducible rfl))); (try simp only [Act.put, List.setIfInBounds_toArray, List.set_cons_zero, List.set_cons_succ]); refine wpAnyH_take (i := 2) (v := ?q2xv2) (by simp only [List.getElem?_toArray, List.getElem?_cons_zero, List.getElem?_cons_succ]; exact rfl) (by kernel_rfl) (by kernel_rfl) (by kernel_rfl) (fun _ _ _ h => h) (Or.inl ⟨by rfl, ?q2xy2⟩) (by assumption) ?_; (case q2xy2 => (intro w hSw; (try dsimp only at hSw); go_simp; (try with_reducible rfl))); (try simp only [Act.put, List.setIfInBounds_toArray, List.set_cons_zero, List.set_cons_succ]); refine wpAnyH_take (i := 3) (v := ?q2xv3) (by simp only [List.getElem?_toArray, List.getElem?_cons_zero, List.getElem?_cons_succ]; exact rfl) (by kernel_rfl) (by kernel_rfl) (by kernel_rfl) (fun _ _ _ h => h) (Or.inl ⟨by rfl, ?q2xy3⟩) (by assumption) ?_; (case q2xy3 => (intro w hSw; (try dsimp only at hSw); go_simp; (try with_reducible rfl))); (try simp only [Act.put, List.setIfInBounds_toArray, List.set_cons_zero, List.set_cons_succ]); refine wpAnyH_take (i := 4) (v := ?q2xv4) (by simp only [List.getElem?_toArray, List.getElem?_cons_zero, List.getElem?_cons_succ]; exact rfl) (by kernel_rfl) (by kernel_rfl) (by kernel_rfl) (fun _ _ _ h => h) (Or.inl ⟨by rfl, ?q2xy4⟩) (by assumption) ?_; (case q2xy4 => (intro w hSw; (try dsimp only at hSw); go_simp; (try with_reducible rfl))); (try simp only [Act.put, List.setIfInBounds_toArray, List.set_cons_zero, List.set_cons_succ]); refine wpAnyH_take (i := 5) (v := ?q2xv5) (by simp only [List.getElem?_toArray, List.getElem?_cons_zero, List.getElem?_cons_succ]; exact rfl) (by kernel_rfl) (by kernel_rfl) (by kernel_rfl) (fun _ _ _ h => h) (Or.inl ⟨by rfl, ?q2xy5⟩) (by assumption) ?_; (case q2xy5 => (intro w hSw; (try dsimp only at hSw); go_simp; (try with_reducible rfl))); (try simp only [Act.put, List.setIfInBounds_toArray, List.set_cons_zero, List.set_cons_succ]); refine wpAnyH_take (i := 6) (v := ?q2xv6) (by simp only [List.getElem?_toArray, List.getElem?_cons_zero, List.getElem?_cons_succ]; exact rfl) (by kernel_rfl) (by kernel_rfl) (by kernel_rfl) (fun _ _ _ h => h) (Or.inl ⟨by rfl, ?q2xy6⟩) (by assumption) ?_; (case q2xy6 => (intro w hSw; (try dsimp only at hSw); go_simp; (try with_reducible rfl))); (try simp only [Act.put, List.setIfInBounds_toArray, List.set_cons_zero, List.set_cons_succ]); refine wpAnyH_take (i := 7) (v := ?q2xv7) (by simp only [List.getElem?_toArray, List.getElem?_cons_zero, List.getElem?_cons_succ]; exact rfl) (by kernel_rfl) (by kernel_rfl) (by kernel_rfl) (fun _ _ _ h => h) (Or.inl ⟨by rfl, ?q2xy7⟩) (by assumption) ?_; (case q2xy7 => (intro w hSw; (try dsimp only at hSw); go_simp; (try with_reducible rfl))); (try simp only [Act.put, List.setIfInBounds_toArray, List.set_cons_zero, List.set_cons_succ]); refine wpAnyH_take (i := 8) (v := ?q2xv8) (by simp only [List.getElem?_toArray, List.getElem?_cons_zero, List.getElem?_cons_succ]; exact rfl) (by kernel_rfl) (by kernel_rfl) (by kernel_rfl) (fun _ _ _ h => h) (Or.inl ⟨by rfl, ?q2xy8⟩) (by assumption) ?_; (case q2xy8 => (intro w hSw; (try dsimp only at hSw); go_simp; (try with_reducible rfl))); (try simp only [Act.put, List.setIfInBounds_toArray, List.set_cons_zero, List.set_cons_succ]); refine wpAnyH_take (i := 9) (v := ?q2xv9) (by simp only [List.getElem?_toArray, List.getElem?_cons_zero, List.getElem?_cons_succ]; exact rfl) (by kernel_rfl) (by kernel_rfl) (by kernel_rfl) (fun _ _ _ h => h) (Or.inl ⟨by rfl, ?q2xy9⟩) (by assumption) ?_; (case q2xy9 => (intro w hSw; (try dsimp only at hSw); go_simp; (try with_reducible rfl))); (try simp only [Act.put, List.setIfInBounds_toArray, List.set_cons_zero, List.set_cons_succ]); refine wpAnyH_take (i := 10) (v := ?q2xv10) (by simp only [List.getElem?_toArray, List.getElem?_cons_zero, List.getElem?_cons_succ]; exact rfl) (by kernel_rfl) (by kernel_rfl) (by kernel_rfl) (fun _ _ _ h => h) (Or.inl ⟨by rfl, ?q2xy10⟩) (by assumption) ?_; (case q2xy10 => (intro w hSw; (try dsimp only at hSw); go_simp; (try with_reducible rfl))); (try simp only [Act.put, List.setIfInBounds_toArray, List.set_cons_zero, List.set_cons_succ]); refine wpAnyH_take (i := 11) (v := ?q2xv11) (by simp only [List.getElem?_toArray, List.getElem?_cons_zero, List.getElem?_cons_succ]; exact rfl) (by kernel_rfl) (by kernel_rfl) (by kernel_rfl) (fun _ _ _ h => h) (Or.inl ⟨by rfl, ?q2xy11⟩) (by assumption) ?_; (case q2xy11 => (intro w hSw; (try dsimp only at hSw); go_simp; (try with_reducible rfl))); (try simp only [Act.put, List.setIfInBounds_toArray, List.set_cons_zero, List.set_cons_succ]); refine wpAnyH_ready (rs := [12]) (by kernel_rfl) (by simp) ?_; refine AllReadyH.cons (by simp only [List.getElem?_toArray, List.getElem?_cons_zero, List.getElem?_cons_succ]; exact rfl) (fun K hK => ?_) AllReadyH.nil; go_simp; (go_at_call 35; refine (ref_aheadR ⟨xh, xb⟩ ⟨ph, pb⟩ _ r HR.out).mono ?_; rintro e w2 ⟨rfl, hb2⟩); (try go_wp2_with fail); refine hK.out _ _ ?q2xs12 (fun hHeld => ?_); (case q2xs12 => ((try dsimp only); ((go_split_ands; (try dsimp only); (repeat' apply And.intro); all_goals (repeat (first | with_reducible assumption | (with_reducible refine (cell_set_ne ?_).trans ?_; omega) | (with_reducible refine cell_alloc _ ?_) | (with_reducible refine cell_drew ?_) | (with_reducible refine cell_below' hb2 ?_))))))); clear hK K; (try simp only [Act.put, List.setIfInBounds_toArray, List.set_cons_zero, List.set_cons_succ]); refine wpAnyH_take (i := 13) (v := ?q2xv13) (by simp only [List.getElem?_toArray, List.getElem?_cons_zero, List.getElem?_cons_succ]; exact rfl) (by kernel_rfl) (by kernel_rfl) (by kernel_rfl) (fun _ _ _ h => h) (Or.inl ⟨by rfl, ?q2xy13⟩) (by assumption) ?_; (case q2xy13 => (intro w hSw; (try dsimp only at hSw); go_simp; (try with_reducible rfl))); (try simp only [Act.put, List.setIfInBounds_toArray, List.set_cons_zero, List.set_cons_succ]); refine wpAnyH_done (by kernel_rfl) ?_ _; refine NoPanic.normal ?_)
                clear d0 d1 d2 d3
                have hbD : Below wr.heap.size wr w2 := (Below_drewN (n := 1) (Below.refl wr.heap.size wr)).trans (hb2.mono (by simp))
                have HB3 := Lib.hid (HB2.out.trans (hbD.mono (by omega)))
                have hz3 := hbD.size
                have gl2 : g < w2.heap.size := by omega
                have HO3 := Lib.hid (own_keep HO2.out hbD)
                have fz : ∀ m, w2.frozen? ⟨g, m, none⟩ = false := fun m => HO3.out.frozenAt m
                have e0 := flat_at0 A' (⟨xh, xb⟩ :: C) ⟨ph, pb⟩ HA'.out
                have e1 := flat_at0 (A' ++ [⟨ph, pb⟩]) C ⟨xh, xb⟩ (k := q + 1) (by simpa using HA'.out)
                rw [show A' ++ [⟨ph, pb⟩] ++ ⟨xh, xb⟩ :: C = A' ++ ⟨ph, pb⟩ :: ⟨xh, xb⟩ :: C by simp] at e1
                have hlen : ((A' ++ ⟨ph, pb⟩ :: ⟨xh, xb⟩ :: C).map Tm.cells).flatten.length = (N + 1) * 2 := HO3.out.1
                have d0 := (HO3.out.cellAt (q * 2) (by omega)).trans e0.1
                have d1 := (HO3.out.cellAt (q * 2 + 1) (by omega)).trans e0.2
                have d2 := (HO3.out.cellAt ((q + 1) * 2) (by omega)).trans e1.1
                have d3 := (HO3.out.cellAt ((q + 1) * 2 + 1) (by omega)).trans e1.2
                have i0 := fz (q * 2)
                have i1 := fz (q * 2 + 1)
                have i2 := fz ((q + 1) * 2)
                have i3 := fz ((q + 1) * 2 + 1)
                simp only at d0 d1 d2 d3
                clear fz e0 e1 hlen hbD hb2 HO2 HB2 HB Y0 Y1 HO
                cases r with
                | false =>
                  go_wp2_with fail
                  exact ⟨⟨k + 1, by omega, by go_num, by rw [HF.out]; exact WoRow_next HB3.out HN2.out HAC.out (Or.inr (by simpa using HR.out.symm)) HC.out (by simpa using HO3.out)⟩, by simp [intOf]; omega⟩
                | true =>
                  go_wp2_with fail
                  go_roundw
                  case measure => simp [intOf]
                  case rel =>
                    refine ⟨q, by omega, rfl, (((((HB3.out.setCell (by simp; omega) _).setCell (by simp; omega) _).setCell (by simp; omega) _).setCell (by simp; omega) _).alloc (by simp; omega) _), A', ⟨ph, pb⟩ :: C, HA'.out, by simpa using HAC.out, ?_, ?_⟩
                    · intro z hz
                      rcases List.mem_cons.1 hz with rfl | hz
                      · exact HR.out.symm
                      · exact HC.out z hz
                    · rw [← flat_swap A' C ⟨ph, pb⟩ ⟨xh, xb⟩ HA'.out]
                      exact ((((HO3.out.stored _ _).1.stored _ _).1.stored _ _).1.stored _ _).1.alloc _
end Go.Proofs.Ythgfiadfpgfjdaa
