/- lines.event walked. -/
import Derived.Test.YtnebijdifemicaaDoorAtx
import Derived.Test.YtnebijdifemicaaDoorShw
namespace Go.Proofs.YtnebijdifemicaaDoor
open Go.RowKit
theorem prog_lnums0 {w : World} {p : Nat} (x0 : w.cell? ⟨p, 0, none⟩ = some (.int .i64 0)) : Calls Tryd.prog 23 #[.pointer (some ⟨p, 0, none⟩)] w fun e w' => e = .returned (.slice none 0 0) ∧ w' = w := by
  go_enter Tryd.func23, Tryd.ntmps23
  go_wp2
  go_ret
  exact ⟨rfl, rfl⟩
def W8 : Array Value := ((List.range 8).map fun k => Value.string ⟨(wordB k).toArray⟩).toArray
theorem LnW.blk {w : World} (h : LnW w) : ∃ t fr, w.heap[0]? = some (.cells W8 t fr) := by
  have h1 := h.wd
  unfold World.var? at h1
  rw [words_g] at h1
  simp only [Option.bind_some] at h1
  cases hh : w.heap[0]? with
  | none => rw [hh] at h1; cases h1
  | some o =>
    rw [hh] at h1
    cases o with
    | cells cs t fr => exact ⟨t, fr, by simp only at h1; rw [Option.some.inj h1]; rfl⟩
    | _ => cases h1
theorem W8_get {j : Nat} (h : j < 8) : W8[j]? = some (.string ⟨(wordB j).toArray⟩) := by
  unfold W8
  simp [h]
theorem run_index_w8 {WA : Array Value} {k : Nat} {x : Value} (hk : k < 8) (h : WA[k]? = some x) : ∀ W, (Instr.index 57 (.agg WA) (.int .i64 (k : Int))).run Tryd.prog W = .ok x W := by
  intro W
  have h1 : 0 ≤ (k : Int) ∧ (k : Int) < 8 := by omega
  simp [Instr.index, run_underlying Tryd.underlying57, asIntOf, h1, hk, part, h, go_sem]
theorem kdUp_le : ∀ (n : Nat) (w : List UInt8), 0 ≤ kdUp n w ∧ (kdUp n w < n ∨ n = 0)
  | 0, _ => ⟨Int.le_refl _, Or.inr rfl⟩
  | n + 1, w => by
    have ih := kdUp_le n w
    unfold kdUp
    split
    · exact ⟨by omega, Or.inl (by omega)⟩
    · exact ⟨ih.1, Or.inl (by rcases ih.2 with h | h; omega; subst h; simp [kdUp])⟩
/-- Two strings that are not the same, in the forms that a walk may ask. -/
theorem str_ne {a b : List UInt8} (h : a ≠ b) : (¬ (⟨a.toArray⟩ : ByteArray) = ⟨b.toArray⟩) ∧ (¬ a.toArray = b.toArray) ∧ (a == b) = false ∧ (a.toArray == b.toArray) = false := by
  have h1 : ¬ (⟨a.toArray⟩ : ByteArray) = ⟨b.toArray⟩ := fun e => h (by have := congrArg (fun x : ByteArray => x.data.toList) e; simpa using this)
  refine ⟨h1, by simpa using h, by simpa using h, by simpa using h⟩
/-- What stands while a line is read. -/
structure EvRel (w : World) (b : Nat) (PS : Array Value) (x : Ev) (wr : World) : Prop where
  two : w.heap.size + 1 < b
  bel : Below w.heap.size w wr
  res : wr.heap[w.heap.size]? = some (.cells (Ev.cells Ev.zero).toArray 37 (0, 0))
  ev : wr.heap[w.heap.size + 1]? = some (.cells (Ev.cells x).toArray 37 (0, 0))
  ps : wr.heap[b]? = some (.cells PS 9 (0, 0))
theorem EvRel.below {w : World} {b : Nat} {PS : Array Value} {x : Ev} {wr w' : World} (h : EvRel w b PS x wr) (hb : Below wr.heap.size wr w') : EvRel w b PS x w' :=
  ⟨h.two, h.bel.trans (hb.mono h.bel.size), blk_below hb h.res (lt_of_block h.res), blk_below hb h.ev (lt_of_block h.ev), blk_below hb h.ps (lt_of_block h.ps)⟩
theorem EvRel.set {w : World} {b : Nat} {PS : Array Value} {x x' : Ev} {wr : World} (h : EvRel w b PS x wr) {j : Nat} {v : Value} (hx : (Ev.cells x').toArray = (Ev.cells x).toArray.setIfInBounds j v) : EvRel w b PS x' (wr.setCell ⟨w.heap.size + 1, j, none⟩ v) :=
  ⟨h.two, h.bel.setCell (p := ⟨w.heap.size + 1, j, none⟩) (Nat.le_succ _) _, (Below.heap_setCell _ _ _ _ (show w.heap.size ≠ w.heap.size + 1 by omega)).trans h.res, by rw [hx]; exact blk_set h.ev v, (Below.heap_setCell _ _ _ _ (show b ≠ w.heap.size + 1 by have := h.two; omega)).trans h.ps⟩
theorem prog_lnums_any {w : World} {e : Ev} {p : Nat} (hp : w.heap[p]? = some (.cells (Ev.cells e).toArray 37 (0, 0))) (hk : 0 ≤ e.kind ∧ e.kind ≤ 7) : Calls Tryd.prog 23 #[.pointer (some ⟨p, 0, none⟩)] w (NumPost w p e.kind) := by
  by_cases h : e.kind = 0
  · refine (prog_lnums0 (w := w) (p := p) (by rw [blk_cell hp 0, ← h]; rfl)).mono ?_
    rintro e' w' ⟨rfl, rfl⟩
    rw [h]
    exact ⟨none, 0, rfl, Below.refl _ _, fun h => absurd rfl h⟩
  · exact prog_lnums hp (by omega)
theorem evIx_mem {k : Int} {j : Nat} (h : j ∈ evIx k) : j = 1 ∨ j = 2 ∨ j = 3 ∨ j = 5 ∨ j = 6 ∨ j = 7 := by
  unfold evIx at h
  split at h
  · simp at h; omega
  · split at h
    · simp at h; omega
    · split at h
      · simp at h; omega
      · split at h
        · simp at h; omega
        · simp at h
theorem setF_cells {x : Ev} {j : Nat} {v : Int} (h : j = 1 ∨ j = 2 ∨ j = 3 ∨ j = 5 ∨ j = 6 ∨ j = 7) : (Ev.cells (setF x j v)).toArray = (Ev.cells x).toArray.setIfInBounds j (.int .i64 v) := by
  rcases h with rfl | rfl | rfl | rfl | rfl | rfl <;> rfl
theorem num_cell {x : Ev} {j : Nat} (h : j = 1 ∨ j = 2 ∨ j = 3 ∨ j = 5 ∨ j = 6 ∨ j = 7) : ∃ v, (Ev.cells x).toArray[j]? = some (.int .i64 v) := by
  rcases h with rfl | rfl | rfl | rfl | rfl | rfl <;> exact ⟨_, rfl⟩
theorem evIx_len3 (k : Int) : (evIx k).length ≤ 3 := by
  unfold evIx
  split
  · simp
  · split
    · simp
    · split
      · simp
      · split <;> simp
theorem sub_step {a b c : Nat} (h : b < a) (e : c = b + 1) : a - c < a - b := by omega
theorem name_q {Q : World → Prop} (w : World) (h : ∀ w', w' = w → Q w') : Q w := h w rfl
set_option maxHeartbeats 8000000 in
set_option maxRecDepth 100000 in
theorem prog_event {s : List UInt8} {w : World} (hx : LnX w) (hs : s.length ≤ 200000) : Calls Tryd.prog 18 #[.string ⟨s.toArray⟩] w fun e w' => e = .returned (.agg (Ev.cells (evParse (spl (trimS s)))).toArray) ∧ Below w.heap.size w w' := by
  have ht := trimS_len s
  obtain ⟨t, hte⟩ : ∃ t, t = trimS s := ⟨_, rfl⟩
  have HTr := Lib.hid (fun w => prog_Trim hs w)
  rw [← hte] at HTr ht ⊢
  have hn := spl_len t
  have hm := spl_mem t
  have hne := spl_ne t
  have HSp := Lib.hid (fun w (h : LnX w) (b : Nat) (hb : b = w.heap.size) => hb ▸ prog_Split (t := t) h (by omega))
  obtain ⟨L, hL⟩ : ∃ L, L = spl t := ⟨_, rfl⟩
  rw [← hL] at hn hm hne HSp ⊢
  obtain ⟨PS, hPS⟩ : ∃ PS, PS = strsV L := ⟨_, rfl⟩
  simp only [← hPS] at HSp
  have HX := Lib.hid hx
  have HM := Lib.hid (fun p hp => Nat.le_trans (hm p hp) (Nat.le_trans ht hs))
  have hN : L.length ≤ 200001 := by omega
  have hN0 : 0 < L.length := List.length_pos_iff.2 hne
  have HPS := Lib.hid hPS
  have HPc : Hid (∀ i, i < L.length → PS[i]? = some (.string ⟨(L.getD i []).toArray⟩)) := by
    intro i hi
    rw [hPS]
    unfold strsV
    simp [List.getD, hi]
  obtain ⟨b, hb⟩ : ∃ b, b = w.heap.size + 1 + 1 := ⟨_, rfl⟩
  have hnW := Lib.hid (show (Tryd.prog.info? 57).map (·.size) = some W8.size by kernel_rfl)
  obtain ⟨tw, fw, hW8⟩ := hx.ln.blk
  have h0w : 0 < w.heap.size := hx.ln.pos
  have HW8 := Lib.hid hW8
  have HW8g := Lib.hid (fun j (h : j < 8) => W8_get h)
  obtain ⟨WA, hWA⟩ : ∃ A, A = W8 := ⟨_, rfl⟩
  rw [← hWA] at hnW HW8
  simp only [← hWA] at HW8g
  clear hx hm hte hL hne ht hs hn hPS hW8 hWA
  go_enter Tryd.func18, Tryd.ntmps18
  go_wp2_with fail
  refine (HTr.out _).mono ?_
  rintro e w1 ⟨rfl, rfl⟩
  go_wp2_with fail
  refine (HSp.out _ (HX.out.below (((Below.refl _ _).alloc (Nat.le_refl _) _).alloc (by simp) _)) b (by rw [hb]; simp)).mono ?_
  rintro e w1 ⟨rfl, hw1⟩
  have hR : EvRel w b PS Ev.zero w1 := by
    rw [hw1]
    refine ⟨by omega, (by repeat (first | (with_reducible exact Below.refl _ _) | (with_reducible assumption) | (with_reducible refine Below.drew ?_) | (with_reducible refine Below_drewN ?_) | (with_reducible refine Below.alloc ?_ (by first | omega | (simp; done) | (simp; omega)) _) | (with_reducible refine Below.setCell ?_ (by first | omega | (simp; done) | (simp; omega)) _) | (with_reducible refine Below.trans ?_ (Below.mono (by assumption) (by first | omega | (simp; done) | (simp; omega)))))), ?_, ?_, ?_⟩
    · exact (Below.heap_alloc _ _ _ (by simp; omega)).trans ((Below.heap_alloc _ _ _ (by simp)).trans (heap_at _ rfl))
    · exact (Below.heap_alloc _ _ _ (by simp)).trans (heap_at _ (by simp))
    · exact heap_at _ (by rw [hb]; simp)
  have HR := Lib.hid hR
  have HW81 := Lib.hid (blk_below hR.bel HW8.out h0w)
  have HBb := Lib.hid hb
  clear hw1 hR hb
  go_wp2_with (refine wpList_load_row rfl 57 (.global 0) rfl 0 rfl tw WA fw _ HW81.out Tryd.underlying57 rfl hnW.out ?_)
  obtain ⟨l0, hl0⟩ : ∃ l0, l0 = L.getD 0 [] := ⟨_, rfl⟩
  have HL0 := Lib.hid hl0
  clear hl0
  go_loopw [13] (fun i wr => ∃ j : Nat, j ≤ 8 ∧ i = .int .i64 j ∧ EvRel w b PS ⟨kdUp j l0, 0, 0, 0, false, 0, 0, 0⟩ wr) (fun i _ => 8 - (intOf i).toNat)
  case atStart => exact ⟨0, Nat.zero_le _, rfl, HR.out⟩
  case round =>
    obtain ⟨j, hj, rfl, hRr⟩ := hrel
    have HRr := Lib.hid hRr
    clear hRr
    have lp := lt_of_block HRr.out.ps
    rcases (show j = 0 ∨ (0 < j ∧ j < 8 ∧ wordB j = l0) ∨ (0 < j ∧ j < 8 ∧ wordB j ≠ l0) ∨ j = 8 from by by_cases h1 : j = 0; exact Or.inl h1; by_cases h2 : j = 8; exact Or.inr (Or.inr (Or.inr h2)); by_cases h : wordB j = l0; exact Or.inr (Or.inl ⟨by omega, by omega, h⟩); exact Or.inr (Or.inr (Or.inl ⟨by omega, by omega, h⟩))) with rfl | ⟨h1, h2, h3⟩ | ⟨h1, h2, h3⟩ | rfl
    · have g0 : ∀ W, (Instr.index 57 (.agg WA) (.int .i64 0)).run Tryd.prog W = .ok (.string ⟨(wordB 0).toArray⟩) W := run_index_w8 (k := 0) (by decide) (HW8g.out 0 (by decide))
      go_wp2
      go_roundw
      case rel => exact ⟨1, by omega, by go_num, HRr.out⟩
      case measure => simp [intOf]
    · have h2' : (j : Int) < 8 := by omega
      have j0 : (0 : Int) ≤ (j : Int) := by omega
      have j1 : (0 : Int) < (j : Int) := by omega
      have g00 := HW8g.out j h2
      have c0 : wr.cell? ⟨b, 0, none⟩ = some (.string ⟨l0.toArray⟩) := by rw [blk_cell HRr.out.ps 0, HL0.out]; exact HPc.out 0 hN0
      rw [h3] at g00
      have g0 := run_index_w8 h2 g00
      clear g00
      have HK : Hid (kdUp (j + 1) l0 = (j : Int)) := by show kdUp (j + 1) l0 = _; rw [kdUp, if_pos ⟨h1, h3⟩]
      clear h3
      have d0 := blk_cell HRr.out.ev 0
      have f0 : wr.frozen? ⟨w.heap.size + 1, 0, none⟩ = false := blk_free HRr.out.ev 0
      simp [Ev.cells] at d0
      go_wp2
      go_roundw
      case rel => exact ⟨j + 1, by omega, by go_num, by rw [HK.out]; exact HRr.out.set rfl⟩
      case measure => simp [intOf]; omega
    · have h2' : (j : Int) < 8 := by omega
      have j0 : (0 : Int) ≤ (j : Int) := by omega
      have j1 : (0 : Int) < (j : Int) := by omega
      have g00 := HW8g.out j h2
      have c0 : wr.cell? ⟨b, 0, none⟩ = some (.string ⟨l0.toArray⟩) := by rw [blk_cell HRr.out.ps 0, HL0.out]; exact HPc.out 0 hN0
      obtain ⟨wj, hwj⟩ : ∃ x, x = wordB j := ⟨_, rfl⟩
      rw [← hwj] at g00 h3
      have g0 := run_index_w8 h2 g00
      have hne2 : ¬ wj = l0 := h3
      obtain ⟨n2, n3, n4, n5⟩ := str_ne h3
      have HK : Hid (kdUp (j + 1) l0 = kdUp j l0) := by show kdUp (j + 1) l0 = _; conv => lhs; rw [kdUp, if_neg (by rintro ⟨_, e⟩; rw [← hwj] at e; exact h3 e)]
      clear g00 h3 hwj
      go_wp2
      go_roundw
      case rel => exact ⟨j + 1, by omega, by go_num, by rw [HK.out]; exact HRr.out⟩
      case measure => simp [intOf]; omega
    · have hge : ¬ (8 : Int) < (8 : Int) := by omega
      have hkd := kdUp_le 8 l0
      obtain ⟨kd, hkk⟩ : ∃ k, k = kdUp 8 l0 := ⟨_, rfl⟩
      rw [← hkk] at hkd
      have hRr := HRr.out
      rw [← hkk] at hRr
      have HR8 := Lib.hid hRr
      have HKd := Lib.hid hkk
      clear hRr hkk HRr
      have d0 := blk_cell HR8.out.ev 0
      have d4 := blk_cell HR8.out.ev 4
      have f4 : wr.frozen? ⟨w.heap.size + 1, 4, none⟩ = false := blk_free HR8.out.ev 4
      simp [Ev.cells] at d0 d4
      obtain ⟨lz, hlz⟩ : ∃ l, l = L.getD (L.length - 1) [] := ⟨_, rfl⟩
      have hcz : wr.cell? ⟨b, L.length - 1, none⟩ = some (.string ⟨lz.toArray⟩) := by rw [blk_cell HR8.out.ps, hlz]; exact HPc.out _ (by omega)
      have hz1 : IntKind.i64.wrap ((L.length : Int) - 1) = ((L.length - 1 : Nat) : Int) := by rw [IntKind.wrap_i64]; omega
      have hz2 : (0 : Int) ≤ ((L.length - 1 : Nat) : Int) := by omega
      have hz3 : ((L.length - 1 : Nat) : Int) < (L.length : Int) := by omega
      have HLz := Lib.hid hlz
      clear hlz
      obtain ⟨gd, hgd⟩ : ∃ g, g = (decide (kd = 4) && decide (lz = [103, 111, 111, 100])) := ⟨_, rfl⟩
      have HGd := Lib.hid hgd
      have hk4or : (kd = 4 ∧ gd = (lz == [103, 111, 111, 100])) ∨ (kd ≠ 4 ∧ gd = false) := by
        by_cases h1 : kd = 4
        · exact Or.inl ⟨h1, by rw [hgd, Bool.eq_iff_iff]; simp [h1]⟩
        · exact Or.inr ⟨h1, by rw [hgd]; simp [h1]⟩
      clear hgd
      rcases hk4or with ⟨h1, h2⟩ | ⟨h1, h2⟩
      have k4 : (kd == 4) = true := by simp [h1]
      have HG2 := Lib.hid h2
      clear h1 h2
      go_wp2_with fail
      rotate_left
      have k4 : (kd == 4) = false := by simp [h1]
      have HG2 := Lib.hid h2
      clear h1 h2
      go_wp2_with fail
      rotate_left
      all_goals (
        rw [← HG2.out]
        have hR1 : EvRel w b PS ⟨kd, 0, 0, 0, gd, 0, 0, 0⟩ (wr.setCell ⟨w.heap.size + 1, 4, none⟩ (.bool gd)) := HR8.out.set (j := 4) rfl
        obtain ⟨W1, hW1⟩ : ∃ W1, W1 = wr.setCell ⟨w.heap.size + 1, 4, none⟩ (.bool gd) := ⟨_, rfl⟩
        rw [← hW1] at hR1 ⊢
        clear hW1 d0 d4 f4 hcz
        have hx1 : Calls Tryd.prog 23 #[.pointer (some ⟨w.heap.size + 1, 0, none⟩)] W1 (NumPost W1 (w.heap.size + 1) kd) := prog_lnums_any hR1.ev (by show 0 ≤ kd ∧ kd ≤ 7; omega)
        refine hx1.mono ?_
        clear hx1
        rintro e3 w3 ⟨a3, c3, rfl, hb3, hg3⟩
        have hR3 := hR1.below hb3
        obtain ⟨nI, hnI⟩ : ∃ n, n = (evIx kd).length := ⟨_, rfl⟩
        have hn3 : nI ≤ 3 := by rw [hnI]; exact evIx_len3 kd
        have hgx : nI ≠ 0 → ∃ g, a3 = some ⟨g, 0, none⟩ ∧ w.heap.size + 1 < g ∧ g < w3.heap.size ∧ w3.heap[g]? = some (.cells ((evIx kd).map fun j => Value.pointer (some ⟨w.heap.size + 1, j, none⟩)).toArray 53 (0, 0)) := by
          intro h
          obtain ⟨g, q1, q2, q3⟩ := hg3 (by intro e; apply h; rw [hnI]; show (evIx kd).length = 0; rw [show evIx kd = [] from e]; rfl)
          exact ⟨g, q1, Nat.lt_of_lt_of_le (lt_of_block hR1.ev) q2, lt_of_block q3, q3⟩
        have HGx := Lib.hid hgx
        have HR3 := Lib.hid hR3
        have HNI := Lib.hid hnI
        rw [← hnI]
        clear hb3 hg3 hR3 hgx hnI hR1 HR8
        obtain ⟨X0, hX0⟩ : ∃ x : Ev, x = ⟨kd, 0, 0, 0, gd, 0, 0, 0⟩ := ⟨_, rfl⟩
        have HX0 := Lib.hid hX0
        rw [← hX0] at HR3
        obtain ⟨F, hF⟩ : ∃ F : Nat → Ev, F = evSt L (evIx kd) X0 := ⟨_, rfl⟩
        have HF := Lib.hid hF
        have F0 : F 0 = X0 := by rw [hF]; rfl
        rw [← F0] at HR3
        clear hX0 hF F0
        go_wp2
        go_loopw [44] (fun i wr => ∃ j : Nat, j ≤ nI ∧ i = .int .i64 j ∧ EvRel w b PS (F j) wr ∧ (∀ g, w.heap.size + 1 < g → g < w3.heap.size → wr.heap[g]? = w3.heap[g]?) ∧ w3.heap.size ≤ wr.heap.size) (fun i _ => nI - (intOf i).toNat)
        case atStart => exact ⟨0, Nat.zero_le _, rfl, HR3.out, fun _ _ _ => rfl, Nat.le_refl _⟩
        case round =>
          obtain ⟨j, hj, rfl, hRj, hkj, hsj⟩ := hrel
          have HRj := Lib.hid hRj
          have HKj := Lib.hid hkj
          have HSj := Lib.hid hsj
          clear hRj hkj hsj
          rcases (show j < nI ∨ j = nI by omega) with hlt | rfl
          · have hlt' : (j : Int) < (nI : Int) := by omega
            have j0 : (0 : Int) ≤ (j : Int) := by omega
            obtain ⟨m, hm⟩ : ∃ m, m = j + 1 := ⟨_, rfl⟩
            have HMj := Lib.hid hm
            have hmj : (j : Int) + 1 = (m : Int) := by rw [hm]; rfl
            have hb1 : -9223372036854775808 ≤ (j : Int) + 1 ∧ (j : Int) + 1 ≤ 9223372036854775807 := ⟨by omega, by omega⟩
            have hw1 : IntKind.i64.wrap ((j : Int) + 1) = (m : Int) := (IntWalk.i64_in _ hb1).trans hmj
            have hw2 : wrap64 ((j : Int) + 1) = (m : Int) := (IntWalk.wrap64_in _ hb1).trans hmj
            clear hb1 hmj
            have hml : m ≤ 4 := by rw [hm]; exact Nat.succ_le_succ (Nat.le_trans (Nat.le_of_lt hlt) hn3)
            obtain ⟨g, rfl, hg1, hg2, hg3⟩ := HGx.out (Nat.ne_of_gt (Nat.lt_of_le_of_lt (Nat.zero_le _) hlt))
            obtain ⟨jx, hjx⟩ : ∃ x, x = (evIx kd).getD j 0 := ⟨_, rfl⟩
            have hjI : j < (evIx kd).length := by rw [← HNI.out]; exact hlt
            have hjm : jx ∈ evIx kd := by rw [hjx, getD_eq hjI]; exact List.getElem_mem _
            have xg : wr.cell? ⟨g, j, none⟩ = some (.pointer (some ⟨w.heap.size + 1, jx, none⟩)) := by
              rw [blk_cell ((HKj.out g hg1 hg2).trans hg3) j, hjx]
              simp [List.getD, hjI]
            have hor := evIx_mem hjm
            have HJx := Lib.hid hjx
            have HOr := Lib.hid hor
            clear hg3 hjx hjm hor hm hjI
            by_cases hl : m < L.length
            · have hl' : (m : Int) < (L.length : Int) := Int.ofNat_lt.2 hl
              have hl0 : (0 : Int) ≤ (m : Int) := Int.natCast_nonneg m
              obtain ⟨q, hq⟩ : ∃ q, q = L.getD m [] := ⟨_, rfl⟩
              have hcq : wr.cell? ⟨b, m, none⟩ = some (.string ⟨q.toArray⟩) := by rw [blk_cell HRj.out.ps, hq]; exact HPc.out _ hl
              have hqs : q.length ≤ 200000 := HM.out q (by rw [hq, getD_eq hl]; exact List.getElem_mem _)
              have HSt : Hid (F m = setF (F j) jx (atV q)) := by
                show F m = _
                rw [HF.out, HJx.out, hq]
                rw [HMj.out] at hl ⊢
                exact if_pos hl
              have HAt := Lib.hid (prog_Atoi (p := q) (HX.out.below HRj.out.bel) hqs)
              obtain ⟨av, hav⟩ : ∃ v, v = atV q := ⟨_, rfl⟩
              rw [← hav] at HAt HSt
              clear hq hqs hav
              go_wp2_with (go_at_call 35; refine HAt.out.mono ?_; rintro e5 w5 ⟨⟨err, rfl⟩, hb5⟩; have hR5 := HRj.out.below hb5; have HK5 := Lib.hid (fun g (h1 : w.heap.size + 1 < g) (h2 : g < w3.heap.size) => (hb5.block g (Nat.lt_of_lt_of_le h2 HSj.out)).trans (HKj.out g h1 h2)); have HS5 := Lib.hid (Nat.le_trans HSj.out hb5.size); have HR5 := Lib.hid hR5; obtain ⟨ov, hov⟩ := num_cell (x := F j) HOr.out; have d5 := (blk_cell hR5.ev jx).trans hov; have f5 : w5.frozen? ⟨w.heap.size + 1, jx, none⟩ = false := blk_free hR5.ev jx; clear hR5 hb5 hov)
              refine ⟨⟨m, ?_, rfl, ?_, fun g h1 h2 => (Below.heap_setCell _ _ _ _ (Nat.ne_of_gt h1)).trans (HK5.out g h1 h2), Nat.le_trans HS5.out (by simp)⟩, ?_⟩
              · rw [HMj.out]; exact hlt
              · rw [HSt.out]; exact HR5.out.set (setF_cells HOr.out)
              · simp only [intOf, Int.toNat_natCast]; exact sub_step hlt HMj.out
            · have hl' : ¬ (m : Int) < (L.length : Int) := fun h => hl (Int.ofNat_lt.1 h)
              have HSt : Hid (F m = F j) := by
                show F m = _
                rw [HF.out]
                rw [HMj.out] at hl ⊢
                exact if_neg hl
              go_wp2
              refine ⟨⟨m, ?_, rfl, ?_, HKj.out, HSj.out⟩, ?_⟩
              · rw [HMj.out]; exact hlt
              · rw [HSt.out]; exact HRj.out
              · simp only [intOf, Int.toNat_natCast]; exact sub_step hlt HMj.out
          · have hge : ¬ (j : Int) < (j : Int) := Int.lt_irrefl _
            have HE : Hid (evParse L = F j) := by
              show evParse L = _
              unfold evParse
              have e1 : kdUp 8 (L.getD 0 []) = kd := by rw [HKd.out, HL0.out]
              rw [e1, ← HNI.out, HF.out, HX0.out, HGd.out, HLz.out]
              unfold evX0
              rw [e1]
            have HZ := HRj.out
            obtain ⟨x, hx⟩ : ∃ x, x = F j := ⟨_, rfl⟩
            rw [← hx] at HZ HE
            obtain ⟨EA, hEA⟩ : ∃ A, A = (Ev.cells x).toArray := ⟨_, rfl⟩
            have HI := Lib.hid (show (Tryd.prog.info? 37).map (·.size) = some EA.size by rw [hEA]; show _ = some 8; kernel_rfl)
            have HS8 := Lib.hid (show EA.size = 8 by rw [hEA]; rfl)
            have HO1 := Lib.hid (show EA.all (·.oneCell') = true by rw [hEA]; simp [Ev.cells, Value.oneCell'])
            have hz2 := HZ.ev
            have hz3 := HZ.res
            rw [← hEA] at hz2
            have HZ2 := Lib.hid hz2
            have HZ3 := Lib.hid hz3
            have HZB := Lib.hid HZ.bel
            have HEA := Lib.hid hEA
            clear hz2 hz3 HZ hx hEA
            go_wp2_with (first | (refine wpList_load_row rfl 37 (.tmp 3) rfl (w.heap.size + 1) rfl 37 EA (0, 0) _ HZ2.out Tryd.underlying37 rfl HI.out ?_) | (refine wpList_store_row rfl 37 (.tmp 2) (.tmp 66) rfl w.heap.size EA rfl rfl 37 _ HZ3.out HI.out (by rw [HS8.out]; rfl) HO1.out ?_; refine name_q _ (fun w7 hw7 => ?_); have k7 := Lib.hid (show w7.heap[w.heap.size]? = some (.cells EA 37 (0, 0)) by rw [hw7]; exact setRow_block HZ3.out); have b7 := Lib.hid (show Below w.heap.size w w7 by rw [hw7]; exact setRow_below HZB.out (Nat.le_refl _)); clear hw7))
            refine bodyPost_ret (results_cell_row rfl _ _ w.heap.size 37 EA (0, 0) _ rfl k7.out Tryd.underlying37 rfl HI.out) rfl ?_
            exact ⟨by rw [HE.out, HEA.out], b7.out⟩)
end Go.Proofs.YtnebijdifemicaaDoor
