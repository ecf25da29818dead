/- usherref.lineEvent: its contract. -/
import Derived.Test.YtnebijdifemicaaDoorLvN
import Derived.Test.YtnebijdifemicaaDoorEvt
namespace Go.Proofs.YtnebijdifemicaaDoor
open Go.RowKit
theorem info_st : (Tryd.prog.info? 9).map (fun i => (i.zero, i.size, i.bytes)) = some (some (.string ⟨#[]⟩), 1, 16) := by kernel_rfl
def strsC (L : List (List UInt8)) : List Value := L.map fun p => Value.string ⟨p.toArray⟩
/-- How far the pieces are taken: ps are taken, the next begins at f, k is looked at. -/
def SpInv (s : List UInt8) (ps : List (List UInt8)) (f k : Nat) : Prop := (k ≤ s.length ∧ f ≤ k ∧ spl s = ps ++ spl (s.drop f) ∧ ∀ j, f ≤ j → j < k → s.getD j 0 ≠ 32) ∨ (k = s.length + 1 ∧ f = k ∧ spl s = ps)
theorem SpInv.start (s : List UInt8) : SpInv s [] 0 0 := Or.inl ⟨Nat.zero_le _, Nat.le_refl _, rfl, fun _ _ h2 => absurd h2 (Nat.not_lt_zero _)⟩
theorem SpInv.go {s : List UInt8} {ps : List (List UInt8)} {f k : Nat} (h : SpInv s ps f k) (hk : k < s.length) (hc : s.getD k 0 ≠ 32) : SpInv s ps f (k + 1) := by
  rcases h with ⟨h1, h2, h3, h4⟩ | ⟨h1, _, _⟩
  · refine Or.inl ⟨hk, by omega, h3, fun j g1 g2 => ?_⟩
    rcases (show j < k ∨ j = k by omega) with g | rfl
    · exact h4 j g1 g
    · exact hc
  · omega
theorem SpInv.piece {s : List UInt8} {ps : List (List UInt8)} {f k : Nat} (h : SpInv s ps f k) (hk : k ≤ s.length) : ∀ b ∈ (s.take k).drop f, b ≠ 32 := by
  rcases h with ⟨h1, h2, h3, h4⟩ | ⟨h1, _, _⟩
  · intro b hb
    obtain ⟨i, hi⟩ := List.getElem?_of_mem hb
    rw [List.getElem?_drop, List.getElem?_take] at hi
    split at hi
    · rename_i g
      have := h4 (f + i) (by omega) g
      rw [List.getD, hi] at this
      exact this
    · cases hi
  · omega
theorem SpInv.cut {s : List UInt8} {ps : List (List UInt8)} {f k : Nat} (h : SpInv s ps f k) (hk : k < s.length) (hc : s.getD k 0 = 32) : SpInv s (ps ++ [(s.take k).drop f]) (k + 1) (k + 1) := by
  have hp := h.piece (by omega)
  rcases h with ⟨h1, h2, h3, h4⟩ | ⟨h1, _, _⟩
  · refine Or.inl ⟨hk, Nat.le_refl _, ?_, fun j g1 g2 => by omega⟩
    have e : s.drop f = (s.take k).drop f ++ 32 :: s.drop (k + 1) := by
      have e1 : s = s.take k ++ 32 :: s.drop (k + 1) := by
        have := split_at hk (c := 32) hc.symm
        rw [List.append_assoc] at this
        exact this
      conv => lhs; rw [e1]
      rw [List.drop_append_of_le_length (by rw [List.length_take]; omega)]
    rw [h3, e, spl_cons _ hp, List.append_assoc]; rfl
  · omega
theorem SpInv.last {s : List UInt8} {ps : List (List UInt8)} {f : Nat} (h : SpInv s ps f s.length) : SpInv s (ps ++ [(s.take s.length).drop f]) (s.length + 1) (s.length + 1) := by
  have hp := h.piece (Nat.le_refl _)
  rcases h with ⟨h1, h2, h3, h4⟩ | ⟨h1, _, _⟩
  · refine Or.inr ⟨rfl, rfl, ?_⟩
    rw [List.take_length] at hp ⊢
    rw [h3, spl_none hp]
  · omega
theorem SpInv.len {s : List UInt8} {ps : List (List UInt8)} {f k : Nat} (h : SpInv s ps f k) : ps.length ≤ s.length + 1 := by
  have := spl_len s
  rcases h with ⟨_, _, h, _⟩ | ⟨_, _, h⟩
  · rw [h, List.length_append] at this; omega
  · rw [h] at this; exact this
theorem SpInv.le {s : List UInt8} {ps : List (List UInt8)} {f k : Nat} (h : SpInv s ps f k) : f ≤ k ∧ k ≤ s.length + 1 := by
  rcases h with ⟨h1, h2, _, _⟩ | ⟨h1, h2, h⟩ <;> omega
theorem SpInv.fin {s : List UInt8} {ps : List (List UInt8)} {f : Nat} (h : SpInv s ps f (s.length + 1)) : ps = spl s := by
  rcases h with ⟨h1, _, _, _⟩ | ⟨_, _, h⟩
  · omega
  · exact h.symm
theorem word_quiet {k : Nat} (h : 1 ≤ k ∧ k ≤ 7) (w : World) : Calls Tryd.prog 29 #[.int .i64 (k : Int)] w fun e w' => e = .returned (.string ⟨(wordB k).toArray⟩) ∧ w' = w := by
  rcases (show k = 1 ∨ k = 2 ∨ k = 3 ∨ k = 4 ∨ k = 5 ∨ k = 6 ∨ k = 7 by omega) with rfl | rfl | rfl | rfl | rfl | rfl | rfl
  all_goals (
    go_enter Tryd.func29, Tryd.ntmps29
    go_wp2
    go_ret
    exact ⟨rfl, rfl⟩)
/-- What stands while the numbers of a line are read. -/
def LvR (w wo wr : World) (g b1 : Nat) (F : List FD) (acc : List Int) : Prop := Below w.heap.size w wr ∧ wr.heap[w.heap.size]? = some (.cells #[.int .i64 0, .int .i64 0, .int .i64 0, .int .i64 0, .bool false, .int .i64 0, .int .i64 0, .int .i64 0] 37 (0, 0)) ∧ (∀ j, wr.cell? ⟨g, j, none⟩ = wo.cell? ⟨g, j, none⟩) ∧ (F ≠ [] → w.heap.size < b1 ∧ g < b1 ∧ wr.heap[b1]? = some (.cells (padC F acc).toArray 3 (0, 0)))
theorem LvR.set {w wo wr : World} {g b1 k : Nat} {F : List FD} {acc acc' : List Int} {v : Value} (h : LvR w wo wr g b1 F acc) (hF : F ≠ []) (e : (padC F acc).toArray.setIfInBounds k v = (padC F acc').toArray) : LvR w wo (wr.setCell ⟨b1, k, none⟩ v) g b1 F acc' := by
  obtain ⟨h1, h2, h3, h4⟩ := h
  obtain ⟨g1, g2, g3⟩ := h4 hF
  refine ⟨h1.setCell (by show _ ≤ b1; omega) _, blk_set_ne h2 (by omega), fun j => ?_, fun _ => ⟨g1, g2, ?_⟩⟩
  · exact (cell_set_ne (by omega)).trans (h3 j)
  · rw [← e]; exact blk_set g3 _
set_option maxHeartbeats 8000000 in
set_option maxRecDepth 100000 in
theorem ref_lineEvent {s : List UInt8} (hs : s.length ≤ 200000) (w : World) : Calls Tryd.prog 19 #[.string ⟨s.toArray⟩] w fun e w' => (∃ x, LvAns s x ∧ e = .returned x.agg) ∧ Below w.heap.size w w' := by
  obtain ⟨i0, hi, hz0, hz1, hz2⟩ := info_parts info_st
  have HI8 := Lib.hid (show (Tryd.prog.info? 37).map (·.size) = some (#[.int .i64 0, .int .i64 0, .int .i64 0, .int .i64 0, .bool false, .int .i64 0, .int .i64 0, .int .i64 0] : Array Value).size by show _ = some 8; kernel_rfl)
  have HO8 := Lib.hid (show (#[.int .i64 0, .int .i64 0, .int .i64 0, .int .i64 0, .bool false, .int .i64 0, .int .i64 0, .int .i64 0] : Array Value).all (·.oneCell') = true by simp [Value.oneCell'])
  go_enter Tryd.func19, Tryd.ntmps19
  go_wp2
  obtain ⟨W0, hW0⟩ : ∃ W0, W0 = w.alloc (.cells #[.int .i64 0, .int .i64 0, .int .i64 0, .int .i64 0, .bool false, .int .i64 0, .int .i64 0, .int .i64 0] 37) := ⟨_, rfl⟩
  rw [← hW0]
  have hb0 : Below w.heap.size w W0 := by rw [hW0]; exact (Below.refl _ _).alloc (Nat.le_refl _) _
  have r0 : W0.heap[w.heap.size]? = some (.cells (Ev.cells Ev.zero).toArray 37 (0, 0)) := by rw [hW0]; exact heap_at _ rfl
  have HB0 := Lib.hid hb0
  have HR0 := Lib.hid r0
  clear hW0 hb0 r0
  go_loopw [3, 4, 5] (fun vs f i wr => ∃ (ps : List (List UInt8)) (f' k : Nat) (a : Option Addr) (c : Nat), vs = .slice a ps.length c ∧ f = .int .i64 f' ∧ i = .int .i64 k ∧ SpInv s ps f' k ∧ wr.ownsRow W0.heap.size 9 1 (.slice a ps.length c) ps.length (strsC ps) ∧ Below W0.heap.size W0 wr) (fun _ _ i _ => s.length + 1 - (intOf i).toNat)
  case atStart => exact ⟨[], 0, 0, none, 0, rfl, rfl, rfl, SpInv.start s, World.ownsRow_nil _ _ _ _, Below.refl _ _⟩
  case round =>
    obtain ⟨ps, f', k, a, c, rfl, rfl, rfl, hI, hown, hbr⟩ := hrel
    have hfk := hI.le
    have hpl := hI.len
    have HI := Lib.hid hI
    have HOw := Lib.hid hown
    have HBr := Lib.hid hbr
    have hsz := hbr.size
    clear hI hown hbr
    rcases (show k < s.length ∨ k = s.length ∨ k = s.length + 1 by omega) with hlt | heq | heq
    · have hle : (k : Int) ≤ (s.length : Int) := by omega
      have hne : ((k : Int) == (s.length : Int)) = false := by rw [beq_eq_false_iff_ne]; omega
      obtain ⟨cc, hc⟩ : ∃ c, c = s.getD k 0 := ⟨_, rfl⟩
      have gk := run_index_str hlt hc
      obtain ⟨d, hd⟩ : ∃ d : Int, d = (cc.toNat : Int) := ⟨_, rfl⟩
      rw [← hd] at gk
      by_cases hc32 : cc = 32
      · have e32 : (d == 32) = true := by rw [hd, hc32]; decide
        have HN := Lib.hid (HI.out.cut hlt (by rw [← hc]; exact hc32))
        have ex : (⟨s.toArray⟩ : ByteArray).extract f' k = ⟨((s.take k).drop f').toArray⟩ := by rw [ByteArray.extract_mk]; simp [List.drop_take]
        obtain ⟨pc, hpc⟩ : ∃ pc, pc = (s.take k).drop f' := ⟨_, rfl⟩
        rw [← hpc] at HN ex
        have x1 : (0 : Int) ≤ (f' : Int) := by omega
        have x2 : (f' : Int) ≤ (k : Int) := by omega
        clear hc hd hc32 hpc
        go_wp2_with (at_builtin; refine wpList_append_own _ rfl _ _ 69 rfl W0.heap.size 9 i0 (.string ⟨#[]⟩) 1 16 Tryd.underlying69 hi hz0 hz1 hz2 rfl (by decide) _ _ _ rfl (HOw.out.alloc _) ⟨wr.heap.size, 0, none⟩ 1 1 [.string ⟨pc.toArray⟩] rfl rfl (news_one [.string ⟨pc.toArray⟩] 9) ?c2 ?c3 ?c4 ?c5 ?_)
        case c2 => first | rfl | (intro u hu; simp at hu; subst hu; rfl)
        case c3 => unfold maxLen; omega
        case c4 => omega
        case c5 => first | omega | (simp; omega)
        intro v6 w6 hown6 hgrow6 _
        have hb6 := HBr.out.trans (grown_below ((Below.refl _ _).alloc (Nat.le_refl _) _) hsz HOw.out hgrow6)
        obtain ⟨a6, c6, rfl, _, _⟩ := owns_shape hown6
        have HOw6 := Lib.hid hown6
        have HB6 := Lib.hid hb6
        clear hown6 hgrow6 hb6
        go_wp2
        go_roundw
        case rel => exact ⟨ps ++ [pc], k + 1, k + 1, a6, c6, by rw [List.length_append]; rfl, by go_num, by go_num, HN.out, by rw [List.length_append, strsC, List.map_append]; exact HOw6.out, HB6.out⟩
        case measure => simp [intOf]; omega
      · have e32 : (d == 32) = false := by
          rw [beq_eq_false_iff_ne, hd]
          intro e
          exact hc32 (UInt8.toNat_inj.1 (by rw [show (32 : UInt8).toNat = 32 from rfl]; omega))
        have HN := Lib.hid (HI.out.go hlt (by rw [← hc]; exact hc32))
        clear hc hd hc32
        go_wp2
        go_roundw
        case rel => exact ⟨ps, f', k + 1, a, c, rfl, rfl, by go_num, HN.out, HOw.out, HBr.out⟩
        case measure => simp [intOf]; omega
    · have hle : (k : Int) ≤ (s.length : Int) := by omega
      have hne : ((k : Int) == (s.length : Int)) = true := by rw [beq_iff_eq]; omega
      have HN := Lib.hid (show SpInv s (ps ++ [(s.take k).drop f']) (k + 1) (k + 1) from by have h := HI.out; subst heq; exact h.last)
      have hkl : k ≤ s.length := by omega
      have ex : (⟨s.toArray⟩ : ByteArray).extract f' k = ⟨((s.take k).drop f').toArray⟩ := by rw [ByteArray.extract_mk]; simp [List.drop_take]
      obtain ⟨pc, hpc⟩ : ∃ pc, pc = (s.take k).drop f' := ⟨_, rfl⟩
      rw [← hpc] at HN ex
      have x1 : (0 : Int) ≤ (f' : Int) := by omega
      have x2 : (f' : Int) ≤ (k : Int) := by omega
      clear hpc heq
      go_wp2_with (at_builtin; refine wpList_append_own _ rfl _ _ 69 rfl W0.heap.size 9 i0 (.string ⟨#[]⟩) 1 16 Tryd.underlying69 hi hz0 hz1 hz2 rfl (by decide) _ _ _ rfl (HOw.out.alloc _) ⟨wr.heap.size, 0, none⟩ 1 1 [.string ⟨pc.toArray⟩] rfl rfl (news_one [.string ⟨pc.toArray⟩] 9) ?c2 ?c3 ?c4 ?c5 ?_)
      case c2 => first | rfl | (intro u hu; simp at hu; subst hu; rfl)
      case c3 => unfold maxLen; omega
      case c4 => omega
      case c5 => first | omega | (simp; omega)
      intro v6 w6 hown6 hgrow6 _
      have hb6 := HBr.out.trans (grown_below ((Below.refl _ _).alloc (Nat.le_refl _) _) hsz HOw.out hgrow6)
      obtain ⟨a6, c6, rfl, _, _⟩ := owns_shape hown6
      have HOw6 := Lib.hid hown6
      have HB6 := Lib.hid hb6
      clear hown6 hgrow6 hb6
      go_wp2
      go_roundw
      case rel => exact ⟨ps ++ [pc], k + 1, k + 1, a6, c6, by rw [List.length_append]; rfl, by go_num, by go_num, HN.out, by rw [List.length_append, strsC, List.map_append]; exact HOw6.out, HB6.out⟩
      case measure => simp [intOf]; omega
    · subst heq
      have hle : ¬ ((s.length + 1 : Nat) : Int) ≤ (s.length : Int) := by omega
      obtain rfl := HI.out.fin
      obtain ⟨g, rfl, hgc, hgl, hgb⟩ : ∃ g, a = some ⟨g, 0, none⟩ ∧ (∀ j, j < (spl s).length → wr.cell? ⟨g, j, none⟩ = some (.string ⟨((spl s).getD j []).toArray⟩)) ∧ g < wr.heap.size ∧ W0.heap.size ≤ g := by
        rcases HOw.out.2 with ⟨_, h0⟩ | ⟨g, cap, cur, hv, hg, hblk, _⟩
        · exact absurd (List.length_eq_zero_iff.1 h0) (spl_ne s)
        · injection hv with hv1 _ _
          refine ⟨g, hv1, fun j hj => ?_, lt_of_block hblk, hg⟩
          subst hv1
          have h := HOw.out.cells (g := g) rfl j (.string ⟨((spl s).getD j []).toArray⟩) (by simp [strsC, List.getD, hj])
          have e : (⟨g, 0, none⟩ : Addr).add j = ⟨g, j, none⟩ := by by_cases h0 : j = 0 <;> simp [Addr.add, h0]
          rwa [e] at h
      obtain ⟨wo, rfl⟩ : ∃ x, x = wr := ⟨_, rfl⟩
      obtain ⟨L, hL⟩ : ∃ L, L = spl s := ⟨_, rfl⟩
      rw [← hL] at hgc hpl ⊢
      have hLp : 0 < L.length := List.length_pos_iff.2 (by rw [hL]; exact spl_ne s)
      have hLp' : (0 : Int) < (L.length : Int) := by omega
      obtain ⟨l0, hl0⟩ : ∃ x, x = L.getD 0 [] := ⟨_, rfl⟩
      have hg0 : wo.cell? ⟨g, 0, none⟩ = some (.string ⟨l0.toArray⟩) := by rw [hl0]; exact hgc 0 hLp
      have HGc := Lib.hid hgc
      have HL := Lib.hid hL
      have HL0 := Lib.hid hl0
      have HW1 := Lib.hid (HB0.out.trans (HBr.out.mono HB0.out.size))
      have r1 := blk_below HBr.out HR0.out (lt_of_block HR0.out)
      have HR1 := Lib.hid r1
      clear hgc hL hl0 HI HOw r1 hfk
      go_wp2_with fail
      go_loopw [6] (fun i wr => ∃ k : Nat, 1 ≤ k ∧ k ≤ 8 ∧ i = .int .i64 k ∧ (∀ j, 1 ≤ j → j < k → wordB j ≠ l0) ∧ Below wo.heap.size wo wr) (fun i _ => 8 - (intOf i).toNat)
      case atStart => exact ⟨1, Nat.le_refl _, by decide, rfl, fun j h1 h2 => by omega, Below.refl _ _⟩
      case round =>
        obtain ⟨k, hk1, hk8, rfl, hno, hbr⟩ := hrel
        have HNo := Lib.hid hno
        have HBk := Lib.hid hbr
        have c0 : wr.cell? ⟨g, 0, none⟩ = some (.string ⟨l0.toArray⟩) := (hbr.cell (p := ⟨g, 0, none⟩) hgl).trans hg0
        have HRk := Lib.hid (blk_below hbr HR1.out (lt_of_block HR1.out))
        have HBw := Lib.hid (HW1.out.trans (hbr.mono HW1.out.size))
        clear hno hbr
        rcases (show k ≤ 7 ∨ k = 8 by omega) with hk7 | rfl
        · have hk7' : (k : Int) ≤ 7 := by omega
          by_cases hw : wordB k = l0
          · have HWq := Lib.hid (fun w => word_quiet (k := k) ⟨hk1, hk7⟩ w)
            rw [hw] at HWq
            have HKw : Hid (wordB k = (spl s).getD 0 []) := by show _ = _; rw [hw, HL0.out, HL.out]
            have HKk := Lib.hid (show 1 ≤ k ∧ k ≤ 7 from ⟨hk1, hk7⟩)
            clear hw
            go_wp2_with fail
            (refine wp_region_noPanic ?_; refine wp_region_held_drew (S := (fun w' => w'.cell? ⟨g, 0, none⟩ = some (.string ⟨l0.toArray⟩))) (by kernel_rfl) ?q1xb (fun hHeld => ?_); (case q1xb => ((try dsimp only); ((go_split_ands; (try dsimp only); (repeat' apply And.intro); all_goals (repeat (first | with_reducible assumption | (with_reducible refine (cell_set_ne ?_).trans ?_; omega) | (with_reducible refine (cell_set_off ?_).trans ?_; omega) | (with_reducible refine cell_alloc _ ?_) | (with_reducible refine cell_drew ?_) | (with_reducible refine cell_drewN _ ?_))))))); refine wpAnyH_take (i := 0) (v := ?q1xv0) (by simp only [List.getElem?_toArray, List.getElem?_cons_zero]; exact rfl) (by kernel_rfl) (by kernel_rfl) (by kernel_rfl) (fun _ _ _ h => h) (Or.inl ⟨by rfl, ?q1xy0⟩) (by assumption) ?_; (case q1xy0 => (intro w hSw; (try dsimp only at hSw); go_simp; (try with_reducible rfl))); (try simp only [Act.put, List.setIfInBounds_toArray, List.set_cons_zero, List.set_cons_succ]); refine wpAnyH_take (i := 2) (v := ?q1xv2) (by simp only [List.getElem?_toArray, List.getElem?_cons_zero, List.getElem?_cons_succ]; exact rfl) (by kernel_rfl) (by kernel_rfl) (by kernel_rfl) (fun _ _ _ h => h) (Or.inl ⟨by rfl, ?q1xy2⟩) (by assumption) ?_; (case q1xy2 => (intro w hSw; (try dsimp only at hSw); go_simp; (try with_reducible rfl))); (try simp only [Act.put, List.setIfInBounds_toArray, List.set_cons_zero, List.set_cons_succ]); refine wpAnyH_take (i := 3) (v := ?q1xv3) (by simp only [List.getElem?_toArray, List.getElem?_cons_zero, List.getElem?_cons_succ]; exact rfl) (by kernel_rfl) (by kernel_rfl) (by kernel_rfl) (fun _ _ _ h => h) (Or.inl ⟨by rfl, ?q1xy3⟩) (by assumption) ?_; (case q1xy3 => (intro w hSw; (try dsimp only at hSw); go_simp; (try with_reducible rfl))); (try simp only [Act.put, List.setIfInBounds_toArray, List.set_cons_zero, List.set_cons_succ]); refine wpAnyH_take (i := 4) (v := ?q1xv4) (by simp only [List.getElem?_toArray, List.getElem?_cons_zero, List.getElem?_cons_succ]; exact rfl) (by kernel_rfl) (by kernel_rfl) (by kernel_rfl) (fun _ _ _ h => h) (Or.inl ⟨by rfl, ?q1xy4⟩) (by assumption) ?_; (case q1xy4 => (intro w hSw; (try dsimp only at hSw); go_simp; (try with_reducible rfl))); (try simp only [Act.put, List.setIfInBounds_toArray, List.set_cons_zero, List.set_cons_succ]); refine wpAnyH_ready (rs := [1]) (by kernel_rfl) (by simp) ?_; refine AllReadyH.cons (by simp only [List.getElem?_toArray, List.getElem?_cons_zero, List.getElem?_cons_succ]; exact rfl) (fun K hK => ?_) AllReadyH.nil; go_simp; (go_at_call 29; refine (HWq.out _).mono ?_; rintro e w9 ⟨rfl, rfl⟩); (try go_wp2_with fail); refine hK.out _ _ ?q1xs1 (fun hHeld => ?_); (case q1xs1 => ((try dsimp only); ((go_split_ands; (try dsimp only); (repeat' apply And.intro); all_goals (repeat (first | with_reducible assumption | (with_reducible refine (cell_set_ne ?_).trans ?_; omega) | (with_reducible refine (cell_set_off ?_).trans ?_; omega) | (with_reducible refine cell_alloc _ ?_) | (with_reducible refine cell_drew ?_) | (with_reducible refine cell_drewN _ ?_))))))); clear hK K; (try simp only [Act.put, List.setIfInBounds_toArray, List.set_cons_zero, List.set_cons_succ]); refine wpAnyH_take (i := 5) (v := ?q1xv5) (by simp only [List.getElem?_toArray, List.getElem?_cons_zero, List.getElem?_cons_succ]; exact rfl) (by kernel_rfl) (by kernel_rfl) (by kernel_rfl) (fun _ _ _ h => h) (Or.inl ⟨by rfl, ?q1xy5⟩) (by assumption) ?_; (case q1xy5 => (intro w hSw; (try dsimp only at hSw); go_simp; (try with_reducible rfl))); (try simp only [Act.put, List.setIfInBounds_toArray, List.set_cons_zero, List.set_cons_succ]); refine wpAnyH_done (by kernel_rfl) ?_ _; refine NoPanic.normal ?_)
            go_wp2_with (go_at_call 26; refine (numbersO k _ ⟨by omega, by omega⟩).mono ?_)
            rintro e w1 ⟨a1, a2, a3, rfl, hb1, hcells⟩
            have HB1 := Lib.hid (HBw.out.trans ((Below.refl _ _).drew.trans (hb1.mono (Nat.le_refl _)) |>.mono HBw.out.size))
            obtain ⟨F, hF⟩ : ∃ F, F = evF (evZ k) 0 0 0 := ⟨_, rfl⟩
            have hcn : F.length = cnt k := by rw [hF]; rfl
            have hl3 : F.length ≤ 3 := by rw [hF]; exact evF_len _ _ _ _
            rw [← hF] at hcells ⊢
            have HCn := Lib.hid hcn
            have HRk1 := Lib.hid (blk_below hb1 (show wr.drew.heap[w.heap.size]? = _ from HRk.out) (lt_of_block HRk.out))
            obtain ⟨b1, hp1, hD0⟩ : ∃ b1, (F ≠ [] → a1 = some ⟨b1, 0, none⟩) ∧ LvR w wo w1 g b1 F [] := by
              have hg1 : ∀ j, w1.cell? ⟨g, j, none⟩ = wo.cell? ⟨g, j, none⟩ := fun j => (hb1.cell (p := ⟨g, j, none⟩) (show g < wr.drew.heap.size from Nat.lt_of_lt_of_le hgl HBk.out.size)).trans (HBk.out.cell (p := ⟨g, j, none⟩) hgl)
              by_cases hF0 : F = []
              · exact ⟨0, fun h => absurd hF0 h, HB1.out, HRk1.out, hg1, fun h => absurd hF0 h⟩
              · obtain ⟨b1, b2, b3, e1, e2, e3, l1, l2, l3, c1, c2, c3⟩ := hcells hF0
                have q1 : wr.heap.size ≤ b1 := l1
                have q2 := HBk.out.size
                have q3 := lt_of_block HRk.out
                exact ⟨b1, fun _ => e1, HB1.out, HRk1.out, hg1, fun _ => ⟨by omega, by omega, by rw [pad_nil]; exact c1⟩⟩
            have HP1 := Lib.hid hp1
            have HD0 := Lib.hid hD0
            clear hb1 hcells hp1 hD0 hcn hF c0
            obtain ⟨m, hm⟩ : ∃ m : Int, m = (F.length : Int) + 1 := ⟨_, rfl⟩
            have hw1 : IntKind.i64.wrap ((F.length : Int) + 1) = m := by rw [IntKind.wrap_i64]; omega
            by_cases hlen : L.length = F.length + 1
            · have hmb : ((L.length : Int) != m) = false := by simp; omega
              have HLen := Lib.hid hlen
              have hlF : F.length < L.length := by omega
              clear hm hlen HNo HBk HRk HBw HRk1 HB1
              go_wp2_with fail
              go_loopw [11] (fun i wr => ∃ (q : Nat) (acc : List Int), q ≤ F.length ∧ i = .int .i64 q ∧ acc.length = q ∧ (∀ i, i < q → acc.getD i 0 = lvV k i (L.getD (i + 1) []) ∧ 0 ≤ acc.getD i 0) ∧ LvR w wo wr g b1 F acc) (fun i _ => F.length - (intOf i).toNat)
              case atStart => exact ⟨0, [], Nat.zero_le _, rfl, rfl, fun i h => absurd h (Nat.not_lt_zero _), HD0.out⟩
              case round =>
                clear HD0
                obtain ⟨q, acc, hq, rfl, hal, hac, hD⟩ := hrel
                have HAl := Lib.hid hal
                have HAc := Lib.hid hac
                have HD := Lib.hid hD
                have HRk := Lib.hid hD.2.1
                have HBw := Lib.hid hD.1
                clear hal hac
                rcases (show q < F.length ∨ q = F.length by omega) with hlt | heq
                · have hlt' : (q : Int) < (F.length : Int) := by omega
                  have q0 : (0 : Int) ≤ (q : Int) := by omega
                  have hne : F ≠ [] := by intro h; rw [h] at hlt; simp at hlt
                  obtain rfl := HP1.out hne
                  obtain ⟨_, _, g3⟩ := hD.2.2.2 hne
                  obtain ⟨v0, hv0⟩ := pad_at HAl.out hlt
                  have c1 : wr.cell? ⟨b1, q, none⟩ = some v0 := (blk_cell g3 q).trans hv0
                  have c1f : wr.frozen? ⟨b1, q, none⟩ = false := blk_free g3 q
                  obtain ⟨m2, hm2⟩ : ∃ m, m = q + 1 := ⟨_, rfl⟩
                  have hw2 : IntKind.i64.wrap ((q : Int) + 1) = (m2 : Int) := by rw [IntKind.wrap_i64]; omega
                  have hml : (m2 : Int) < (L.length : Int) := by omega
                  have hm0 : (0 : Int) ≤ (m2 : Int) := by omega
                  obtain ⟨p, hp⟩ : ∃ p, p = L.getD m2 [] := ⟨_, rfl⟩
                  have hcp : wr.cell? ⟨g, m2, none⟩ = some (.string ⟨p.toArray⟩) := by rw [hD.2.2.1, hp]; exact HGc.out m2 (by omega)
                  have hpl2 : p.length ≤ 200000 := by
                    refine Nat.le_trans (spl_mem s p ?_) hs
                    rw [hp, HL.out, getD_eq (by rw [← HL.out]; omega)]
                    exact List.getElem_mem _
                  have HP := Lib.hid (show p = (spl s).getD (q + 1) [] by rw [hp, hm2, HL.out])
                  have HPL := Lib.hid (show p = L.getD (q + 1) [] by rw [hp, hm2])
                  have HWh := Lib.hid (fun w => ref_whole p hpl2 w)
                  have HM2 := Lib.hid hm2
                  have HLt := Lib.hid hlt
                  have HNe := Lib.hid hne
                  clear hp hpl2 hm2 g3 hv0 hD hne
                  by_cases h42 : k = 4 ∧ q = 2
                  · have e4 : ((k : Int) == 4) = true := by rw [beq_iff_eq]; omega
                    have e2 : ((q : Int) == 2) = true := by rw [beq_iff_eq]; omega
                    have H42 := Lib.hid h42
                    obtain ⟨wv, hwv⟩ : ∃ v, v = whlV p := ⟨_, rfl⟩
                    rw [← hwv] at HWh
                    have h1 := HD.out.set HNe.out (pad_set HAl.out HLt.out wv)
                    have h2 := Lib.hid (h1.set HNe.out (pad_again HAl.out HLt.out wv (-1)))
                    clear hwv h1 h42
                    rcases (show p = [103, 111, 111, 100] ∨ p = [98, 97, 100] ∨ (p ≠ [103, 111, 111, 100] ∧ p ≠ [98, 97, 100]) from by by_cases h : p = [103, 111, 111, 100]; exact Or.inl h; by_cases h' : p = [98, 97, 100]; exact Or.inr (Or.inl h'); exact Or.inr (Or.inr ⟨h, h'⟩)) with hpx | hpx | ⟨hp1, hp2⟩
                    · have HV : Hid (lvV k q p = 1) := by show _ = _; rw [H42.out.1, H42.out.2, hpx]; decide
                      have h3 := Lib.hid (h2.out.set HNe.out (pad_again HAl.out HLt.out (-1) 1))
                      have c3 : (((wr.setCell ⟨b1, q, none⟩ (.int .i64 wv)).setCell ⟨b1, q, none⟩ (.int .i64 (-1))).setCell ⟨b1, q, none⟩ (.int .i64 1)).cell? ⟨b1, q, none⟩ = some (.int .i64 1) := World.cell?_setCell_same _ _ _ (World.cell?_setCell_same _ _ _ (World.cell?_setCell_same _ _ _ c1))
                      subst hpx
                      go_wp2_with (go_at_call 36; refine (HWh.out _).mono ?_; rintro e w9 ⟨rfl, rfl⟩)
                      go_roundw
                      case rel =>
                        refine ⟨q + 1, acc ++ [1], HLt.out, by rw [HM2.out], by rw [List.length_append, HAl.out]; rfl, fun i hi => ?_, h3.out⟩
                        rcases (show i < q ∨ i = q by omega) with h | rfl
                        · have := HAc.out i h
                          have e : (acc ++ [1]).getD i 0 = acc.getD i 0 := by rw [List.getD, List.getElem?_append_left (by rw [HAl.out]; exact h)]; rfl
                          rw [e]; exact this
                        · have e : (acc ++ [1]).getD i 0 = 1 := by rw [List.getD, List.getElem?_append_right (by rw [HAl.out]; exact Nat.le_refl _), HAl.out, Nat.sub_self]; rfl
                          rw [e, ← HPL.out, HV.out]; exact ⟨rfl, by decide⟩
                      case measure => simp [intOf]; have := HLt.out; have := HM2.out; omega
                    · have HV : Hid (lvV k q p = 0) := by show _ = _; rw [H42.out.1, H42.out.2, hpx]; decide
                      have h3 := Lib.hid (h2.out.set HNe.out (pad_again HAl.out HLt.out (-1) 0))
                      have c3 : (((wr.setCell ⟨b1, q, none⟩ (.int .i64 wv)).setCell ⟨b1, q, none⟩ (.int .i64 (-1))).setCell ⟨b1, q, none⟩ (.int .i64 0)).cell? ⟨b1, q, none⟩ = some (.int .i64 0) := World.cell?_setCell_same _ _ _ (World.cell?_setCell_same _ _ _ (World.cell?_setCell_same _ _ _ c1))
                      subst hpx
                      go_wp2_with (go_at_call 36; refine (HWh.out _).mono ?_; rintro e w9 ⟨rfl, rfl⟩)
                      go_roundw
                      case rel =>
                        refine ⟨q + 1, acc ++ [0], HLt.out, by rw [HM2.out], by rw [List.length_append, HAl.out]; rfl, fun i hi => ?_, h3.out⟩
                        rcases (show i < q ∨ i = q by omega) with h | rfl
                        · have := HAc.out i h
                          have e : (acc ++ [0]).getD i 0 = acc.getD i 0 := by rw [List.getD, List.getElem?_append_left (by rw [HAl.out]; exact h)]; rfl
                          rw [e]; exact this
                        · have e : (acc ++ [0]).getD i 0 = 0 := by rw [List.getD, List.getElem?_append_right (by rw [HAl.out]; exact Nat.le_refl _), HAl.out, Nat.sub_self]; rfl
                          rw [e, ← HPL.out, HV.out]; exact ⟨rfl, by decide⟩
                      case measure => simp [intOf]; have := HLt.out; have := HM2.out; omega
                    · have HA : Hid (LvAns s Ev.zero) := lv_neg HKk.out HKw.out (by rw [← HCn.out]; exact HLt.out) (by rw [← HP.out, H42.out.1, H42.out.2]; unfold lvV; rw [if_pos ⟨rfl, rfl⟩, if_neg hp1, if_neg hp2]; decide)
                      have HRk := Lib.hid h2.out.2.1
                      have HBw := Lib.hid h2.out.1
                      obtain ⟨n2, n3, n4, n5⟩ := str_ne hp1
                      obtain ⟨o2, o3, o4, o5⟩ := str_ne hp2
                      go_wp2_with (first | (go_at_call 36; refine (HWh.out _).mono ?_; rintro e w9 ⟨rfl, rfl⟩) | (refine wpList_store_row rfl 37 (.tmp 2) (.tmp 104) rfl w.heap.size #[.int .i64 0, .int .i64 0, .int .i64 0, .int .i64 0, .bool false, .int .i64 0, .int .i64 0, .int .i64 0] rfl rfl 37 _ HRk.out HI8.out (by rfl) HO8.out ?_; refine name_q _ (fun w7 hw7 => ?_); have k7 := Lib.hid (show w7.heap[w.heap.size]? = some (.cells #[.int .i64 0, .int .i64 0, .int .i64 0, .int .i64 0, .bool false, .int .i64 0, .int .i64 0, .int .i64 0] 37 (0, 0)) by rw [hw7]; exact setRow_block HRk.out); have b7 := Lib.hid (show Below w.heap.size w w7 by rw [hw7]; exact setRow_below HBw.out (Nat.le_refl _)); clear hw7))
                      (refine bodyPost_ret (results_cell_row rfl _ _ w.heap.size 37 #[.int .i64 0, .int .i64 0, .int .i64 0, .int .i64 0, .bool false, .int .i64 0, .int .i64 0, .int .i64 0] (0, 0) _ rfl k7.out Tryd.underlying37 rfl HI8.out) rfl ?_; exact ⟨⟨Ev.zero, HA.out, rfl⟩, b7.out⟩)
                  · obtain ⟨wv, hwv⟩ : ∃ v, v = whlV p := ⟨_, rfl⟩
                    rw [← hwv] at HWh
                    have HV : Hid (lvV k q p = wv) := by show _ = _; rw [lvV, if_neg (by omega), hwv]
                    have hS := Lib.hid (HD.out.set HNe.out (pad_set HAl.out HLt.out wv))
                    clear hwv
                    rcases (show ((k : Int) == 4) = false ∨ (((k : Int) == 4) = true ∧ ((q : Int) == 2) = false) from by by_cases h : k = 4; exact Or.inr ⟨by rw [h]; rfl, by rw [beq_eq_false_iff_ne]; omega⟩; exact Or.inl (by rw [beq_eq_false_iff_ne]; omega)) with e4 | ⟨e4, e2⟩
                    all_goals (
                      clear h42
                      rcases (show wv < 0 ∨ 0 ≤ wv by omega) with hneg | hpos
                      · have HA : Hid (LvAns s Ev.zero) := lv_neg HKk.out HKw.out (by rw [← HCn.out]; exact HLt.out) (by rw [← HP.out, HV.out]; exact hneg)
                        have HRk := Lib.hid hS.out.2.1
                        have HBw := Lib.hid hS.out.1
                        go_wp2_with (first | (go_at_call 36; refine (HWh.out _).mono ?_; rintro e w9 ⟨rfl, rfl⟩) | (refine wpList_store_row rfl 37 (.tmp 2) (.tmp 104) rfl w.heap.size #[.int .i64 0, .int .i64 0, .int .i64 0, .int .i64 0, .bool false, .int .i64 0, .int .i64 0, .int .i64 0] rfl rfl 37 _ HRk.out HI8.out (by rfl) HO8.out ?_; refine name_q _ (fun w7 hw7 => ?_); have k7 := Lib.hid (show w7.heap[w.heap.size]? = some (.cells #[.int .i64 0, .int .i64 0, .int .i64 0, .int .i64 0, .bool false, .int .i64 0, .int .i64 0, .int .i64 0] 37 (0, 0)) by rw [hw7]; exact setRow_block HRk.out); have b7 := Lib.hid (show Below w.heap.size w w7 by rw [hw7]; exact setRow_below HBw.out (Nat.le_refl _)); clear hw7))
                        (refine bodyPost_ret (results_cell_row rfl _ _ w.heap.size 37 #[.int .i64 0, .int .i64 0, .int .i64 0, .int .i64 0, .bool false, .int .i64 0, .int .i64 0, .int .i64 0] (0, 0) _ rfl k7.out Tryd.underlying37 rfl HI8.out) rfl ?_; exact ⟨⟨Ev.zero, HA.out, rfl⟩, b7.out⟩)
                      · have hneg : ¬ wv < 0 := by omega
                        go_wp2_with (go_at_call 36; refine (HWh.out _).mono ?_; rintro e w9 ⟨rfl, rfl⟩)
                        go_roundw
                        case rel =>
                          refine ⟨q + 1, acc ++ [wv], HLt.out, by rw [HM2.out], by rw [List.length_append, HAl.out]; rfl, fun i hi => ?_, hS.out⟩
                          rcases (show i < q ∨ i = q by omega) with h | rfl
                          · have := HAc.out i h
                            have e : (acc ++ [wv]).getD i 0 = acc.getD i 0 := by rw [List.getD, List.getElem?_append_left (by rw [HAl.out]; exact h)]; rfl
                            rw [e]; exact this
                          · have e : (acc ++ [wv]).getD i 0 = wv := by rw [List.getD, List.getElem?_append_right (by rw [HAl.out]; exact Nat.le_refl _), HAl.out, Nat.sub_self]; rfl
                            rw [e, ← HPL.out, HV.out]; exact ⟨rfl, hpos⟩
                        case measure => simp [intOf]; have := HLt.out; have := HM2.out; omega)
                · have hge : ¬ (q : Int) < (F.length : Int) := by omega
                  obtain ⟨x, hx⟩ : ∃ x, x = decX k acc := ⟨_, rfl⟩
                  have hk7i : 1 ≤ (k : Int) ∧ (k : Int) ≤ 7 := ⟨by omega, by omega⟩
                  have hal2 : acc.length = cnt k := by rw [HAl.out, heq, HCn.out]
                  have hacs : ∀ i, i < cnt k → acc.getD i 0 = lvV k i ((spl s).getD (i + 1) []) ∧ 0 ≤ acc.getD i 0 := by
                    intro i hi
                    rw [← HL.out]
                    exact HAc.out i (by rw [← HCn.out] at hi; omega)
                  obtain ⟨hvs, hke⟩ := decX_keep hk7i hal2 (by
                    intro h4
                    have h2 := hacs 2 (by rw [h4]; decide)
                    rcases lv_good (w := (spl s).getD (2 + 1) []) (by rw [← h4, ← h2.1]; exact h2.2) with h | h
                    · right; rw [h2.1, h4]; exact h.1
                    · left; rw [h2.1, h4]; exact h.1)
                  have hkx := decX_kind k acc
                  rw [← hx] at hvs hke hkx
                  obtain ⟨code, hcode⟩ := EvCode_total x
                  have HFin : Hid (LvAns s (if code = 0 then x else Ev.zero)) := by
                    show LvAns _ _
                    rw [hx]
                    exact lv_fin HKk.out HKw.out (by rw [← HL.out, ← HCn.out]; exact HLen.out) hal2 hacs (by rw [← hx]; exact hcode)
                  have HRow : Hid (RowAt wr 1 (.slice a1 F.length F.length) (vals (evF x 0 0 (gdI x.good)))) := by
                    show RowAt _ _ _ _
                    rw [hvs]
                    by_cases hF : F = []
                    · have : acc = [] := List.length_eq_zero_iff.1 (by rw [HAl.out, heq, hF]; rfl)
                      subst this
                      rw [hF]
                      exact ⟨a1, 0, rfl, Nat.le_refl _, Nat.zero_le _, fun _ => rfl, fun h => absurd rfl h⟩
                    · obtain rfl := HP1.out hF
                      obtain ⟨_, _, g5⟩ := hD.2.2.2 hF
                      rw [pad_full (by rw [HAl.out]; exact heq)] at g5
                      have h := row_blk g5 (by rw [HAl.out]; omega)
                      rwa [HAl.out, heq] at h
                  have HEo : Hid (∀ W, RowAt W 1 (.slice a1 F.length F.length) (vals (evF x 0 0 (gdI x.good))) → Calls Tryd.prog 28 #[.int .i64 (k : Int), .slice a1 F.length F.length] W fun e w' => e = .returned x.agg ∧ Below W.heap.size W w') := by
                    intro W hW
                    have h := eventOf_any (x := x) (by rw [hkx]; exact hk7i) _ W hW
                    rwa [hkx, hke] at h
                  obtain ⟨EA, hEA⟩ : ∃ A, A = (Ev.cells x).toArray := ⟨_, rfl⟩
                  have hxa : x.agg = .agg EA := by rw [hEA]; rfl
                  rw [hxa] at HEo
                  have HXa := Lib.hid hxa
                  have HIE := Lib.hid (show (Tryd.prog.info? 37).map (·.size) = some EA.size by rw [hEA]; show _ = some 8; kernel_rfl)
                  have HSE := Lib.hid (show EA.size = 8 by rw [hEA]; rfl)
                  have HOE := Lib.hid (show EA.all (·.oneCell') = true by rw [hEA]; simp [Ev.cells, Value.oneCell'])
                  have HCo := Lib.hid hcode
                  clear hx hk7i hal2 hacs hvs hke hkx hcode hD heq hEA hxa
                  go_wp2_with fail
                  refine (HEo.out _ HRow.out).mono ?_
                  rintro e w2 ⟨rfl, hb2⟩
                  have HB2 := Lib.hid (HBw.out.trans (hb2.mono HBw.out.size))
                  have HR2 := Lib.hid (blk_below hb2 HRk.out (lt_of_block HRk.out))
                  clear hb2
                  go_wp2_with (first | (refine wpList_store_row rfl 37 (.tmp 13) (.tmp 107) rfl w2.heap.size EA rfl rfl 37 #[.int .i64 0, .int .i64 0, .int .i64 0, .int .i64 0, .bool false, .int .i64 0, .int .i64 0, .int .i64 0] (heap_at _ rfl) HIE.out (by rw [HSE.out]; rfl) HOE.out ?_; refine name_q _ (fun w3 hw3 => ?_); have k3 := Lib.hid (show w3.heap[w2.heap.size]? = some (.cells EA 37 (0, 0)) by rw [hw3]; exact setRow_block (heap_at _ rfl)); have r3 := Lib.hid (show w3.heap[w.heap.size]? = some (.cells #[.int .i64 0, .int .i64 0, .int .i64 0, .int .i64 0, .bool false, .int .i64 0, .int .i64 0, .int .i64 0] 37 (0, 0)) by rw [hw3]; exact ((setRow_below (Below.refl w2.heap.size (w2.alloc (.cells #[.int .i64 0, .int .i64 0, .int .i64 0, .int .i64 0, .bool false, .int .i64 0, .int .i64 0, .int .i64 0] 37))) (Nat.le_refl _)).block _ (lt_of_block HR2.out)).trans ((Below.heap_alloc _ _ _ (lt_of_block HR2.out)).trans HR2.out)); have b3 := Lib.hid (show Below w.heap.size w w3 by rw [hw3]; exact setRow_below (HB2.out.alloc HB2.out.size _) HB2.out.size); clear hw3) | (refine wpList_load_row rfl 37 (.tmp 13) rfl w2.heap.size rfl 37 EA (0, 0) _ k3.out Tryd.underlying37 rfl HIE.out ?_))
                  rw [← HXa.out]
                  refine (ref_EventFault x.kind x.key x.slot x.gen x.good x.request x.backend x.weight code _ HCo.out).mono ?_
                  rw [HXa.out]
                  rintro e4 w4 ⟨rfl, hb4⟩
                  have k4 := Lib.hid (blk_below hb4 k3.out (lt_of_block k3.out))
                  have HRk := Lib.hid (blk_below hb4 r3.out (lt_of_block r3.out))
                  have HBw := Lib.hid (b3.out.trans (hb4.mono b3.out.size))
                  clear hb4
                  by_cases hc0 : code = 0
                  · have hA : LvAns s x := by have h := HFin.out; rwa [if_pos hc0] at h
                    have HA := Lib.hid hA
                    subst hc0
                    clear hA
                    go_wp2_with (first | (refine wpList_load_row rfl 37 (.tmp 13) rfl w2.heap.size rfl 37 EA (0, 0) _ k4.out Tryd.underlying37 rfl HIE.out ?_) | (refine wpList_store_row rfl 37 (.tmp 2) (.tmp 112) rfl w.heap.size EA rfl rfl 37 #[.int .i64 0, .int .i64 0, .int .i64 0, .int .i64 0, .bool false, .int .i64 0, .int .i64 0, .int .i64 0] HRk.out HIE.out (by rw [HSE.out]; rfl) HOE.out ?_; refine name_q _ (fun w7 hw7 => ?_); have k7 := Lib.hid (show w7.heap[w.heap.size]? = some (.cells EA 37 (0, 0)) by rw [hw7]; exact setRow_block HRk.out); have b7 := Lib.hid (show Below w.heap.size w w7 by rw [hw7]; exact setRow_below HBw.out (Nat.le_refl _)); clear hw7))
                    refine bodyPost_ret (results_cell_row rfl _ _ w.heap.size 37 EA (0, 0) _ rfl k7.out Tryd.underlying37 rfl HIE.out) rfl ?_
                    exact ⟨⟨x, HA.out, by rw [HXa.out]⟩, b7.out⟩
                  · have hA : LvAns s Ev.zero := by have h := HFin.out; rwa [if_neg hc0] at h
                    have HA := Lib.hid hA
                    have hcb : (code != 0) = true := by simpa using hc0
                    clear hA
                    go_wp2_with (refine wpList_store_row rfl 37 (.tmp 2) (.tmp 111) rfl w.heap.size #[.int .i64 0, .int .i64 0, .int .i64 0, .int .i64 0, .bool false, .int .i64 0, .int .i64 0, .int .i64 0] rfl rfl 37 _ HRk.out HI8.out (by rfl) HO8.out ?_; refine name_q _ (fun w7 hw7 => ?_); have k7 := Lib.hid (show w7.heap[w.heap.size]? = some (.cells #[.int .i64 0, .int .i64 0, .int .i64 0, .int .i64 0, .bool false, .int .i64 0, .int .i64 0, .int .i64 0] 37 (0, 0)) by rw [hw7]; exact setRow_block HRk.out); have b7 := Lib.hid (show Below w.heap.size w w7 by rw [hw7]; exact setRow_below HBw.out (Nat.le_refl _)); clear hw7)
                    (refine bodyPost_ret (results_cell_row rfl _ _ w.heap.size 37 #[.int .i64 0, .int .i64 0, .int .i64 0, .int .i64 0, .bool false, .int .i64 0, .int .i64 0, .int .i64 0] (0, 0) _ rfl k7.out Tryd.underlying37 rfl HI8.out) rfl ?_; exact ⟨⟨Ev.zero, HA.out, rfl⟩, b7.out⟩)
            · have hmb : ((L.length : Int) != m) = true := by simp; omega
              have HA : Hid (LvAns s Ev.zero) := lv_cnt HKk.out HKw.out (by rw [← HL.out, ← HCn.out]; exact hlen)
              clear hm hlen
              have HRk := HRk1
              have HBw := HB1
              go_wp2_with (refine wpList_store_row rfl 37 (.tmp 2) (.tmp 63) rfl w.heap.size #[.int .i64 0, .int .i64 0, .int .i64 0, .int .i64 0, .bool false, .int .i64 0, .int .i64 0, .int .i64 0] rfl rfl 37 _ HRk.out HI8.out (by rfl) HO8.out ?_; refine name_q _ (fun w7 hw7 => ?_); have k7 := Lib.hid (show w7.heap[w.heap.size]? = some (.cells #[.int .i64 0, .int .i64 0, .int .i64 0, .int .i64 0, .bool false, .int .i64 0, .int .i64 0, .int .i64 0] 37 (0, 0)) by rw [hw7]; exact setRow_block HRk.out); have b7 := Lib.hid (show Below w.heap.size w w7 by rw [hw7]; exact setRow_below HBw.out (Nat.le_refl _)); clear hw7)
              (refine bodyPost_ret (results_cell_row rfl _ _ w.heap.size 37 #[.int .i64 0, .int .i64 0, .int .i64 0, .int .i64 0, .bool false, .int .i64 0, .int .i64 0, .int .i64 0] (0, 0) _ rfl k7.out Tryd.underlying37 rfl HI8.out) rfl ?_; exact ⟨⟨Ev.zero, HA.out, rfl⟩, b7.out⟩)
          · have HNx : Hid (∀ j, 1 ≤ j → j < k + 1 → wordB j ≠ l0) := by
              intro j h1 h2
              rcases (show j < k ∨ j = k by omega) with h | rfl
              · exact HNo.out j h1 h
              · exact hw
            obtain ⟨wj, hwj⟩ : ∃ x, x = wordB k := ⟨_, rfl⟩
            have HWq := Lib.hid (fun w => word_quiet (k := k) ⟨hk1, hk7⟩ w)
            rw [← hwj] at hw HWq
            obtain ⟨n2, n3, n4, n5⟩ := str_ne hw
            clear hwj
            go_wp2_with fail
            (refine wp_region_noPanic ?_; refine wp_region_held_drew (S := (fun w' => w'.cell? ⟨g, 0, none⟩ = some (.string ⟨l0.toArray⟩))) (by kernel_rfl) ?q2xb (fun hHeld => ?_); (case q2xb => ((try dsimp only); ((go_split_ands; (try dsimp only); (repeat' apply And.intro); all_goals (repeat (first | with_reducible assumption | (with_reducible refine (cell_set_ne ?_).trans ?_; omega) | (with_reducible refine (cell_set_off ?_).trans ?_; omega) | (with_reducible refine cell_alloc _ ?_) | (with_reducible refine cell_drew ?_) | (with_reducible refine cell_drewN _ ?_))))))); refine wpAnyH_take (i := 0) (v := ?q2xv0) (by simp only [List.getElem?_toArray, List.getElem?_cons_zero]; exact rfl) (by kernel_rfl) (by kernel_rfl) (by kernel_rfl) (fun _ _ _ h => h) (Or.inl ⟨by rfl, ?q2xy0⟩) (by assumption) ?_; (case q2xy0 => (intro w hSw; (try dsimp only at hSw); go_simp; (try with_reducible rfl))); (try simp only [Act.put, List.setIfInBounds_toArray, List.set_cons_zero, List.set_cons_succ]); refine wpAnyH_take (i := 2) (v := ?q2xv2) (by simp only [List.getElem?_toArray, List.getElem?_cons_zero, List.getElem?_cons_succ]; exact rfl) (by kernel_rfl) (by kernel_rfl) (by kernel_rfl) (fun _ _ _ h => h) (Or.inl ⟨by rfl, ?q2xy2⟩) (by assumption) ?_; (case q2xy2 => (intro w hSw; (try dsimp only at hSw); go_simp; (try with_reducible rfl))); (try simp only [Act.put, List.setIfInBounds_toArray, List.set_cons_zero, List.set_cons_succ]); refine wpAnyH_take (i := 3) (v := ?q2xv3) (by simp only [List.getElem?_toArray, List.getElem?_cons_zero, List.getElem?_cons_succ]; exact rfl) (by kernel_rfl) (by kernel_rfl) (by kernel_rfl) (fun _ _ _ h => h) (Or.inl ⟨by rfl, ?q2xy3⟩) (by assumption) ?_; (case q2xy3 => (intro w hSw; (try dsimp only at hSw); go_simp; (try with_reducible rfl))); (try simp only [Act.put, List.setIfInBounds_toArray, List.set_cons_zero, List.set_cons_succ]); refine wpAnyH_take (i := 4) (v := ?q2xv4) (by simp only [List.getElem?_toArray, List.getElem?_cons_zero, List.getElem?_cons_succ]; exact rfl) (by kernel_rfl) (by kernel_rfl) (by kernel_rfl) (fun _ _ _ h => h) (Or.inl ⟨by rfl, ?q2xy4⟩) (by assumption) ?_; (case q2xy4 => (intro w hSw; (try dsimp only at hSw); go_simp; (try with_reducible rfl))); (try simp only [Act.put, List.setIfInBounds_toArray, List.set_cons_zero, List.set_cons_succ]); refine wpAnyH_ready (rs := [1]) (by kernel_rfl) (by simp) ?_; refine AllReadyH.cons (by simp only [List.getElem?_toArray, List.getElem?_cons_zero, List.getElem?_cons_succ]; exact rfl) (fun K hK => ?_) AllReadyH.nil; go_simp; (go_at_call 29; refine (HWq.out _).mono ?_; rintro e w9 ⟨rfl, rfl⟩); (try go_wp2_with fail); refine hK.out _ _ ?q2xs1 (fun hHeld => ?_); (case q2xs1 => ((try dsimp only); ((go_split_ands; (try dsimp only); (repeat' apply And.intro); all_goals (repeat (first | with_reducible assumption | (with_reducible refine (cell_set_ne ?_).trans ?_; omega) | (with_reducible refine (cell_set_off ?_).trans ?_; omega) | (with_reducible refine cell_alloc _ ?_) | (with_reducible refine cell_drew ?_) | (with_reducible refine cell_drewN _ ?_))))))); clear hK K; (try simp only [Act.put, List.setIfInBounds_toArray, List.set_cons_zero, List.set_cons_succ]); refine wpAnyH_take (i := 5) (v := ?q2xv5) (by simp only [List.getElem?_toArray, List.getElem?_cons_zero, List.getElem?_cons_succ]; exact rfl) (by kernel_rfl) (by kernel_rfl) (by kernel_rfl) (fun _ _ _ h => h) (Or.inl ⟨by rfl, ?q2xy5⟩) (by assumption) ?_; (case q2xy5 => (intro w hSw; (try dsimp only at hSw); go_simp; (try with_reducible rfl))); (try simp only [Act.put, List.setIfInBounds_toArray, List.set_cons_zero, List.set_cons_succ]); refine wpAnyH_done (by kernel_rfl) ?_ _; refine NoPanic.normal ?_)
            go_wp2
            go_roundw
            case rel => exact ⟨k + 1, by omega, by omega, by go_num, HNx.out, HBk.out.drew⟩
            case measure => simp [intOf]; omega
        · have hge : ¬ ((8 : Nat) : Int) ≤ 7 := by omega
          have HA : Hid (LvAns s Ev.zero) := lv_word (fun j h1 h2 => by have := HNo.out j h1 (by omega); rw [HL0.out, HL.out] at this; exact this)
          go_wp2_with (refine wpList_store_row rfl 37 (.tmp 2) (.tmp 113) rfl w.heap.size #[.int .i64 0, .int .i64 0, .int .i64 0, .int .i64 0, .bool false, .int .i64 0, .int .i64 0, .int .i64 0] rfl rfl 37 _ HRk.out HI8.out (by rfl) HO8.out ?_; refine name_q _ (fun w7 hw7 => ?_); have k7 := Lib.hid (show w7.heap[w.heap.size]? = some (.cells #[.int .i64 0, .int .i64 0, .int .i64 0, .int .i64 0, .bool false, .int .i64 0, .int .i64 0, .int .i64 0] 37 (0, 0)) by rw [hw7]; exact setRow_block HRk.out); have b7 := Lib.hid (show Below w.heap.size w w7 by rw [hw7]; exact setRow_below HBw.out (Nat.le_refl _)); clear hw7)
          (refine bodyPost_ret (results_cell_row rfl _ _ w.heap.size 37 #[.int .i64 0, .int .i64 0, .int .i64 0, .int .i64 0, .bool false, .int .i64 0, .int .i64 0, .int .i64 0] (0, 0) _ rfl k7.out Tryd.underlying37 rfl HI8.out) rfl ?_; exact ⟨⟨Ev.zero, HA.out, rfl⟩, b7.out⟩)
end Go.Proofs.YtnebijdifemicaaDoor
