/- (*life.book).join where a new life is laid in. -/
import Derived.Test.YthngedmmeiiklaaAskJ
import Derived.Deep.RegionWith
import Derived.Deep.RegionHeld3
namespace Go.Proofs.Ythngedmmeiiklaa
open Go.RowKit

theorem own_ne {w : World} {B e sz n p : Nat} {v : Value} {xs : List Value} {cs : Array Value} {T : TypeId} {fr : Nat × Nat} (h : w.ownsRow B e sz v n xs) (hp : w.heap[p]? = some (.cells cs T fr)) (hT : e ≠ T) : v.ownBlock ≠ some p := by
  obtain ⟨_, ⟨rfl, _⟩ | ⟨g, cap, cur, rfl, _, hg, _⟩⟩ := h
  · intro e; cases e
  · intro e
    simp only [Value.ownBlock, Option.some.injEq] at e
    subst e
    rw [hg] at hp
    simp only [Option.some.injEq, Obj.cells.injEq] at hp
    exact hT hp.2.1
theorem oneb_Lf (L : List Lf) : ∀ u ∈ (L.map Lf.cells).flatten, u.oneCell' = true := by
  intro u hu
  simp only [List.mem_flatten, List.mem_map] at hu
  obtain ⟨c, ⟨x, _, rfl⟩, hu⟩ := hu
  simp [Lf.cells] at hu
  rcases hu with rfl | rfl | rfl | rfl | rfl | rfl <;> rfl

set_option maxHeartbeats 8000000 in
set_option maxRecDepth 100000 in
theorem prog_join_ins (B p : Nat) (v1 v2 : Value) (L : List Lf) (R : List Rq) (id kd bk wt an : Int) (w : World) (h : BkAt B w p v1 v2 L R) (h12 : L.length ≤ 12) (hr : (0 ≤ bk ∧ bk ≤ 11) ∧ (1 ≤ wt ∧ wt ≤ 8)) (he : idxOf (lfIs bk) L = -1) :
    Calls Try.prog 29 #[.pointer (some ⟨p, 0, none⟩), .agg #[.int .i64 id, .int .i64 kd, .int .i64 bk, .int .i64 wt, .int .i64 an]] w (JnPost B w p v2 (insL L (plN L bk) ⟨bk, 1, wt, 0, 0, 0⟩) R 0) := by
  have H := Lib.hid h; have lp := h.lt; have hB := h.hB; have K0 := Lib.hid (h.below (((Below.refl w.heap.size w).alloc (Nat.le_refl _) (.cells #[.int .i64 id, .int .i64 kd, .int .i64 bk, .int .i64 wt, .int .i64 an] 31)).alloc (by simp) (.cells #[.int .i64 bk, .int .i64 1, .int .i64 wt, .int .i64 0, .int .i64 0, .int .i64 0] 44))); have B0 := Lib.hid (((Below.refl B w).alloc (by omega) (.cells #[.int .i64 id, .int .i64 kd, .int .i64 bk, .int .i64 wt, .int .i64 an] 31)).alloc (by simp; omega) (.cells #[.int .i64 bk, .int .i64 1, .int .i64 wt, .int .i64 0, .int .i64 0, .int .i64 0] 44))
  obtain ⟨a, cap, rfl, _, _⟩ := owns_shape h.o1
  have HV : Hid (fdV (.slice a L.length cap) (idxOf (lfIs bk) L) = .pointer none) := by show fdV _ _ = _; rw [he]; cases a <;> simp [fdV]
  obtain ⟨⟨r0, r1⟩, r2, r3⟩ := hr
  have hlm : (L.length : Int) ≤ 12 := by omega
  clear h he
  go_enter Try.func29, Try.ntmps29
  go_wp2_with fail
  refine (prog_find B p _ v2 L R bk _ K0.out h12).mono ?_
  rintro e w2 ⟨rfl, hb2⟩
  rw [HV.out]
  have hy2 := hb2.size
  simp at hy2
  have K2 := Lib.hid (K0.out.below hb2)
  have B2 := Lib.hid (B0.out.trans (hb2.mono (by simp; omega)))
  have xx := Lib.hid (blk_below hb2 (heap_at (w := w.alloc (.cells #[.int .i64 id, .int .i64 kd, .int .i64 bk, .int .i64 wt, .int .i64 an] 31)) (k := w.heap.size + 1) (.cells #[.int .i64 bk, .int .i64 1, .int .i64 wt, .int .i64 0, .int .i64 0, .int .i64 0] 44) (by simp)) (by simp))
  have xr := Lib.hid (blk_below hb2 ((Below.heap_alloc (w := World.alloc w _) (.cells #[.int .i64 bk, .int .i64 1, .int .i64 wt, .int .i64 0, .int .i64 0, .int .i64 0] 44) w.heap.size (by simp)).trans (heap_at (w := w) (.cells #[.int .i64 id, .int .i64 kd, .int .i64 bk, .int .i64 wt, .int .i64 an] 31) rfl)) (by simp; omega))
  clear hb2
  go_wp2_with fail
  go_loopw [7] (fun i wr => ∃ k : Nat, k ≤ plN L bk ∧ i = .int .i64 k ∧ Below w2.heap.size w2 wr) (fun i _ => L.length - (intOf i).toNat)
  case atStart => exact ⟨0, Nat.zero_le _, rfl, Below.refl _ _⟩
  case round =>
    obtain ⟨k, hk, rfl, hbr⟩ := hrel
    have HBr := Lib.hid hbr
    have KR := Lib.hid (K2.out.below hbr)
    have BR := Lib.hid (B2.out.trans (hbr.mono (by have := K2.out.lt; omega)))
    have sR := hbr.size
    have c0 := blk_cell KR.out.hh 0
    have f0 := blk_free KR.out.hh 0
    have lpr := KR.out.lt
    simp at c0
    have hrr := blk_below hbr xr.out (by omega)
    have hrx := blk_below hbr xx.out (by omega)
    have d2 := blk_cell hrr 2
    have x0 := blk_cell hrx 0
    have x1 := blk_cell hrx 1
    have x2 := blk_cell hrx 2
    have x3 := blk_cell hrx 3
    have x4 := blk_cell hrx 4
    have x5 := blk_cell hrx 5
    simp at d2 x0 x1 x2 x3 x4 x5
    have hpl := plN_le L bk
    clear hbr hrr hrx
    rcases (show k < L.length ∨ L.length = k by omega) with hlt | heq
    · have hlt' : (k : Int) < (L.length : Int) := by omega
      obtain ⟨g, cap', hgv, hg1, hg2⟩ := KR.out.addr hlt
      simp only [Value.slice.injEq] at hgv
      obtain ⟨rfl, _, rfl⟩ := hgv
      have q0 := (KR.out.cell hlt (j := 0) (by omega)).1
      obtain ⟨s, hs⟩ : ∃ s, s = L.getD k Lf.zero := ⟨_, rfl⟩
      rw [← hs] at q0
      have HSg := Lib.hid hs
      obtain ⟨y0, y1, y2, y3, y4, y5⟩ := s
      simp [Lf.cells] at q0
      clear hs
      by_cases hy : y0 < bk
      · have hkp : k + 1 ≤ plN L bk := by
          rcases Nat.lt_or_ge k (plN L bk) with h | h
          · exact h
          · have e : plN L bk = k := by omega
            have := plN_at (L := L) (b := bk) (by omega)
            rw [e, ← HSg.out] at this
            exact absurd hy this
        go_wp2_with fail
        go_quiet (fail)
        go_wp2
        go_roundw
        case rel => exact ⟨k + 1, hkp, by go_num, Below_drewN HBr.out⟩
        case measure => simp [intOf]; omega
      · have hkp : k = plN L bk := by
          rcases Nat.lt_or_ge k (plN L bk) with h | h
          · have := plN_lt (L := L) (b := bk) h
            rw [← HSg.out] at this
            exact absurd this hy
          · omega
        have hy3 : decide (y0 < bk) = false := by simpa using hy
        have HKp := Lib.hid hkp
        clear hkp
        go_wp2_with fail
        go_quiet (fail)
        have KZ0 : BkAt B (wr.drewN nq) p (.slice (some ⟨g, 0, none⟩) L.length cap) v2 L R := KR.out.below (Below_drewN (Below.refl _ _))
        have BZ0 : Below B w (wr.drewN nq) := Below_drewN BR.out
        have zc0 : (wr.drewN nq).cell? ⟨p, 0, none⟩ = some (.slice (some ⟨g, 0, none⟩) L.length cap) := c0
        have zf0 : (wr.drewN nq).frozen? ⟨p, 0, none⟩ = false := f0
        have zx0 : (wr.drewN nq).cell? ⟨w.heap.size + 1, 0, none⟩ = some (.int .i64 bk) := x0
        have zx1 : (wr.drewN nq).cell? ⟨w.heap.size + 1, 1, none⟩ = some (.int .i64 1) := x1
        have zx2 : (wr.drewN nq).cell? ⟨w.heap.size + 1, 2, none⟩ = some (.int .i64 wt) := x2
        have zx3 : (wr.drewN nq).cell? ⟨w.heap.size + 1, 3, none⟩ = some (.int .i64 0) := x3
        have zx4 : (wr.drewN nq).cell? ⟨w.heap.size + 1, 4, none⟩ = some (.int .i64 0) := x4
        have zx5 : (wr.drewN nq).cell? ⟨w.heap.size + 1, 5, none⟩ = some (.int .i64 0) := x5
        have zl : p < (wr.drewN nq).heap.size := lpr
        have zs : w.heap.size + 1 < (wr.drewN nq).heap.size := by show _ < wr.heap.size; omega
        have KZ := Lib.hid KZ0
        have BZ := Lib.hid BZ0
        clear KZ0 BZ0 c0 f0 x0 x1 x2 x3 x4 x5 d2 q0
        go_wp2_with fail
        generalize wr.drewN nq = wz at KZ BZ zc0 zf0 zx0 zx1 zx2 zx3 zx4 zx5 zl zs ⊢
        have hk : k = plN L bk := HKp.out
        have HIns : Hid (Calls Try.prog 37 #[.slice (some ⟨g, 0, none⟩) L.length cap, .int .i64 (k : Int), .slice (some ⟨wz.heap.size, 0, none⟩) 1 1] (wz.alloc (.cells #[.int .i64 bk, .int .i64 1, .int .i64 wt, .int .i64 0, .int .i64 0, .int .i64 0] 44)).drew fun e w5 => ∃ (a' : Option Addr) (cap' : Nat), e = .returned (.slice a' (L.length + 1) cap') ∧ w5.cell? ⟨p, 0, none⟩ = some (.slice (some ⟨g, 0, none⟩) L.length cap) ∧ w5.frozen? ⟨p, 0, none⟩ = false ∧ (w5.cell? ⟨w.heap.size + 1, 0, none⟩ = some (.int .i64 bk) ∧ w5.cell? ⟨w.heap.size + 1, 1, none⟩ = some (.int .i64 1) ∧ w5.cell? ⟨w.heap.size + 1, 2, none⟩ = some (.int .i64 wt) ∧ w5.cell? ⟨w.heap.size + 1, 3, none⟩ = some (.int .i64 0) ∧ w5.cell? ⟨w.heap.size + 1, 4, none⟩ = some (.int .i64 0) ∧ w5.cell? ⟨w.heap.size + 1, 5, none⟩ = some (.int .i64 0)) ∧ Hid (w5.heap[p]? = some (.cells #[.slice (some ⟨g, 0, none⟩) L.length cap, v2] 56 (0, 0)) ∧ w5.ownsRow B 44 6 (.slice a' (L.length + 1) cap') (L.length + 1) ((insL L (plN L bk) ⟨bk, 1, wt, 0, 0, 0⟩).map Lf.cells).flatten ∧ w5.ownsRow B 31 5 v2 R.length (R.map Rq.cells).flatten ∧ Below B w w5)) := by
          have KW : BkAt B (wz.alloc (.cells #[.int .i64 bk, .int .i64 1, .int .i64 wt, .int .i64 0, .int .i64 0, .int .i64 0] 44)).drew p (.slice (some ⟨g, 0, none⟩) L.length cap) v2 L R := KZ.out.below (((Below.refl wz.heap.size wz).alloc (Nat.le_refl _) _).drew)
          have lpw := KZ.out.lt
          have hkl : k ≤ L.length := by rw [hk]; exact plN_le L bk
          have := insLf B (.slice (some ⟨g, 0, none⟩) L.length cap) (L.map Lf.cells) k wz.heap.size (Lf.cells ⟨bk, 1, wt, 0, 0, 0⟩) (wz.alloc (.cells #[.int .i64 bk, .int .i64 1, .int .i64 wt, .int .i64 0, .int .i64 0, .int .i64 0] 44)).drew (by rw [List.length_map]; exact KW.o1) (lenb_Lf L) (oneb_Lf L) rfl (by intro u hu; simp [Lf.cells] at hu; rcases hu with rfl | rfl | rfl | rfl <;> rfl) (by rw [List.length_map]; exact hkl) (by rw [List.length_map]; omega) (heap_at (w := wz) _ rfl) (fun e => by have := (KZ.out.o1.lt _ e).2; omega) (by have := KZ.out.hB; show B ≤ _; simp; omega)
          refine this.mono ?_
          rintro e w5 ⟨v', rfl, ho, hg⟩
          rw [List.length_map] at ho
          obtain ⟨a', cap', rfl, _, _⟩ := owns_shape ho
          have np : some p ≠ (Value.slice (some ⟨g, 0, none⟩) L.length cap).ownBlock := fun e => by have := KZ.out.l1 p e.symm; omega
          have h5 : w5.heap[p]? = some (.cells #[.slice (some ⟨g, 0, none⟩) L.length cap, v2] 56 (0, 0)) := (hg.block p (by simp; omega) np).trans KW.hh
          refine ⟨a', cap', rfl, by rw [blk_cell h5]; rfl, blk_free h5 0, ?_, h5, by rw [insL_map, ← hk]; exact ho, ?_, ?_⟩
          · have nx : some (w.heap.size + 1) ≠ (Value.slice (some ⟨g, 0, none⟩) L.length cap).ownBlock := fun e => by have := KZ.out.l1 _ e.symm; omega
            have hb5 := hg.block (w.heap.size + 1) (by show _ < _; simp; omega) nx
            have e5 : ∀ o, w5.cell? ⟨w.heap.size + 1, o, none⟩ = (wz.alloc (.cells #[.int .i64 bk, .int .i64 1, .int .i64 wt, .int .i64 0, .int .i64 0, .int .i64 0] 44)).drew.cell? ⟨w.heap.size + 1, o, none⟩ := fun o => World.cell?_of_block (a := ⟨w.heap.size + 1, o, none⟩) hb5
            exact ⟨(e5 0).trans (cell_alloc (w := wz) _ zx0), (e5 1).trans (cell_alloc (w := wz) _ zx1), (e5 2).trans (cell_alloc (w := wz) _ zx2), (e5 3).trans (cell_alloc (w := wz) _ zx3), (e5 4).trans (cell_alloc (w := wz) _ zx4), (e5 5).trans (cell_alloc (w := wz) _ zx5)⟩
          · obtain ⟨q1, q2 | ⟨gg, c2, cur, q3, q4, q5, q6⟩⟩ := KW.o2
            · exact ⟨q1, .inl q2⟩
            · refine ⟨q1, .inr ⟨gg, c2, cur, q3, q4, (hg.block gg (lt_of_block q5) ?_).trans q5, q6⟩⟩
              intro e
              exact KW.dis gg e.symm (by rw [q3]; rfl)
          · have hb1 : Below B w (wz.alloc (.cells #[.int .i64 bk, .int .i64 1, .int .i64 wt, .int .i64 0, .int .i64 0, .int .i64 0] 44)).drew := (BZ.out.alloc (by have := KZ.out.hB; omega) _).drew
            refine hb1.grown hg (by have := KZ.out.hB; show B ≤ _; simp; omega) (fun r hr => (KZ.out.o1.lt r hr).1)
        clear hk
        refine wp_region_noPanic ?_
        refine wp_region_held_drew (S := (fun w' => w'.cell? ⟨w.heap.size + 1, 0, none⟩ = some (.int .i64 bk) ∧ w'.cell? ⟨w.heap.size + 1, 1, none⟩ = some (.int .i64 1) ∧ w'.cell? ⟨w.heap.size + 1, 2, none⟩ = some (.int .i64 wt) ∧ w'.cell? ⟨w.heap.size + 1, 3, none⟩ = some (.int .i64 0) ∧ w'.cell? ⟨w.heap.size + 1, 4, none⟩ = some (.int .i64 0) ∧ w'.cell? ⟨w.heap.size + 1, 5, none⟩ = some (.int .i64 0))) (by kernel_rfl) ?hb (fun hHeld => ?_)
        case hb => exact ⟨zx0, zx1, zx2, zx3, zx4, zx5⟩
        have lS : w.heap.size + 1 < wz.heap.size := zs
        have pS : p ≠ w.heap.size + 1 := by omega
        refine wpAnyH_take (i := 0) (v := ?tv0) (by simp only [List.getElem?_toArray, List.getElem?_cons_zero]; exact rfl) (by kernel_rfl) (by kernel_rfl) (by kernel_rfl) (fun _ _ _ h => h) (Or.inl ⟨by rfl, ?ty0⟩) (by assumption) ?_
        case ty0 => (intro w' hSw; (try dsimp only at hSw); obtain ⟨s0, s1, s2, s3, s4, s5⟩ := hSw; go_simp; (try with_reducible rfl))
        (try simp only [Act.put, List.setIfInBounds_toArray, List.set_cons_zero, List.set_cons_succ])
        refine wpAnyH_take (i := 1) (v := ?tv1) (by simp only [List.getElem?_toArray, List.getElem?_cons_zero, List.getElem?_cons_succ]; exact rfl) (by kernel_rfl) (by kernel_rfl) (by kernel_rfl) (fun _ _ _ h => h) (Or.inl ⟨by rfl, ?ty1⟩) (by assumption) ?_
        case ty1 => (intro w' hSw; (try dsimp only at hSw); obtain ⟨s0, s1, s2, s3, s4, s5⟩ := hSw; go_simp; (try with_reducible rfl))
        (try simp only [Act.put, List.setIfInBounds_toArray, List.set_cons_zero, List.set_cons_succ])
        refine wpAnyH_take (i := 2) (v := ?tv2) (by simp only [List.getElem?_toArray, List.getElem?_cons_zero, List.getElem?_cons_succ]; exact rfl) (by kernel_rfl) (by kernel_rfl) (by kernel_rfl) (fun _ _ _ h => h) (Or.inl ⟨by rfl, ?ty2⟩) (by assumption) ?_
        case ty2 => (intro w' hSw; (try dsimp only at hSw); obtain ⟨s0, s1, s2, s3, s4, s5⟩ := hSw; go_simp; (try with_reducible rfl))
        (try simp only [Act.put, List.setIfInBounds_toArray, List.set_cons_zero, List.set_cons_succ])
        refine wpAnyH_take (i := 3) (v := ?tv3) (by simp only [List.getElem?_toArray, List.getElem?_cons_zero, List.getElem?_cons_succ]; exact rfl) (by kernel_rfl) (by kernel_rfl) (by kernel_rfl) (fun _ _ _ h => h) (Or.inl ⟨by rfl, ?ty3⟩) (by assumption) ?_
        case ty3 => (intro w' hSw; (try dsimp only at hSw); obtain ⟨s0, s1, s2, s3, s4, s5⟩ := hSw; go_simp; (try with_reducible rfl))
        (try simp only [Act.put, List.setIfInBounds_toArray, List.set_cons_zero, List.set_cons_succ])
        refine wpAnyH_take (i := 4) (v := ?tv4) (by simp only [List.getElem?_toArray, List.getElem?_cons_zero, List.getElem?_cons_succ]; exact rfl) (by kernel_rfl) (by kernel_rfl) (by kernel_rfl) (fun _ _ _ h => h) (Or.inl ⟨by rfl, ?ty4⟩) (by assumption) ?_
        case ty4 => (intro w' hSw; (try dsimp only at hSw); obtain ⟨s0, s1, s2, s3, s4, s5⟩ := hSw; go_simp; (try with_reducible rfl))
        (try simp only [Act.put, List.setIfInBounds_toArray, List.set_cons_zero, List.set_cons_succ])
        refine wpAnyH_take (i := 6) (v := ?tv6) (by simp only [List.getElem?_toArray, List.getElem?_cons_zero, List.getElem?_cons_succ]; exact rfl) (by kernel_rfl) (by kernel_rfl) (by kernel_rfl) (fun _ _ _ h => h) (Or.inl ⟨by rfl, ?ty6⟩) (by assumption) ?_
        case ty6 => (intro w' hSw; (try dsimp only at hSw); obtain ⟨s0, s1, s2, s3, s4, s5⟩ := hSw; go_simp; (try with_reducible rfl))
        (try simp only [Act.put, List.setIfInBounds_toArray, List.set_cons_zero, List.set_cons_succ])
        refine wpAnyH_take (i := 7) (v := ?tv7) (by simp only [List.getElem?_toArray, List.getElem?_cons_zero, List.getElem?_cons_succ]; exact rfl) (by kernel_rfl) (by kernel_rfl) (by kernel_rfl) (fun _ _ _ h => h) (Or.inl ⟨by rfl, ?ty7⟩) (by assumption) ?_
        case ty7 => (intro w' hSw; (try dsimp only at hSw); obtain ⟨s0, s1, s2, s3, s4, s5⟩ := hSw; go_simp; (try with_reducible rfl))
        (try simp only [Act.put, List.setIfInBounds_toArray, List.set_cons_zero, List.set_cons_succ])
        refine wpAnyH_ready (rs := [5, 8]) (by kernel_rfl) (by simp) ?_
        refine AllReadyH.cons (by simp only [List.getElem?_toArray, List.getElem?_cons_zero, List.getElem?_cons_succ]; exact rfl) (fun K hK => ?_) (AllReadyH.cons (by simp only [List.getElem?_toArray, List.getElem?_cons_zero, List.getElem?_cons_succ]; exact rfl) (fun K hK => ?_) AllReadyH.nil)
        · skip
          go_simp
          refine hK.out _ _ ?as5 (fun hHeld => ?_)
          case as5 => exact hHeld
          clear hK K
          (try simp only [Act.put, List.setIfInBounds_toArray, List.set_cons_zero, List.set_cons_succ])
          refine wpAnyH_ready (rs := [8]) (by kernel_rfl) (by simp) ?_
          refine AllReadyH.cons (by simp only [List.getElem?_toArray, List.getElem?_cons_zero, List.getElem?_cons_succ]; exact rfl) (fun K hK => ?_) AllReadyH.nil
          go_simp
          refine hK.out _ _ ?as8 (fun hHeld => ?_)
          case as8 => (obtain ⟨s0, s1, s2, s3, s4, s5⟩ := hHeld; exact ⟨cell_alloc _ s0, cell_alloc _ s1, cell_alloc _ s2, cell_alloc _ s3, cell_alloc _ s4, cell_alloc _ s5⟩)
          clear hK K
          (try simp only [Act.put, List.setIfInBounds_toArray, List.set_cons_zero, List.set_cons_succ])
          refine wpAnyH_ready (rs := [9]) (by kernel_rfl) (by simp) ?_
          refine AllReadyH.cons (by simp only [List.getElem?_toArray, List.getElem?_cons_zero, List.getElem?_cons_succ]; exact rfl) (fun K hK => ?_) AllReadyH.nil
          go_simp
          go_at_call 37
          refine HIns.out.mono ?_
          rintro e w5 ⟨a', cap', rfl, c5, f5, S5, HRest⟩
          go_wp2_with fail
          refine hK.out _ _ ?as9 (fun hHeld => ?_)
          case as9 => exact S5
          clear hK K
          (try simp only [Act.put, List.setIfInBounds_toArray, List.set_cons_zero, List.set_cons_succ])
          refine wpAnyH_take (i := 10) (v := ?av10) (by simp only [List.getElem?_toArray, List.getElem?_cons_zero, List.getElem?_cons_succ]; exact rfl) (by kernel_rfl) (by kernel_rfl) (by kernel_rfl) (fun _ _ _ h => h) (Or.inl ⟨by rfl, ?ay10⟩) (by assumption) ?_
          case ay10 => (intro w' hSw; (try dsimp only at hSw); obtain ⟨s0, s1, s2, s3, s4, s5⟩ := hSw; go_simp; (try with_reducible rfl))
          (try simp only [Act.put, List.setIfInBounds_toArray, List.set_cons_zero, List.set_cons_succ])
          refine wpAnyH_take (i := 11) (v := ?av11) (by simp only [List.getElem?_toArray, List.getElem?_cons_zero, List.getElem?_cons_succ]; exact rfl) (by kernel_rfl) (by kernel_rfl) (by kernel_rfl) (fun _ _ _ h => h) (Or.inl ⟨by rfl, ?ay11⟩) (by assumption) ?_
          case ay11 => (intro w' hSw; (try dsimp only at hSw); obtain ⟨s0, s1, s2, s3, s4, s5⟩ := hSw; go_simp; (try with_reducible rfl))
          (try simp only [Act.put, List.setIfInBounds_toArray, List.set_cons_zero, List.set_cons_succ])
          refine wpAnyH_take (i := 12) (v := ?av12) (by simp only [List.getElem?_toArray, List.getElem?_cons_zero, List.getElem?_cons_succ]; exact rfl) (by kernel_rfl) (by kernel_rfl) (by kernel_rfl) (fun _ _ _ h => h) (Or.inl ⟨by rfl, ?ay12⟩) (by assumption) ?_
          case ay12 => (intro w' hSw; (try dsimp only at hSw); obtain ⟨s0, s1, s2, s3, s4, s5⟩ := hSw; go_simp; (try with_reducible rfl))
          (try simp only [Act.put, List.setIfInBounds_toArray, List.set_cons_zero, List.set_cons_succ])
          refine wpAnyH_ready (rs := [13]) (by kernel_rfl) (by simp) ?_
          refine AllReadyH.cons (by simp only [List.getElem?_toArray, List.getElem?_cons_zero, List.getElem?_cons_succ]; exact rfl) (fun K hK => ?_) AllReadyH.nil
          go_simp
          refine hK.out _ _ ?as13 (fun hHeld => ?_)
          case as13 => (obtain ⟨s0, s1, s2, s3, s4, s5⟩ := hHeld; exact ⟨(cell_set_ne (by omega)).trans s0, (cell_set_ne (by omega)).trans s1, (cell_set_ne (by omega)).trans s2, (cell_set_ne (by omega)).trans s3, (cell_set_ne (by omega)).trans s4, (cell_set_ne (by omega)).trans s5⟩)
          clear hK K
          (try simp only [Act.put, List.setIfInBounds_toArray, List.set_cons_zero, List.set_cons_succ])
          refine wpAnyH_done (by kernel_rfl) ?_ _
          refine NoPanic.normal ?_
          obtain ⟨h5, ho1, ho2, hb5⟩ := HRest.out
          have HO : Hid (BkO B (w5.setCell ⟨p, 0, none⟩ (.slice a' (L.length + 1) cap')) p (.slice a' (L.length + 1) cap') v2 (insL L (plN L bk) ⟨bk, 1, wt, 0, 0, 0⟩) R) := by
            refine ⟨hB, blk_set h5 _, ?_, ?_⟩
            · rw [insL_len _ _ _ (plN_le L bk)]; exact ownsRow_setCell_other ho1 (own_ne ho1 h5 (by decide)) _
            · exact ownsRow_setCell_other ho2 (own_ne ho2 h5 (by decide)) _
          have HBF := Lib.hid (hb5.setCell (p := ⟨p, 0, none⟩) hB (.slice a' (L.length + 1) cap'))
          clear h5 ho1 ho2 hb5 c5 f5
          go_wp2
          all_goals first | (go_ret; exact ⟨rfl, ⟨_, HO.out⟩, HBF.out⟩) | (exfalso; first | omega | (simp at *; omega) | (simp at *; done))
        · skip
          go_simp
          refine hK.out _ _ ?bs8 (fun hHeld => ?_)
          case bs8 => (obtain ⟨s0, s1, s2, s3, s4, s5⟩ := hHeld; exact ⟨cell_alloc _ s0, cell_alloc _ s1, cell_alloc _ s2, cell_alloc _ s3, cell_alloc _ s4, cell_alloc _ s5⟩)
          clear hK K
          (try simp only [Act.put, List.setIfInBounds_toArray, List.set_cons_zero, List.set_cons_succ])
          refine wpAnyH_ready (rs := [5]) (by kernel_rfl) (by simp) ?_
          refine AllReadyH.cons (by simp only [List.getElem?_toArray, List.getElem?_cons_zero, List.getElem?_cons_succ]; exact rfl) (fun K hK => ?_) AllReadyH.nil
          go_simp
          refine hK.out _ _ ?bs5 (fun hHeld => ?_)
          case bs5 => exact hHeld
          clear hK K
          (try simp only [Act.put, List.setIfInBounds_toArray, List.set_cons_zero, List.set_cons_succ])
          refine wpAnyH_ready (rs := [9]) (by kernel_rfl) (by simp) ?_
          refine AllReadyH.cons (by simp only [List.getElem?_toArray, List.getElem?_cons_zero, List.getElem?_cons_succ]; exact rfl) (fun K hK => ?_) AllReadyH.nil
          go_simp
          go_at_call 37
          refine HIns.out.mono ?_
          rintro e w5 ⟨a', cap', rfl, c5, f5, S5, HRest⟩
          go_wp2_with fail
          refine hK.out _ _ ?bs9 (fun hHeld => ?_)
          case bs9 => exact S5
          clear hK K
          (try simp only [Act.put, List.setIfInBounds_toArray, List.set_cons_zero, List.set_cons_succ])
          refine wpAnyH_take (i := 10) (v := ?bv10) (by simp only [List.getElem?_toArray, List.getElem?_cons_zero, List.getElem?_cons_succ]; exact rfl) (by kernel_rfl) (by kernel_rfl) (by kernel_rfl) (fun _ _ _ h => h) (Or.inl ⟨by rfl, ?by10⟩) (by assumption) ?_
          case by10 => (intro w' hSw; (try dsimp only at hSw); obtain ⟨s0, s1, s2, s3, s4, s5⟩ := hSw; go_simp; (try with_reducible rfl))
          (try simp only [Act.put, List.setIfInBounds_toArray, List.set_cons_zero, List.set_cons_succ])
          refine wpAnyH_take (i := 11) (v := ?bv11) (by simp only [List.getElem?_toArray, List.getElem?_cons_zero, List.getElem?_cons_succ]; exact rfl) (by kernel_rfl) (by kernel_rfl) (by kernel_rfl) (fun _ _ _ h => h) (Or.inl ⟨by rfl, ?by11⟩) (by assumption) ?_
          case by11 => (intro w' hSw; (try dsimp only at hSw); obtain ⟨s0, s1, s2, s3, s4, s5⟩ := hSw; go_simp; (try with_reducible rfl))
          (try simp only [Act.put, List.setIfInBounds_toArray, List.set_cons_zero, List.set_cons_succ])
          refine wpAnyH_take (i := 12) (v := ?bv12) (by simp only [List.getElem?_toArray, List.getElem?_cons_zero, List.getElem?_cons_succ]; exact rfl) (by kernel_rfl) (by kernel_rfl) (by kernel_rfl) (fun _ _ _ h => h) (Or.inl ⟨by rfl, ?by12⟩) (by assumption) ?_
          case by12 => (intro w' hSw; (try dsimp only at hSw); obtain ⟨s0, s1, s2, s3, s4, s5⟩ := hSw; go_simp; (try with_reducible rfl))
          (try simp only [Act.put, List.setIfInBounds_toArray, List.set_cons_zero, List.set_cons_succ])
          refine wpAnyH_ready (rs := [13]) (by kernel_rfl) (by simp) ?_
          refine AllReadyH.cons (by simp only [List.getElem?_toArray, List.getElem?_cons_zero, List.getElem?_cons_succ]; exact rfl) (fun K hK => ?_) AllReadyH.nil
          go_simp
          refine hK.out _ _ ?bs13 (fun hHeld => ?_)
          case bs13 => (obtain ⟨s0, s1, s2, s3, s4, s5⟩ := hHeld; exact ⟨(cell_set_ne (by omega)).trans s0, (cell_set_ne (by omega)).trans s1, (cell_set_ne (by omega)).trans s2, (cell_set_ne (by omega)).trans s3, (cell_set_ne (by omega)).trans s4, (cell_set_ne (by omega)).trans s5⟩)
          clear hK K
          (try simp only [Act.put, List.setIfInBounds_toArray, List.set_cons_zero, List.set_cons_succ])
          refine wpAnyH_done (by kernel_rfl) ?_ _
          refine NoPanic.normal ?_
          obtain ⟨h5, ho1, ho2, hb5⟩ := HRest.out
          have HO : Hid (BkO B (w5.setCell ⟨p, 0, none⟩ (.slice a' (L.length + 1) cap')) p (.slice a' (L.length + 1) cap') v2 (insL L (plN L bk) ⟨bk, 1, wt, 0, 0, 0⟩) R) := by
            refine ⟨hB, blk_set h5 _, ?_, ?_⟩
            · rw [insL_len _ _ _ (plN_le L bk)]; exact ownsRow_setCell_other ho1 (own_ne ho1 h5 (by decide)) _
            · exact ownsRow_setCell_other ho2 (own_ne ho2 h5 (by decide)) _
          have HBF := Lib.hid (hb5.setCell (p := ⟨p, 0, none⟩) hB (.slice a' (L.length + 1) cap'))
          clear h5 ho1 ho2 hb5 c5 f5
          go_wp2
          all_goals first | (go_ret; exact ⟨rfl, ⟨_, HO.out⟩, HBF.out⟩) | (exfalso; first | omega | (simp at *; omega) | (simp at *; done))
    · have hge : ¬ (k : Int) < (L.length : Int) := by omega
      have HKp : Hid (k = plN L bk) := by show k = _; omega
      have hgeN : ¬ k < L.length := by omega
      have hgeL : L.length ≤ k := by omega
      have hgeD : decide ((k : Int) < (L.length : Int)) = false := by simpa using hgeN
      clear heq
      go_wp2_with fail
      go_quiet (fail)
      have KZ0 : BkAt B (wr.drewN nq) p (.slice a L.length cap) v2 L R := KR.out.below (Below_drewN (Below.refl _ _))
      have BZ0 : Below B w (wr.drewN nq) := Below_drewN BR.out
      have zc0 : (wr.drewN nq).cell? ⟨p, 0, none⟩ = some (.slice a L.length cap) := c0
      have zf0 : (wr.drewN nq).frozen? ⟨p, 0, none⟩ = false := f0
      have zx0 : (wr.drewN nq).cell? ⟨w.heap.size + 1, 0, none⟩ = some (.int .i64 bk) := x0
      have zx1 : (wr.drewN nq).cell? ⟨w.heap.size + 1, 1, none⟩ = some (.int .i64 1) := x1
      have zx2 : (wr.drewN nq).cell? ⟨w.heap.size + 1, 2, none⟩ = some (.int .i64 wt) := x2
      have zx3 : (wr.drewN nq).cell? ⟨w.heap.size + 1, 3, none⟩ = some (.int .i64 0) := x3
      have zx4 : (wr.drewN nq).cell? ⟨w.heap.size + 1, 4, none⟩ = some (.int .i64 0) := x4
      have zx5 : (wr.drewN nq).cell? ⟨w.heap.size + 1, 5, none⟩ = some (.int .i64 0) := x5
      have zl : p < (wr.drewN nq).heap.size := lpr
      have zs : w.heap.size + 1 < (wr.drewN nq).heap.size := by show _ < wr.heap.size; omega
      have KZ := Lib.hid KZ0
      have BZ := Lib.hid BZ0
      clear KZ0 BZ0 c0 f0 x0 x1 x2 x3 x4 x5 d2 hge hgeN hgeL hgeD
      go_wp2_with fail
      generalize wr.drewN nq = wz at KZ BZ zc0 zf0 zx0 zx1 zx2 zx3 zx4 zx5 zl zs ⊢
      have hk : k = plN L bk := HKp.out
      have HIns : Hid (Calls Try.prog 37 #[.slice a L.length cap, .int .i64 (k : Int), .slice (some ⟨wz.heap.size, 0, none⟩) 1 1] (wz.alloc (.cells #[.int .i64 bk, .int .i64 1, .int .i64 wt, .int .i64 0, .int .i64 0, .int .i64 0] 44)).drew fun e w5 => ∃ (a' : Option Addr) (cap' : Nat), e = .returned (.slice a' (L.length + 1) cap') ∧ w5.cell? ⟨p, 0, none⟩ = some (.slice a L.length cap) ∧ w5.frozen? ⟨p, 0, none⟩ = false ∧ (w5.cell? ⟨w.heap.size + 1, 0, none⟩ = some (.int .i64 bk) ∧ w5.cell? ⟨w.heap.size + 1, 1, none⟩ = some (.int .i64 1) ∧ w5.cell? ⟨w.heap.size + 1, 2, none⟩ = some (.int .i64 wt) ∧ w5.cell? ⟨w.heap.size + 1, 3, none⟩ = some (.int .i64 0) ∧ w5.cell? ⟨w.heap.size + 1, 4, none⟩ = some (.int .i64 0) ∧ w5.cell? ⟨w.heap.size + 1, 5, none⟩ = some (.int .i64 0)) ∧ Hid (w5.heap[p]? = some (.cells #[.slice a L.length cap, v2] 56 (0, 0)) ∧ w5.ownsRow B 44 6 (.slice a' (L.length + 1) cap') (L.length + 1) ((insL L (plN L bk) ⟨bk, 1, wt, 0, 0, 0⟩).map Lf.cells).flatten ∧ w5.ownsRow B 31 5 v2 R.length (R.map Rq.cells).flatten ∧ Below B w w5)) := by
        have KW : BkAt B (wz.alloc (.cells #[.int .i64 bk, .int .i64 1, .int .i64 wt, .int .i64 0, .int .i64 0, .int .i64 0] 44)).drew p (.slice a L.length cap) v2 L R := KZ.out.below (((Below.refl wz.heap.size wz).alloc (Nat.le_refl _) _).drew)
        have lpw := KZ.out.lt
        have hkl : k ≤ L.length := by rw [hk]; exact plN_le L bk
        have := insLf B (.slice a L.length cap) (L.map Lf.cells) k wz.heap.size (Lf.cells ⟨bk, 1, wt, 0, 0, 0⟩) (wz.alloc (.cells #[.int .i64 bk, .int .i64 1, .int .i64 wt, .int .i64 0, .int .i64 0, .int .i64 0] 44)).drew (by rw [List.length_map]; exact KW.o1) (lenb_Lf L) (oneb_Lf L) rfl (by intro u hu; simp [Lf.cells] at hu; rcases hu with rfl | rfl | rfl | rfl <;> rfl) (by rw [List.length_map]; exact hkl) (by rw [List.length_map]; omega) (heap_at (w := wz) _ rfl) (fun e => by have := (KZ.out.o1.lt _ e).2; omega) (by have := KZ.out.hB; show B ≤ _; simp; omega)
        refine this.mono ?_
        rintro e w5 ⟨v', rfl, ho, hg⟩
        rw [List.length_map] at ho
        obtain ⟨a', cap', rfl, _, _⟩ := owns_shape ho
        have np : some p ≠ (Value.slice a L.length cap).ownBlock := fun e => by have := KZ.out.l1 p e.symm; omega
        have h5 : w5.heap[p]? = some (.cells #[.slice a L.length cap, v2] 56 (0, 0)) := (hg.block p (by simp; omega) np).trans KW.hh
        refine ⟨a', cap', rfl, by rw [blk_cell h5]; rfl, blk_free h5 0, ?_, h5, by rw [insL_map, ← hk]; exact ho, ?_, ?_⟩
        · have nx : some (w.heap.size + 1) ≠ (Value.slice a L.length cap).ownBlock := fun e => by have := KZ.out.l1 _ e.symm; omega
          have hb5 := hg.block (w.heap.size + 1) (by show _ < _; simp; omega) nx
          have e5 : ∀ o, w5.cell? ⟨w.heap.size + 1, o, none⟩ = (wz.alloc (.cells #[.int .i64 bk, .int .i64 1, .int .i64 wt, .int .i64 0, .int .i64 0, .int .i64 0] 44)).drew.cell? ⟨w.heap.size + 1, o, none⟩ := fun o => World.cell?_of_block (a := ⟨w.heap.size + 1, o, none⟩) hb5
          exact ⟨(e5 0).trans (cell_alloc (w := wz) _ zx0), (e5 1).trans (cell_alloc (w := wz) _ zx1), (e5 2).trans (cell_alloc (w := wz) _ zx2), (e5 3).trans (cell_alloc (w := wz) _ zx3), (e5 4).trans (cell_alloc (w := wz) _ zx4), (e5 5).trans (cell_alloc (w := wz) _ zx5)⟩
        · obtain ⟨q1, q2 | ⟨gg, c2, cur, q3, q4, q5, q6⟩⟩ := KW.o2
          · exact ⟨q1, .inl q2⟩
          · refine ⟨q1, .inr ⟨gg, c2, cur, q3, q4, (hg.block gg (lt_of_block q5) ?_).trans q5, q6⟩⟩
            intro e
            exact KW.dis gg e.symm (by rw [q3]; rfl)
        · have hb1 : Below B w (wz.alloc (.cells #[.int .i64 bk, .int .i64 1, .int .i64 wt, .int .i64 0, .int .i64 0, .int .i64 0] 44)).drew := (BZ.out.alloc (by have := KZ.out.hB; omega) _).drew
          refine hb1.grown hg (by have := KZ.out.hB; show B ≤ _; simp; omega) (fun r hr => (KZ.out.o1.lt r hr).1)
      clear hk
      refine wp_region_noPanic ?_
      refine wp_region_held_drew (S := (fun w' => w'.cell? ⟨w.heap.size + 1, 0, none⟩ = some (.int .i64 bk) ∧ w'.cell? ⟨w.heap.size + 1, 1, none⟩ = some (.int .i64 1) ∧ w'.cell? ⟨w.heap.size + 1, 2, none⟩ = some (.int .i64 wt) ∧ w'.cell? ⟨w.heap.size + 1, 3, none⟩ = some (.int .i64 0) ∧ w'.cell? ⟨w.heap.size + 1, 4, none⟩ = some (.int .i64 0) ∧ w'.cell? ⟨w.heap.size + 1, 5, none⟩ = some (.int .i64 0))) (by kernel_rfl) ?hb (fun hHeld => ?_)
      case hb => exact ⟨zx0, zx1, zx2, zx3, zx4, zx5⟩
      have lS : w.heap.size + 1 < wz.heap.size := zs
      have pS : p ≠ w.heap.size + 1 := by omega
      refine wpAnyH_take (i := 0) (v := ?tv0) (by simp only [List.getElem?_toArray, List.getElem?_cons_zero]; exact rfl) (by kernel_rfl) (by kernel_rfl) (by kernel_rfl) (fun _ _ _ h => h) (Or.inl ⟨by rfl, ?ty0⟩) (by assumption) ?_
      case ty0 => (intro w' hSw; (try dsimp only at hSw); obtain ⟨s0, s1, s2, s3, s4, s5⟩ := hSw; go_simp; (try with_reducible rfl))
      (try simp only [Act.put, List.setIfInBounds_toArray, List.set_cons_zero, List.set_cons_succ])
      refine wpAnyH_take (i := 1) (v := ?tv1) (by simp only [List.getElem?_toArray, List.getElem?_cons_zero, List.getElem?_cons_succ]; exact rfl) (by kernel_rfl) (by kernel_rfl) (by kernel_rfl) (fun _ _ _ h => h) (Or.inl ⟨by rfl, ?ty1⟩) (by assumption) ?_
      case ty1 => (intro w' hSw; (try dsimp only at hSw); obtain ⟨s0, s1, s2, s3, s4, s5⟩ := hSw; go_simp; (try with_reducible rfl))
      (try simp only [Act.put, List.setIfInBounds_toArray, List.set_cons_zero, List.set_cons_succ])
      refine wpAnyH_take (i := 2) (v := ?tv2) (by simp only [List.getElem?_toArray, List.getElem?_cons_zero, List.getElem?_cons_succ]; exact rfl) (by kernel_rfl) (by kernel_rfl) (by kernel_rfl) (fun _ _ _ h => h) (Or.inl ⟨by rfl, ?ty2⟩) (by assumption) ?_
      case ty2 => (intro w' hSw; (try dsimp only at hSw); obtain ⟨s0, s1, s2, s3, s4, s5⟩ := hSw; go_simp; (try with_reducible rfl))
      (try simp only [Act.put, List.setIfInBounds_toArray, List.set_cons_zero, List.set_cons_succ])
      refine wpAnyH_take (i := 3) (v := ?tv3) (by simp only [List.getElem?_toArray, List.getElem?_cons_zero, List.getElem?_cons_succ]; exact rfl) (by kernel_rfl) (by kernel_rfl) (by kernel_rfl) (fun _ _ _ h => h) (Or.inl ⟨by rfl, ?ty3⟩) (by assumption) ?_
      case ty3 => (intro w' hSw; (try dsimp only at hSw); obtain ⟨s0, s1, s2, s3, s4, s5⟩ := hSw; go_simp; (try with_reducible rfl))
      (try simp only [Act.put, List.setIfInBounds_toArray, List.set_cons_zero, List.set_cons_succ])
      refine wpAnyH_take (i := 4) (v := ?tv4) (by simp only [List.getElem?_toArray, List.getElem?_cons_zero, List.getElem?_cons_succ]; exact rfl) (by kernel_rfl) (by kernel_rfl) (by kernel_rfl) (fun _ _ _ h => h) (Or.inl ⟨by rfl, ?ty4⟩) (by assumption) ?_
      case ty4 => (intro w' hSw; (try dsimp only at hSw); obtain ⟨s0, s1, s2, s3, s4, s5⟩ := hSw; go_simp; (try with_reducible rfl))
      (try simp only [Act.put, List.setIfInBounds_toArray, List.set_cons_zero, List.set_cons_succ])
      refine wpAnyH_take (i := 6) (v := ?tv6) (by simp only [List.getElem?_toArray, List.getElem?_cons_zero, List.getElem?_cons_succ]; exact rfl) (by kernel_rfl) (by kernel_rfl) (by kernel_rfl) (fun _ _ _ h => h) (Or.inl ⟨by rfl, ?ty6⟩) (by assumption) ?_
      case ty6 => (intro w' hSw; (try dsimp only at hSw); obtain ⟨s0, s1, s2, s3, s4, s5⟩ := hSw; go_simp; (try with_reducible rfl))
      (try simp only [Act.put, List.setIfInBounds_toArray, List.set_cons_zero, List.set_cons_succ])
      refine wpAnyH_take (i := 7) (v := ?tv7) (by simp only [List.getElem?_toArray, List.getElem?_cons_zero, List.getElem?_cons_succ]; exact rfl) (by kernel_rfl) (by kernel_rfl) (by kernel_rfl) (fun _ _ _ h => h) (Or.inl ⟨by rfl, ?ty7⟩) (by assumption) ?_
      case ty7 => (intro w' hSw; (try dsimp only at hSw); obtain ⟨s0, s1, s2, s3, s4, s5⟩ := hSw; go_simp; (try with_reducible rfl))
      (try simp only [Act.put, List.setIfInBounds_toArray, List.set_cons_zero, List.set_cons_succ])
      refine wpAnyH_ready (rs := [5, 8]) (by kernel_rfl) (by simp) ?_
      refine AllReadyH.cons (by simp only [List.getElem?_toArray, List.getElem?_cons_zero, List.getElem?_cons_succ]; exact rfl) (fun K hK => ?_) (AllReadyH.cons (by simp only [List.getElem?_toArray, List.getElem?_cons_zero, List.getElem?_cons_succ]; exact rfl) (fun K hK => ?_) AllReadyH.nil)
      · skip
        go_simp
        refine hK.out _ _ ?as5 (fun hHeld => ?_)
        case as5 => exact hHeld
        clear hK K
        (try simp only [Act.put, List.setIfInBounds_toArray, List.set_cons_zero, List.set_cons_succ])
        refine wpAnyH_ready (rs := [8]) (by kernel_rfl) (by simp) ?_
        refine AllReadyH.cons (by simp only [List.getElem?_toArray, List.getElem?_cons_zero, List.getElem?_cons_succ]; exact rfl) (fun K hK => ?_) AllReadyH.nil
        go_simp
        refine hK.out _ _ ?as8 (fun hHeld => ?_)
        case as8 => (obtain ⟨s0, s1, s2, s3, s4, s5⟩ := hHeld; exact ⟨cell_alloc _ s0, cell_alloc _ s1, cell_alloc _ s2, cell_alloc _ s3, cell_alloc _ s4, cell_alloc _ s5⟩)
        clear hK K
        (try simp only [Act.put, List.setIfInBounds_toArray, List.set_cons_zero, List.set_cons_succ])
        refine wpAnyH_ready (rs := [9]) (by kernel_rfl) (by simp) ?_
        refine AllReadyH.cons (by simp only [List.getElem?_toArray, List.getElem?_cons_zero, List.getElem?_cons_succ]; exact rfl) (fun K hK => ?_) AllReadyH.nil
        go_simp
        go_at_call 37
        refine HIns.out.mono ?_
        rintro e w5 ⟨a', cap', rfl, c5, f5, S5, HRest⟩
        go_wp2_with fail
        refine hK.out _ _ ?as9 (fun hHeld => ?_)
        case as9 => exact S5
        clear hK K
        (try simp only [Act.put, List.setIfInBounds_toArray, List.set_cons_zero, List.set_cons_succ])
        refine wpAnyH_take (i := 10) (v := ?av10) (by simp only [List.getElem?_toArray, List.getElem?_cons_zero, List.getElem?_cons_succ]; exact rfl) (by kernel_rfl) (by kernel_rfl) (by kernel_rfl) (fun _ _ _ h => h) (Or.inl ⟨by rfl, ?ay10⟩) (by assumption) ?_
        case ay10 => (intro w' hSw; (try dsimp only at hSw); obtain ⟨s0, s1, s2, s3, s4, s5⟩ := hSw; go_simp; (try with_reducible rfl))
        (try simp only [Act.put, List.setIfInBounds_toArray, List.set_cons_zero, List.set_cons_succ])
        refine wpAnyH_take (i := 11) (v := ?av11) (by simp only [List.getElem?_toArray, List.getElem?_cons_zero, List.getElem?_cons_succ]; exact rfl) (by kernel_rfl) (by kernel_rfl) (by kernel_rfl) (fun _ _ _ h => h) (Or.inl ⟨by rfl, ?ay11⟩) (by assumption) ?_
        case ay11 => (intro w' hSw; (try dsimp only at hSw); obtain ⟨s0, s1, s2, s3, s4, s5⟩ := hSw; go_simp; (try with_reducible rfl))
        (try simp only [Act.put, List.setIfInBounds_toArray, List.set_cons_zero, List.set_cons_succ])
        refine wpAnyH_take (i := 12) (v := ?av12) (by simp only [List.getElem?_toArray, List.getElem?_cons_zero, List.getElem?_cons_succ]; exact rfl) (by kernel_rfl) (by kernel_rfl) (by kernel_rfl) (fun _ _ _ h => h) (Or.inl ⟨by rfl, ?ay12⟩) (by assumption) ?_
        case ay12 => (intro w' hSw; (try dsimp only at hSw); obtain ⟨s0, s1, s2, s3, s4, s5⟩ := hSw; go_simp; (try with_reducible rfl))
        (try simp only [Act.put, List.setIfInBounds_toArray, List.set_cons_zero, List.set_cons_succ])
        refine wpAnyH_ready (rs := [13]) (by kernel_rfl) (by simp) ?_
        refine AllReadyH.cons (by simp only [List.getElem?_toArray, List.getElem?_cons_zero, List.getElem?_cons_succ]; exact rfl) (fun K hK => ?_) AllReadyH.nil
        go_simp
        refine hK.out _ _ ?as13 (fun hHeld => ?_)
        case as13 => (obtain ⟨s0, s1, s2, s3, s4, s5⟩ := hHeld; exact ⟨(cell_set_ne (by omega)).trans s0, (cell_set_ne (by omega)).trans s1, (cell_set_ne (by omega)).trans s2, (cell_set_ne (by omega)).trans s3, (cell_set_ne (by omega)).trans s4, (cell_set_ne (by omega)).trans s5⟩)
        clear hK K
        (try simp only [Act.put, List.setIfInBounds_toArray, List.set_cons_zero, List.set_cons_succ])
        refine wpAnyH_done (by kernel_rfl) ?_ _
        refine NoPanic.normal ?_
        obtain ⟨h5, ho1, ho2, hb5⟩ := HRest.out
        have HO : Hid (BkO B (w5.setCell ⟨p, 0, none⟩ (.slice a' (L.length + 1) cap')) p (.slice a' (L.length + 1) cap') v2 (insL L (plN L bk) ⟨bk, 1, wt, 0, 0, 0⟩) R) := by
          refine ⟨hB, blk_set h5 _, ?_, ?_⟩
          · rw [insL_len _ _ _ (plN_le L bk)]; exact ownsRow_setCell_other ho1 (own_ne ho1 h5 (by decide)) _
          · exact ownsRow_setCell_other ho2 (own_ne ho2 h5 (by decide)) _
        have HBF := Lib.hid (hb5.setCell (p := ⟨p, 0, none⟩) hB (.slice a' (L.length + 1) cap'))
        clear h5 ho1 ho2 hb5 c5 f5
        go_wp2
        all_goals first | (go_ret; exact ⟨rfl, ⟨_, HO.out⟩, HBF.out⟩) | (exfalso; first | omega | (simp at *; omega) | (simp at *; done))
      · skip
        go_simp
        refine hK.out _ _ ?bs8 (fun hHeld => ?_)
        case bs8 => (obtain ⟨s0, s1, s2, s3, s4, s5⟩ := hHeld; exact ⟨cell_alloc _ s0, cell_alloc _ s1, cell_alloc _ s2, cell_alloc _ s3, cell_alloc _ s4, cell_alloc _ s5⟩)
        clear hK K
        (try simp only [Act.put, List.setIfInBounds_toArray, List.set_cons_zero, List.set_cons_succ])
        refine wpAnyH_ready (rs := [5]) (by kernel_rfl) (by simp) ?_
        refine AllReadyH.cons (by simp only [List.getElem?_toArray, List.getElem?_cons_zero, List.getElem?_cons_succ]; exact rfl) (fun K hK => ?_) AllReadyH.nil
        go_simp
        refine hK.out _ _ ?bs5 (fun hHeld => ?_)
        case bs5 => exact hHeld
        clear hK K
        (try simp only [Act.put, List.setIfInBounds_toArray, List.set_cons_zero, List.set_cons_succ])
        refine wpAnyH_ready (rs := [9]) (by kernel_rfl) (by simp) ?_
        refine AllReadyH.cons (by simp only [List.getElem?_toArray, List.getElem?_cons_zero, List.getElem?_cons_succ]; exact rfl) (fun K hK => ?_) AllReadyH.nil
        go_simp
        go_at_call 37
        refine HIns.out.mono ?_
        rintro e w5 ⟨a', cap', rfl, c5, f5, S5, HRest⟩
        go_wp2_with fail
        refine hK.out _ _ ?bs9 (fun hHeld => ?_)
        case bs9 => exact S5
        clear hK K
        (try simp only [Act.put, List.setIfInBounds_toArray, List.set_cons_zero, List.set_cons_succ])
        refine wpAnyH_take (i := 10) (v := ?bv10) (by simp only [List.getElem?_toArray, List.getElem?_cons_zero, List.getElem?_cons_succ]; exact rfl) (by kernel_rfl) (by kernel_rfl) (by kernel_rfl) (fun _ _ _ h => h) (Or.inl ⟨by rfl, ?by10⟩) (by assumption) ?_
        case by10 => (intro w' hSw; (try dsimp only at hSw); obtain ⟨s0, s1, s2, s3, s4, s5⟩ := hSw; go_simp; (try with_reducible rfl))
        (try simp only [Act.put, List.setIfInBounds_toArray, List.set_cons_zero, List.set_cons_succ])
        refine wpAnyH_take (i := 11) (v := ?bv11) (by simp only [List.getElem?_toArray, List.getElem?_cons_zero, List.getElem?_cons_succ]; exact rfl) (by kernel_rfl) (by kernel_rfl) (by kernel_rfl) (fun _ _ _ h => h) (Or.inl ⟨by rfl, ?by11⟩) (by assumption) ?_
        case by11 => (intro w' hSw; (try dsimp only at hSw); obtain ⟨s0, s1, s2, s3, s4, s5⟩ := hSw; go_simp; (try with_reducible rfl))
        (try simp only [Act.put, List.setIfInBounds_toArray, List.set_cons_zero, List.set_cons_succ])
        refine wpAnyH_take (i := 12) (v := ?bv12) (by simp only [List.getElem?_toArray, List.getElem?_cons_zero, List.getElem?_cons_succ]; exact rfl) (by kernel_rfl) (by kernel_rfl) (by kernel_rfl) (fun _ _ _ h => h) (Or.inl ⟨by rfl, ?by12⟩) (by assumption) ?_
        case by12 => (intro w' hSw; (try dsimp only at hSw); obtain ⟨s0, s1, s2, s3, s4, s5⟩ := hSw; go_simp; (try with_reducible rfl))
        (try simp only [Act.put, List.setIfInBounds_toArray, List.set_cons_zero, List.set_cons_succ])
        refine wpAnyH_ready (rs := [13]) (by kernel_rfl) (by simp) ?_
        refine AllReadyH.cons (by simp only [List.getElem?_toArray, List.getElem?_cons_zero, List.getElem?_cons_succ]; exact rfl) (fun K hK => ?_) AllReadyH.nil
        go_simp
        refine hK.out _ _ ?bs13 (fun hHeld => ?_)
        case bs13 => (obtain ⟨s0, s1, s2, s3, s4, s5⟩ := hHeld; exact ⟨(cell_set_ne (by omega)).trans s0, (cell_set_ne (by omega)).trans s1, (cell_set_ne (by omega)).trans s2, (cell_set_ne (by omega)).trans s3, (cell_set_ne (by omega)).trans s4, (cell_set_ne (by omega)).trans s5⟩)
        clear hK K
        (try simp only [Act.put, List.setIfInBounds_toArray, List.set_cons_zero, List.set_cons_succ])
        refine wpAnyH_done (by kernel_rfl) ?_ _
        refine NoPanic.normal ?_
        obtain ⟨h5, ho1, ho2, hb5⟩ := HRest.out
        have HO : Hid (BkO B (w5.setCell ⟨p, 0, none⟩ (.slice a' (L.length + 1) cap')) p (.slice a' (L.length + 1) cap') v2 (insL L (plN L bk) ⟨bk, 1, wt, 0, 0, 0⟩) R) := by
          refine ⟨hB, blk_set h5 _, ?_, ?_⟩
          · rw [insL_len _ _ _ (plN_le L bk)]; exact ownsRow_setCell_other ho1 (own_ne ho1 h5 (by decide)) _
          · exact ownsRow_setCell_other ho2 (own_ne ho2 h5 (by decide)) _
        have HBF := Lib.hid (hb5.setCell (p := ⟨p, 0, none⟩) hB (.slice a' (L.length + 1) cap'))
        clear h5 ho1 ho2 hb5 c5 f5
        go_wp2
        all_goals first | (go_ret; exact ⟨rfl, ⟨_, HO.out⟩, HBF.out⟩) | (exfalso; first | omega | (simp at *; omega) | (simp at *; done))
end Go.Proofs.Ythngedmmeiiklaa
