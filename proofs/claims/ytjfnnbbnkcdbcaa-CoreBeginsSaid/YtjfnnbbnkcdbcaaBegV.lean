/- The walk of CoreBegins. -/
import Derived.Test.YtjfnnbbnkcdbcaaBegZ
import Derived.Test.YtjfnnbbnkcdbcaaBegP
import Derived.Test.YtjfnnbbnkcdbcaaBegR
namespace Go.Proofs.Ytjfnnbbnkcdbcaa
open Go.RowKit

theorem wpList_load_rowG {P : Program} {ops : Array Oper} {rest : List Oper} {o : Oper} {a : Act} {w : World} {Q : Exit → Act → World → Prop} (hw : Region.wanted o (yielded ops a.tmps) = true) (ty : TypeId) (x : Operand) (ho : o.op = .load ty x)
    (g : Nat) (hx : a.eval x = .pointer (some ⟨g, 0, none⟩)) (t : TypeId) (cs : Array Value) (fr : Nat × Nat) (d : TypeDesc) (hg : w.heap[g]? = some (.cells cs t fr))
    (hu : P.underlying ty = some d) (hd : (match d with | .struct _ | .array _ _ => true | _ => false) = true) (hi : (P.info? ty).map (·.size) = some cs.size)
    (h : wpList P ops Q rest (a.put o.dst (.agg cs)) w) : wpList P ops Q (o :: rest) a w := by
  unfold wpList
  rw [if_pos hw]
  exact Or.inl (wp_load_row ty x ho g hx t cs fr d hg hu hd hi h)

set_option maxHeartbeats 4000000 in
set_option maxRecDepth 100000 in
theorem walk_CoreBegins (v0 : Value) (W : World) (o0 : Is_Config W v0) :
    Calls Try.prog 7 #[v0] W fun e w' => e = .returned (.bool true) ∧ Below W.heap.size W w' := by
  obtain ⟨flows, num, den, tries, warm, drain, idle, connect, retries, most, bn, bd, bb, ww, wf, wh, rfl, _⟩ := o0
  by_cases h : CfMay ⟨flows, num, den, tries, warm, drain, idle, connect, retries, most, bn, bd, bb, ww, wf, wh⟩
  · obtain ⟨N, rfl⟩ := Int.eq_ofNat_of_zero_le (show 0 ≤ flows by have := h.1.2.2.1; simp only at this; omega)
    have H := Lib.hid h
    clear h
    go_enter Try.func7, Try.ntmps7
    go_wp2_with fail
    refine (prog_Begin_ok num den tries warm drain idle connect retries most bn bd bb ww wf wh N _ H.out).mono ?_
    rintro e w1 ⟨vt1, vh1, vl1, rfl, T1, H1, L1, hb1⟩
    obtain ⟨at1, ct1, rfl, _⟩ := RowAt_shape T1
    rw [show (zeros N).length = N from by simp [zeros]] at T1 ⊢
    obtain ⟨ah1, ch1, hv1, _⟩ := RowAt_cells H1
    rw [hnils_length] at hv1
    subst hv1
    obtain ⟨al1, cl1, hw1, _⟩ := RowAt_cells L1
    rw [show (nils 25).length = 25 from by simp [nils]] at hw1
    subst hw1
    have B1 := Lib.hid (((Below.refl W.heap.size W).alloc (Nat.le_refl _) (.cells #[.int .i64 (N : Int), .int .i64 num, .int .i64 den, .int .i64 tries, .int .i64 warm, .int .i64 drain, .int .i64 idle, .int .i64 connect, .int .i64 retries, .int .i64 most, .int .i64 bn, .int .i64 bd, .int .i64 bb, .int .i64 ww, .int .i64 wf, .int .i64 wh] 40)).trans (hb1.mono (by simp)))
    have x0 := blk_below hb1 (heap_at (w := W) (.cells #[.int .i64 (N : Int), .int .i64 num, .int .i64 den, .int .i64 tries, .int .i64 warm, .int .i64 drain, .int .i64 idle, .int .i64 connect, .int .i64 retries, .int .i64 most, .int .i64 bn, .int .i64 bd, .int .i64 bb, .int .i64 ww, .int .i64 wf, .int .i64 wh] 40) rfl) (by simp)
    have hs1 := hb1.size
    simp at hs1
    have XA : Hid (((w1.alloc (.cells zWorld 61)).setRow w1.heap.size (wArr (N : Int) num den tries warm drain idle connect retries most bn bd bb ww wf wh (.slice at1 N ct1) (.slice ah1 12 ch1) (bb * bd) (.slice al1 25 cl1))).heap[W.heap.size]? = some (.cells #[.int .i64 (N : Int), .int .i64 num, .int .i64 den, .int .i64 tries, .int .i64 warm, .int .i64 drain, .int .i64 idle, .int .i64 connect, .int .i64 retries, .int .i64 most, .int .i64 bn, .int .i64 bd, .int .i64 bb, .int .i64 ww, .int .i64 wf, .int .i64 wh] 40 (0, 0))) := setRow_ne ((Below.heap_alloc _ _ _ (by omega)).trans x0) (by omega)
    have RT1 := Lib.hid T1
    have RH1 := Lib.hid H1
    have RL1 := Lib.hid L1
    clear T1 H1 L1
    clear hb1 x0
    go_wp2_with (first | (refine wpList_store_row rfl 61 (.tmp 3) (.tmp 10) rfl w1.heap.size (wArr (N : Int) num den tries warm drain idle connect retries most bn bd bb ww wf wh (.slice at1 N ct1) (.slice ah1 12 ch1) (bb * bd) (.slice al1 25 cl1)) rfl rfl 61 zWorld (heap_at _ rfl) (by kernel_rfl) rfl (one_wArr _ _ _ _ _ _ _ _ _ _ _ _ _ _ _ _ _ _ _ _ _ _ _ _ _ _) ?_) | (refine wpList_load_row rfl 40 (.tmp 1) rfl W.heap.size rfl 40 #[.int .i64 (N : Int), .int .i64 num, .int .i64 den, .int .i64 tries, .int .i64 warm, .int .i64 drain, .int .i64 idle, .int .i64 connect, .int .i64 retries, .int .i64 most, .int .i64 bn, .int .i64 bd, .int .i64 bb, .int .i64 ww, .int .i64 wf, .int .i64 wh] (0, 0) _ XA.out Try.underlying40 rfl (by kernel_rfl) ?_))
    refine (ref_Begun_ok num den tries warm drain idle connect retries most bn bd bb ww wf wh N _ H.out).mono ?_
    rintro e w2 ⟨vt2, vh2, vl2, rfl, T2, H2, L2, hb2⟩
    obtain ⟨at2, ct2, rfl, _⟩ := RowAt_shape T2
    rw [show (zeros N).length = N from by simp [zeros]] at T2 ⊢
    obtain ⟨ah2, ch2, hv2, _⟩ := RowAt_cells H2
    rw [hnils_length] at hv2
    subst hv2
    obtain ⟨al2, cl2, hw2, _⟩ := RowAt_cells L2
    rw [show (nils 25).length = 25 from by simp [nils]] at hw2
    subst hw2
    have K1 : Below w1.heap.size w1 ((w1.alloc (.cells zWorld 61)).setRow w1.heap.size (wArr (N : Int) num den tries warm drain idle connect retries most bn bd bb ww wf wh (.slice at1 N ct1) (.slice ah1 12 ch1) (bb * bd) (.slice al1 25 cl1))) := setRow_below ((Below.refl _ _).alloc (Nat.le_refl _) _) (Nat.le_refl _)
    have K2 := Lib.hid (K1.trans (hb2.mono (by simp [World.setRow])))
    have g3 := Lib.hid ((hb2.block w1.heap.size (by simp [World.setRow])).trans (setRow_block (arr' := (wArr (N : Int) num den tries warm drain idle connect retries most bn bd bb ww wf wh (.slice at1 N ct1) (.slice ah1 12 ch1) (bb * bd) (.slice al1 25 cl1))) (heap_at (w := w1) (.cells zWorld 61) rfl)))
    have hs2 := K2.out.size
    have lg := lt_of_block g3.out
    have KA : Hid (Below w2.heap.size w2 ((w2.alloc (.cells zWorld 61)).setRow w2.heap.size (wArr (N : Int) num den tries warm drain idle connect retries most bn bd bb ww wf wh (.slice at2 N ct2) (.slice ah2 12 ch2) (bb * bd) (.slice al2 25 cl2)))) := setRow_below ((Below.refl _ _).alloc (Nat.le_refl _) _) (Nat.le_refl _)
    have G3 : Hid (((w2.alloc (.cells zWorld 61)).setRow w2.heap.size (wArr (N : Int) num den tries warm drain idle connect retries most bn bd bb ww wf wh (.slice at2 N ct2) (.slice ah2 12 ch2) (bb * bd) (.slice al2 25 cl2))).heap[w1.heap.size]? = some (.cells (wArr (N : Int) num den tries warm drain idle connect retries most bn bd bb ww wf wh (.slice at1 N ct1) (.slice ah1 12 ch1) (bb * bd) (.slice al1 25 cl1)) 61 (0, 0))) := setRow_ne ((Below.heap_alloc _ _ _ (by omega)).trans g3.out) (by omega)
    have G5 : Hid (((w2.alloc (.cells zWorld 61)).setRow w2.heap.size (wArr (N : Int) num den tries warm drain idle connect retries most bn bd bb ww wf wh (.slice at2 N ct2) (.slice ah2 12 ch2) (bb * bd) (.slice al2 25 cl2))).heap[w2.heap.size]? = some (.cells (wArr (N : Int) num den tries warm drain idle connect retries most bn bd bb ww wf wh (.slice at2 N ct2) (.slice ah2 12 ch2) (bb * bd) (.slice al2 25 cl2)) 61 (0, 0))) := setRow_block (heap_at _ rfl)
    have BF := Lib.hid ((B1.out.trans (K2.out.mono B1.out.size)).trans (KA.out.mono (Nat.le_trans B1.out.size hs2)))
    have FT1 := Lib.hid (RowAt_below (RowAt_below RT1.out K2.out) KA.out)
    have FT2 := Lib.hid (RowAt_below T2 KA.out)
    have FH1 := Lib.hid (RowAt_below (RowAt_below RH1.out K2.out) KA.out)
    have FH2 := Lib.hid (RowAt_below H2 KA.out)
    have FL1 := Lib.hid (RowAt_below (RowAt_below RL1.out K2.out) KA.out)
    have FL2 := Lib.hid (RowAt_below L2 KA.out)
    clear T2 H2 L2
    clear hb2 K1
    go_wp2_with (first | (refine wpList_store_row rfl 61 (.tmp 5) (.tmp 15) rfl w2.heap.size (wArr (N : Int) num den tries warm drain idle connect retries most bn bd bb ww wf wh (.slice at2 N ct2) (.slice ah2 12 ch2) (bb * bd) (.slice al2 25 cl2)) rfl rfl 61 zWorld (heap_at _ rfl) (by kernel_rfl) rfl (one_wArr _ _ _ _ _ _ _ _ _ _ _ _ _ _ _ _ _ _ _ _ _ _ _ _ _ _) ?_) | (refine wpList_load_rowG (by rfl) 61 (.tmp 3) rfl w1.heap.size rfl 61 (wArr (N : Int) num den tries warm drain idle connect retries most bn bd bb ww wf wh (.slice at1 N ct1) (.slice ah1 12 ch1) (bb * bd) (.slice al1 25 cl1)) (0, 0) _ G3.out Try.underlying61 rfl (by kernel_rfl) ?_) | (refine wpList_load_rowG (by rfl) 61 (.tmp 5) rfl w2.heap.size rfl 61 (wArr (N : Int) num den tries warm drain idle connect retries most bn bd bb ww wf wh (.slice at2 N ct2) (.slice ah2 12 ch2) (bb * bd) (.slice al2 25 cl2)) (0, 0) _ G5.out Try.underlying61 rfl (by kernel_rfl) ?_))
    refine (sameWorld_beg N num den tries warm drain idle connect retries most bn bd bb ww wf wh _ _ _ _ _ _ (bb * bd) N _ FT1.out FT2.out FH1.out FH2.out FL1.out FL2.out).mono ?_
    rintro e w3 ⟨rfl, hb3⟩
    have B3 := BF.out.trans (hb3.mono BF.out.size)
    clear hb3
    go_wp2
    all_goals first | (go_ret; exact ⟨rfl, B3⟩) | (exfalso; first | omega | (simp at *; omega) | (simp at *; done))
  · have H := Lib.hid h
    clear h
    go_enter Try.func7, Try.ntmps7
    go_wp2_with fail
    refine (prog_Begin_bad flows num den tries warm drain idle connect retries most bn bd bb ww wf wh _ H.out).mono ?_
    rintro e w1 ⟨rfl, hb1⟩
    have B1 := Lib.hid (((Below.refl W.heap.size W).alloc (Nat.le_refl _) (.cells #[.int .i64 flows, .int .i64 num, .int .i64 den, .int .i64 tries, .int .i64 warm, .int .i64 drain, .int .i64 idle, .int .i64 connect, .int .i64 retries, .int .i64 most, .int .i64 bn, .int .i64 bd, .int .i64 bb, .int .i64 ww, .int .i64 wf, .int .i64 wh] 40)).trans (hb1.mono (by simp)))
    have x0 := blk_below hb1 (heap_at (w := W) (.cells #[.int .i64 flows, .int .i64 num, .int .i64 den, .int .i64 tries, .int .i64 warm, .int .i64 drain, .int .i64 idle, .int .i64 connect, .int .i64 retries, .int .i64 most, .int .i64 bn, .int .i64 bd, .int .i64 bb, .int .i64 ww, .int .i64 wf, .int .i64 wh] 40) rfl) (by simp)
    have hs1 := hb1.size
    simp at hs1
    have XA : Hid (((w1.alloc (.cells zWorld 61)).setRow w1.heap.size zWorld).heap[W.heap.size]? = some (.cells #[.int .i64 flows, .int .i64 num, .int .i64 den, .int .i64 tries, .int .i64 warm, .int .i64 drain, .int .i64 idle, .int .i64 connect, .int .i64 retries, .int .i64 most, .int .i64 bn, .int .i64 bd, .int .i64 bb, .int .i64 ww, .int .i64 wf, .int .i64 wh] 40 (0, 0))) := setRow_ne ((Below.heap_alloc _ _ _ (by omega)).trans x0) (by omega)
    clear hb1 x0
    go_wp2_with (first | (refine wpList_store_row rfl 61 (.tmp 3) (.tmp 10) rfl w1.heap.size zWorld rfl rfl 61 zWorld (heap_at _ rfl) (by kernel_rfl) rfl (one_wArr _ _ _ _ _ _ _ _ _ _ _ _ _ _ _ _ _ _ _ _ _ _ _ _ _ _) ?_) | (refine wpList_load_row rfl 40 (.tmp 1) rfl W.heap.size rfl 40 #[.int .i64 flows, .int .i64 num, .int .i64 den, .int .i64 tries, .int .i64 warm, .int .i64 drain, .int .i64 idle, .int .i64 connect, .int .i64 retries, .int .i64 most, .int .i64 bn, .int .i64 bd, .int .i64 bb, .int .i64 ww, .int .i64 wf, .int .i64 wh] (0, 0) _ XA.out Try.underlying40 rfl (by kernel_rfl) ?_))
    refine (ref_Begun_bad flows num den tries warm drain idle connect retries most bn bd bb ww wf wh _ H.out).mono ?_
    rintro e w2 ⟨rfl, hb2⟩
    have K1 : Below w1.heap.size w1 ((w1.alloc (.cells zWorld 61)).setRow w1.heap.size zWorld) := setRow_below ((Below.refl _ _).alloc (Nat.le_refl _) _) (Nat.le_refl _)
    have K2 := Lib.hid (K1.trans (hb2.mono (by simp [World.setRow])))
    have g3 := Lib.hid ((hb2.block w1.heap.size (by simp [World.setRow])).trans (setRow_block (arr' := zWorld) (heap_at (w := w1) (.cells zWorld 61) rfl)))
    have hs2 := K2.out.size
    have lg := lt_of_block g3.out
    have KA : Hid (Below w2.heap.size w2 ((w2.alloc (.cells zWorld 61)).setRow w2.heap.size zWorld)) := setRow_below ((Below.refl _ _).alloc (Nat.le_refl _) _) (Nat.le_refl _)
    have G3 : Hid (((w2.alloc (.cells zWorld 61)).setRow w2.heap.size zWorld).heap[w1.heap.size]? = some (.cells zWorld 61 (0, 0))) := setRow_ne ((Below.heap_alloc _ _ _ (by omega)).trans g3.out) (by omega)
    have G5 : Hid (((w2.alloc (.cells zWorld 61)).setRow w2.heap.size zWorld).heap[w2.heap.size]? = some (.cells zWorld 61 (0, 0))) := setRow_block (heap_at _ rfl)
    have BF := Lib.hid ((B1.out.trans (K2.out.mono B1.out.size)).trans (KA.out.mono (Nat.le_trans B1.out.size hs2)))
    clear hb2 K1
    go_wp2_with (first | (refine wpList_store_row rfl 61 (.tmp 5) (.tmp 15) rfl w2.heap.size zWorld rfl rfl 61 zWorld (heap_at _ rfl) (by kernel_rfl) rfl (one_wArr _ _ _ _ _ _ _ _ _ _ _ _ _ _ _ _ _ _ _ _ _ _ _ _ _ _) ?_) | (refine wpList_load_rowG (by rfl) 61 (.tmp 3) rfl w1.heap.size rfl 61 zWorld (0, 0) _ G3.out Try.underlying61 rfl (by kernel_rfl) ?_) | (refine wpList_load_rowG (by rfl) 61 (.tmp 5) rfl w2.heap.size rfl 61 zWorld (0, 0) _ G5.out Try.underlying61 rfl (by kernel_rfl) ?_))
    refine (sameWorld_z _).mono ?_
    rintro e w3 ⟨rfl, hb3⟩
    have B3 := BF.out.trans (hb3.mono BF.out.size)
    clear hb3
    go_wp2
    all_goals first | (go_ret; exact ⟨rfl, B3⟩) | (exfalso; first | omega | (simp at *; omega) | (simp at *; done))
end Go.Proofs.Ytjfnnbbnkcdbcaa
