/- slices.Delete at []usher/api.Timer, one element out of a row of the call's own. -/
import Derived.Test.YthgfiadfpgfjdaaWhCp
import Derived.Test.YthgfiadfpgfjdaaClear
import Derived.Laws.OwnMore
namespace Go.Proofs.Ythgfiadfpgfjdaa
open Go.RowKit
theorem flat_takeT (X : List Tm) {k : Nat} (h : k ≤ X.length) : (X.map Tm.cells).flatten.take (k * 2) = ((X.take k).map Tm.cells).flatten := by
  have e : (X.map Tm.cells).flatten = ((X.take k).map Tm.cells).flatten ++ ((X.drop k).map Tm.cells).flatten := by
    rw [← List.flatten_append, ← List.map_append, List.take_append_drop]
  rw [e]
  exact List.take_left' (by rw [flatten_length (lenc_Tm _), List.length_map, List.length_take]; omega)
theorem flat_dropT (X : List Tm) {k : Nat} (h : k ≤ X.length) : (X.map Tm.cells).flatten.drop (k * 2) = ((X.drop k).map Tm.cells).flatten := by
  have e : (X.map Tm.cells).flatten = ((X.take k).map Tm.cells).flatten ++ ((X.drop k).map Tm.cells).flatten := by
    rw [← List.flatten_append, ← List.map_append, List.take_append_drop]
  rw [e]
  exact List.drop_left' (by rw [flatten_length (lenc_Tm _), List.length_map, List.length_take]; omega)
/-- clear(s[n:n+m]) behind a row of one's own. -/
theorem clear_past {P : Program} {w : World} (t e ty : TypeId) {i0 : TypeInfo} (z : Value) (sz g n cap m c B : Nat) {cs : List Value} (hu : P.underlying t = some (.slice e)) (hi : P.info? e = some i0) (hz : i0.zero = some z) (hs : z.cells.size = sz)
    (h1 : ∀ v ∈ z.cells.toList, v.oneCell' = true) (hown : w.ownsRow B e sz (.slice (some ⟨g, 0, none⟩) n cap) n cs) (hin : n + m ≤ cap) :
    ∃ W2 : World, (Builtin.clear_ #[t] ty #[.slice (some ⟨g, n * sz, none⟩) m c]).run P w = .ok (.tuple #[]) W2 ∧ (∀ b, b ≠ g → W2.heap[b]? = w.heap[b]?) ∧ W2.heap.size = w.heap.size ∧ Below B w W2 ∧ W2.ownsRow B e sz (.slice (some ⟨g, 0, none⟩) n cap) n cs := by
  have hgB : B ≤ g := (hown.lt _ rfl).1
  obtain ⟨vs, hrun⟩ := run_clear_slice (P := P) w t e ty i0 z g (n * sz) m c hu hi hz (by
    intro j hj
    rw [hs] at hj
    rcases hown.2 with ⟨e0, _⟩ | ⟨g', cap', cur, e0, hb, hg, hn, hm, hsz, ht⟩
    · cases e0
    · injection e0 with e1 _ e3
      injection e1 with e1
      injection e1 with e1
      subst e1; subst e3
      have h2 : n * sz + j < cap * sz := by
        have : (n + m) * sz ≤ cap * sz := Nat.mul_le_mul_right _ hin
        rw [Nat.add_mul] at this; omega
      have := blk_cell hg (n * sz + j)
      rw [this]; simp; omega) (fun j => hown.frozenAt _) h1
  have ho := own_cleared hown (Nat.le_refl n) (Nat.le_refl _) vs
  rw [List.take_of_length_le (by rw [hown.1]; exact Nat.le_refl _)] at ho
  exact ⟨_, hrun, fun b hb => setCells_ne vs _ w b hb, setCells_size vs _ w, setCells_below hgB vs _ w (Below.refl _ _), ho⟩
theorem wp_append_run {P : Program} (w : World) {o : Oper} {a : Act} {K : Act → World → Prop} {Q : Exit → Act → World → Prop} (s x : Operand) (t : TypeId)
    (ho : o.op = .call { callee := .builtin .append, args := #[s, x], argTypes := #[t, t] }) (v1 v2 v' : Value) (w' : World) (hs : a.eval s = v1) (hx : a.eval x = v2)
    (hr : (Builtin.append_ #[t, t] o.type #[v1, v2]).run P w = .ok v' w') (h : K (a.put o.dst v') w') : o.wp P a w K Q := by
  unfold Oper.wp execOp
  simp only [ho, resolve, invoke, builtin, Sem.run_bind, Sem.run_pure, Result.andThen_ok, List.map_toArray, List.map_cons, List.map_nil, hs, hx, hr]
  exact h
def DlPost (B : Nat) (w : World) (v : Value) (X : List Tm) (k : Nat) (e : Ending) (w' : World) : Prop := ∃ v', e = .returned v' ∧ v'.ownBlock = v.ownBlock ∧ w'.ownsRow B 43 2 v' (X.take k ++ X.drop (k + 1)).length ((X.take k ++ X.drop (k + 1)).map Tm.cells).flatten ∧ w.heap.size ≤ w'.heap.size ∧ (∀ b, b < w.heap.size → v.ownBlock ≠ some b → w'.heap[b]? = w.heap[b]?) ∧ Below B w w'
set_option maxHeartbeats 4000000 in
set_option maxRecDepth 100000 in
theorem delTm (B : Nat) (v : Value) (X : List Tm) (k : Nat) (w : World) (hB : B ≤ w.heap.size) (hown : w.ownsRow B 43 2 v X.length (X.map Tm.cells).flatten) (hk : k < X.length) (hn : X.length ≤ 1048576) :
    Calls Try.prog 24 #[v, .int .i64 (k : Int), .int .i64 ((k : Int) + 1)] w (DlPost B w v X k) := by
  obtain ⟨i0, hi, hi0, hi1, hi2⟩ := info_parts infoc_Tm
  have hz : ∀ W, (sizeOf 43).run Try.prog W = .ok 2 W := fun W => by simp [sizeOf, typeInfo, hi, hi1]
  have ht : Try.prog.underlying 38 = some (.slice (Try.prog.elem 38)) := by kernel_rfl
  have he : Try.prog.elem 38 = 43 := by kernel_rfl
  rcases owns_news hown with ⟨_, h0⟩ | ⟨g, cap, rfl, _⟩
  · omega
  have hcap := own_cap hown
  unfold maxLen at hcap
  have hgB := hown.lt _ rfl
  have k1 : (k : Int) < (X.length : Int) := by omega
  have k2 : ¬ (k : Int) = (k : Int) + 1 := by omega
  have k3 : ((k : Int) == (k : Int) + 1) = false := by rw [beq_eq_false_iff_ne]; omega
  have k4 : ((k : Int) + 1).toNat = k + 1 := by omega
  have k5 : IntKind.i64.wrap ((k : Int) + 1) = (k : Int) + 1 := by rw [IntKind.wrap_i64]; omega
  have hs0 : ∀ W, (Instr.slice 38 (.slice (some ⟨g, 0, none⟩) X.length cap) (some (.int .i64 (k : Int))) (some (.int .i64 ((k : Int) + 1))) (some (.int .i64 (X.length : Int)))).run Try.prog W = .ok (.slice (some ⟨g, k * 2, none⟩) 1 (X.length - k)) W := fun W => by
    rw [run_slice_lhm W 38 _ _ _ ht .i64 .i64 .i64 _ _ _ (by omega) (by omega) (by omega) (by omega), he, hz]
    simp [Result.andThen, sliced, show ¬ X.length = k by omega, Addr.add_lit, k4]
  have hs1 : ∀ W, (Instr.slice 38 (.slice (some ⟨g, 0, none⟩) X.length cap) none (some (.int .i64 (k : Int))) none).run Try.prog W = .ok (.slice (some ⟨g, 0, none⟩) k cap) W := fun W => by
    rw [run_slice_h W 38 _ _ _ ht .i64 _ (by omega) (by omega), he, hz]
    simp [Result.andThen, sliced, Addr.add_lit]
  have hs2 : ∃ ad, (k + 1 < X.length → ad = ⟨g, (k + 1) * 2, none⟩) ∧ ∀ W, (Instr.slice 38 (.slice (some ⟨g, 0, none⟩) X.length cap) (some (.int .i64 ((k : Int) + 1))) none none).run Try.prog W = .ok (.slice (some ad) (X.length - (k + 1)) (cap - (k + 1))) W := by
    by_cases hc : cap = k + 1
    · refine ⟨⟨g, 0, none⟩, fun h => by omega, fun W => ?_⟩
      rw [run_slice_l W 38 _ _ _ ht .i64 _ (by omega) (by omega), he, hz]
      simp [Result.andThen, sliced, hc, k4]
    · refine ⟨⟨g, (k + 1) * 2, none⟩, fun _ => rfl, fun W => ?_⟩
      rw [run_slice_l W 38 _ _ _ ht .i64 _ (by omega) (by omega), he, hz]
      simp [Result.andThen, sliced, hc, Addr.add_lit, k4]
  obtain ⟨ad, had, hs2⟩ := hs2
  have HO := Lib.hid hown
  have hown0 := Lib.hid hown
  have HAd := Lib.hid had
  clear hown had ht he hz
  go_enter Try.func24, Try.ntmps24
  go_wp2_with fail
  have hfl : (X.map Tm.cells).flatten.length = X.length * 2 := hown0.out.1
  have HOD := Lib.hid (own_keep HO.out (Below_drewN (n := 1) (Below.refl w.heap.size w)))
  have hfr := own_front HOD.out (i := k) (by omega)
  obtain ⟨w3, hr3, ho3, hg3⟩ := run_append_fits (P := Try.prog) (w := w.drewN 1) B 38 38 43 i0 2 Try.underlying38 hi hi1 g k cap _ hfr ad (X.length - (k + 1)) (cap - (k + 1)) (((X.drop (k + 1)).map Tm.cells).flatten) (by rw [flatten_length (lenc_Tm _), List.length_map, List.length_drop]) (by
    intro j u hu
    have hlt : k + 1 < X.length := by
      rcases Nat.lt_or_ge (k + 1) X.length with h | h
      · exact h
      · rw [List.drop_of_length_le h] at hu; simp at hu
    rw [HAd.out hlt, ← flat_dropT X (by omega)] at *
    rw [List.getElem?_drop] at hu
    have hj : (k + 1) * 2 + j < X.length * 2 := by
      rcases Nat.lt_or_ge ((k + 1) * 2 + j) (X.length * 2) with h | h
      · exact h
      · rw [List.getElem?_eq_none (by omega)] at hu; cases hu
    rw [Go.WideShapes.add_plain, HOD.out.cellAt _ hj, hu]) (onec_Tm _) (by omega)
  have hr3' := hr3
  rw [show k + (X.length - (k + 1)) = X.length - 1 by omega] at ho3 hr3'
  rw [flat_takeT X (by omega), ← List.flatten_append, ← List.map_append] at ho3
  have hb3 : Below B w w3 := by
    have := grown_below (B := B) (wr := w.drewN 1) (Below.refl _ _) (by simpa using hB) (own_front HOD.out (i := k) (by omega)) hg3
    exact (Below_drewN (n := 1) (Below.refl B w)).trans this
  have hz3 : w.heap.size ≤ w3.heap.size := hg3.size
  have hblk : ∀ b, b < w.heap.size → b ≠ g → w3.heap[b]? = w.heap[b]? := fun b hb hne => hg3.block b (by simpa using hb) (by simpa using hne)
  obtain ⟨W2, hcl, hn2, hs2', hb2, ho2⟩ := clear_past (w := w3) 38 43 0 (.agg #[.int .i64 0, .int .i64 0]) 2 g (X.length - 1) cap 1 (cap - (X.length - 1)) B Try.underlying38 hi hi0 rfl (by decide) ho3 (by omega)
  have HB3 := Lib.hid hb3
  have HB2 := Lib.hid hb2
  have HO2 := Lib.hid ho2
  have HBL := Lib.hid hblk
  have HN2 := Lib.hid hn2
  clear hb3 hb2 ho2 hblk hn2 ho3 hg3 hfr hfl hr3
  (refine wp_region_noPanic ?_; refine wp_region_held_drew (S := fun _ => True) (by kernel_rfl) ?q1xb (fun hHeld => ?_); (case q1xb => ((try dsimp only); all_goals exact trivial)); refine wpAnyH_take (i := 0) (v := ?q1x1nv0) (by simp only [List.getElem?_toArray, List.getElem?_cons_zero]; exact rfl) (by kernel_rfl) (by kernel_rfl) (by kernel_rfl) (fun _ _ _ h => h) (Or.inl ⟨by rfl, ?q1x1ny0⟩) (by assumption) ?_; (case q1x1ny0 => (intro w hSw; (try dsimp only at hSw); go_simp; (try with_reducible rfl))); (try simp only [Act.put, List.setIfInBounds_toArray, List.set_cons_zero, List.set_cons_succ]); refine wpAnyH_take (i := 1) (v := ?q1x1nv1) (by simp only [List.getElem?_toArray, List.getElem?_cons_zero, List.getElem?_cons_succ]; exact rfl) (by kernel_rfl) (by kernel_rfl) (by kernel_rfl) (fun _ _ _ h => h) (Or.inl ⟨by rfl, ?q1x1ny1⟩) (by assumption) ?_; (case q1x1ny1 => (intro w hSw; (try dsimp only at hSw); go_simp; (try with_reducible rfl))); (try simp only [Act.put, List.setIfInBounds_toArray, List.set_cons_zero, List.set_cons_succ]); refine wpAnyH_take (i := 2) (v := ?q1x1nv2) (by simp only [List.getElem?_toArray, List.getElem?_cons_zero, List.getElem?_cons_succ]; exact rfl) (by kernel_rfl) (by kernel_rfl) (by kernel_rfl) (fun _ _ _ h => h) (Or.inl ⟨by rfl, ?q1x1ny2⟩) (by assumption) ?_; (case q1x1ny2 => (intro w hSw; (try dsimp only at hSw); go_simp; (try with_reducible rfl))); (try simp only [Act.put, List.setIfInBounds_toArray, List.set_cons_zero, List.set_cons_succ]); refine wpAnyH_take (i := 3) (v := ?q1x1nv3) (by simp only [List.getElem?_toArray, List.getElem?_cons_zero, List.getElem?_cons_succ]; exact rfl) (by kernel_rfl) (by kernel_rfl) (by kernel_rfl) (fun _ _ _ h => h) (Or.inl ⟨by rfl, ?q1x1ny3⟩) (by assumption) ?_; (case q1x1ny3 => (intro w hSw; (try dsimp only at hSw); go_simp; (try with_reducible rfl))); (try simp only [Act.put, List.setIfInBounds_toArray, List.set_cons_zero, List.set_cons_succ]); refine wpAnyH_take (i := 4) (v := ?q1x1nv4) (by simp only [List.getElem?_toArray, List.getElem?_cons_zero, List.getElem?_cons_succ]; exact rfl) (by kernel_rfl) (by kernel_rfl) (by kernel_rfl) (fun _ _ _ h => h) (Or.inl ⟨by rfl, ?q1x1ny4⟩) (by assumption) ?_; (case q1x1ny4 => (intro w hSw; (try dsimp only at hSw); go_simp; (try with_reducible rfl))); (try simp only [Act.put, List.setIfInBounds_toArray, List.set_cons_zero, List.set_cons_succ]); refine wpAnyH_take (i := 5) (v := ?q1x1nv5) (by simp only [List.getElem?_toArray, List.getElem?_cons_zero, List.getElem?_cons_succ]; exact rfl) (by kernel_rfl) (by kernel_rfl) (by kernel_rfl) (fun _ _ _ h => h) (Or.inl ⟨by rfl, ?q1x1ny5⟩) (by assumption) ?_; (case q1x1ny5 => (intro w hSw; (try dsimp only at hSw); go_simp; (try with_reducible rfl))); (try simp only [Act.put, List.setIfInBounds_toArray, List.set_cons_zero, List.set_cons_succ]); refine wpAnyH_ready (rs := [6]) (by kernel_rfl) (by simp) ?_; refine AllReadyH.cons (by simp only [List.getElem?_toArray, List.getElem?_cons_zero, List.getElem?_cons_succ]; exact rfl) (fun K hK => ?_) AllReadyH.nil; rw [if_pos (by rfl)]; (refine wp_append_run _ _ _ 38 rfl _ _ _ _ (by rfl) (by rfl) hr3' ?_); refine hK.out _ _ ?q1x1ns6 (fun hHeld => ?_); (case q1x1ns6 => ((try dsimp only); all_goals exact trivial)); clear hK K; (try simp only [Act.put, List.setIfInBounds_toArray, List.set_cons_zero, List.set_cons_succ]); refine wpAnyH_take (i := 7) (v := ?q1x1nv7) (by simp only [List.getElem?_toArray, List.getElem?_cons_zero, List.getElem?_cons_succ]; exact rfl) (by kernel_rfl) (by kernel_rfl) (by kernel_rfl) (fun _ _ _ h => h) (Or.inl ⟨by rfl, ?q1x1ny7⟩) (by assumption) ?_; (case q1x1ny7 => (intro w hSw; (try dsimp only at hSw); go_simp; (try with_reducible rfl))); (try simp only [Act.put, List.setIfInBounds_toArray, List.set_cons_zero]); refine wpAnyH_done (by kernel_rfl) ?_ _; refine NoPanic.normal ?_)
  have hc1 : ((X.length : Int) - 1).toNat = X.length - 1 := by omega
  have hsl : ∀ W, (Instr.slice 38 (.slice (some ⟨g, 0, none⟩) (X.length - 1) cap) (some (.int .i64 ((X.length - 1 : Nat) : Int))) (some (.int .i64 (X.length : Int))) none).run Try.prog W = .ok (.slice (some ⟨g, (X.length - 1) * 2, none⟩) 1 (cap - (X.length - 1))) W := fun W => by
    have ht : Try.prog.underlying 38 = some (.slice (Try.prog.elem 38)) := by kernel_rfl
    have he : Try.prog.elem 38 = 43 := by kernel_rfl
    rw [run_slice_lh W 38 _ _ _ ht .i64 .i64 _ _ (by omega) (by omega) (by omega), he]
    have hz : (sizeOf 43).run Try.prog W = .ok 2 W := by simp [sizeOf, typeInfo, hi, hi1]
    rw [hz]
    simp [Result.andThen, sliced, show ¬ cap = X.length - 1 by omega, Addr.add_lit, show X.length - (X.length - 1) = 1 by omega]
  go_wp2_with fail
  go_ret
  have hz2 := hs2'
  refine ⟨_, rfl, rfl, ?_, by omega, fun b hb hne => (HN2.out b (fun e => hne (by rw [e]; rfl))).trans (HBL.out b hb (fun e => hne (by rw [e]; rfl))), HB3.out.trans HB2.out⟩
  have hl : (X.take k ++ X.drop (k + 1)).length = X.length - 1 := by rw [List.length_append, List.length_take, List.length_drop]; omega
  rw [hl]; exact HO2.out
end Go.Proofs.Ythgfiadfpgfjdaa
