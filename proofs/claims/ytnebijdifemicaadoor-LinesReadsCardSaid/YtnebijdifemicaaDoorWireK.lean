/- wire.Check: its contract. -/
import Derived.Test.YtnebijdifemicaaDoorWireC
import Derived.Deep.QuietTactic
import Derived.BigQuiet
namespace Go.Proofs.YtnebijdifemicaaDoor
open Go.RowKit

def InF (f : FD) : Prop := f.lo ≤ f.val ∧ f.val ≤ f.hi
/-- Are the fields that an event's kind has within their bounds? -/
def EvIn (x : Ev) : Prop := ∀ f ∈ evF x 0 0 0, InF f
/-- What Check answers (P2.1). -/
def EvCode (x : Ev) (code : Int) : Prop := (¬ (1 ≤ x.kind ∧ x.kind ≤ 7) ∧ code = 5) ∨ ((1 ≤ x.kind ∧ x.kind ≤ 7) ∧ ¬ EvIn x ∧ code = 2) ∨ ((1 ≤ x.kind ∧ x.kind ≤ 7) ∧ EvIn x ∧ restE x ≠ Ev.zero ∧ code = 3) ∨ ((1 ≤ x.kind ∧ x.kind ≤ 7) ∧ EvIn x ∧ restE x = Ev.zero ∧ code = 0)
theorem EvCode_total (x : Ev) : ∃ code, EvCode x code := by
  by_cases h1 : 1 ≤ x.kind ∧ x.kind ≤ 7
  · by_cases h2 : EvIn x
    · by_cases h3 : restE x = Ev.zero
      · exact ⟨_, Or.inr (Or.inr (Or.inr ⟨h1, h2, h3, rfl⟩))⟩
      · exact ⟨_, Or.inr (Or.inr (Or.inl ⟨h1, h2, h3, rfl⟩))⟩
    · exact ⟨_, Or.inr (Or.inl ⟨h1, h2, rfl⟩)⟩
  · exact ⟨_, Or.inl ⟨h1, rfl⟩⟩
theorem kinds {x : Ev} (h : 1 ≤ x.kind ∧ x.kind ≤ 7) : x.kind = 1 ∨ x.kind = 2 ∨ x.kind = 3 ∨ x.kind = 4 ∨ x.kind = 5 ∨ x.kind = 6 ∨ x.kind = 7 := by omega
theorem evF_in {x : Ev} (h : 1 ≤ x.kind ∧ x.kind ≤ 7) (be bg : Nat) : (∀ f ∈ evF x be bg 0, InF f) ↔ EvIn x := by
  obtain ⟨kd, ky, sl, gn, gd, rq, bk, wt⟩ := x
  rcases kinds h with h | h | h | h | h | h | h <;> simp only at h <;> subst h <;> simp [EvIn, evF, InF]
theorem evF_len (x : Ev) (be bg : Nat) (g : Int) : (evF x be bg g).length ≤ 3 := by
  unfold evF
  repeat' split
  all_goals simp
theorem fd_at {x : Ev} (h : 1 ≤ x.kind ∧ x.kind ≤ 7) {be bg : Nat} {g : Int} {w : World} {T : TypeId} {fr : Nat × Nat} (hN : w.heap[be]? = some (.cells x.cells.toArray T fr)) (hG : w.cell? ⟨bg, 0, none⟩ = some (.int .i64 g)) : ∀ f ∈ evF x be bg g, f.a.block < w.heap.size ∧ w.cell? f.a = some (.int .i64 f.val) := by
  have l1 := lt_of_block hN
  have l2 := cell_lt hG
  have c := fun j => blk_cell hN j
  obtain ⟨kd, ky, sl, gn, gd, rq, bk, wt⟩ := x
  intro f hf
  rcases kinds h with h | h | h | h | h | h | h <;> simp only at h <;> subst h <;> simp [evF] at hf
  · subst hf; exact ⟨l1, (c 1).trans rfl⟩
  · rcases hf with rfl | rfl
    · exact ⟨l1, (c 2).trans rfl⟩
    · exact ⟨l1, (c 3).trans rfl⟩
  · rcases hf with rfl | rfl
    · exact ⟨l1, (c 2).trans rfl⟩
    · exact ⟨l1, (c 3).trans rfl⟩
  · rcases hf with rfl | rfl | rfl
    · exact ⟨l1, (c 2).trans rfl⟩
    · exact ⟨l1, (c 3).trans rfl⟩
    · exact ⟨l2, hG⟩
  · rcases hf with rfl | rfl | rfl
    · exact ⟨l1, (c 5).trans rfl⟩
    · exact ⟨l1, (c 6).trans rfl⟩
    · exact ⟨l1, (c 7).trans rfl⟩
  · rcases hf with rfl | rfl
    · exact ⟨l1, (c 5).trans rfl⟩
    · exact ⟨l1, (c 6).trans rfl⟩
theorem fd_spot {x : Ev} {be bg : Nat} {g : Int} : ∀ f ∈ evF x be bg g, ∃ b o, f.a = ⟨b, o, none⟩ := by
  intro f hf
  unfold evF at hf
  repeat' split at hf
  all_goals simp at hf
  · subst hf; exact ⟨_, _, rfl⟩
  · rcases hf with rfl | rfl <;> exact ⟨_, _, rfl⟩
  · rcases hf with rfl | rfl | rfl <;> exact ⟨_, _, rfl⟩
  · rcases hf with rfl | rfl | rfl <;> exact ⟨_, _, rfl⟩
  · rcases hf with rfl | rfl <;> exact ⟨_, _, rfl⟩
theorem prog_rest {x : Ev} (h : 1 ≤ x.kind ∧ x.kind ≤ 7) (w : World) : Calls Tryd.prog 21 #[x.agg] w fun e w' => e = .returned (restE x).agg ∧ Below w.heap.size w w' := by
  obtain ⟨kd, ky, sl, gn, gd, rq, bk, wt⟩ := x
  rcases kinds h with h | h | h | h | h | h | h <;> simp only at h <;> subst h
  · exact rest_1 ky sl gn gd rq bk wt w
  · exact rest_2 ky sl gn gd rq bk wt w
  · exact rest_3 ky sl gn gd rq bk wt w
  · exact rest_4 ky sl gn gd rq bk wt w
  · exact rest_5 ky sl gn gd rq bk wt w
  · exact rest_6 ky sl gn gd rq bk wt w
  · exact rest_7 ky sl gn gd rq bk wt w
theorem rest_kind (x : Ev) : (restE x).kind = 0 := by
  unfold restE
  repeat' split
  all_goals rfl
def FD.zero : FD := ⟨⟨0, 0, none⟩, 0, 0, 0⟩
theorem InF_snoc {F : List FD} {k : Nat} {f : FD} (hk : k < F.length) (hf : f = F.getD k FD.zero) (hall : ∀ f ∈ F.take k, InF f) (hi : InF f) : ∀ f ∈ F.take (k + 1), InF f := by
  rw [List.take_succ_eq_append_getElem hk]
  intro y hy
  rcases List.mem_append.1 hy with hy | hy
  · exact hall y hy
  · simp at hy; rw [hy]; rw [hf] at hi; simpa [List.getD, hk] using hi

set_option maxHeartbeats 8000000 in
set_option maxRecDepth 100000 in
theorem prog_WCheck (kd ky sl gn : Int) (gd : Bool) (rq bk wt : Int) (code : Int) (w : World) (h : EvCode ⟨kd, ky, sl, gn, gd, rq, bk, wt⟩ code) :
    Calls Tryd.prog 11 #[.agg #[.int .i64 kd, .int .i64 ky, .int .i64 sl, .int .i64 gn, .bool gd, .int .i64 rq, .int .i64 bk, .int .i64 wt]] w fun e w' => e = .returned (.int .i64 code) ∧ Below w.heap.size w w' := by
  have HC := Lib.hid h
  obtain ⟨ok, hok⟩ : ∃ ok, ok = decide (1 ≤ kd ∧ kd ≤ 7) := ⟨_, rfl⟩
  have HOK := Lib.hid hok
  clear h hok
  go_enter Tryd.func11, Tryd.ntmps11
  go_wp2_with fail
  refine (prog_fields ⟨kd, ky, sl, gn, gd, rq, bk, wt⟩ w.heap.size (w.heap.size + 1) 0 ok _ (by go_simp) HOK.out).mono ?_
  rintro e w1 ⟨v1, rfl, R1, hb1⟩
  have B1 := Lib.hid ((((Below.refl w.heap.size w).alloc (Nat.le_refl _) (.cells #[.int .i64 kd, .int .i64 ky, .int .i64 sl, .int .i64 gn, .bool gd, .int .i64 rq, .int .i64 bk, .int .i64 wt] 37)).alloc (by simp) (.cells #[.int .i64 0] 3)).trans (hb1.mono (by first | omega | (simp; done) | (simp; omega))))
  have x0 := Lib.hid (blk_below hb1 ((Below.heap_alloc (w := w.alloc (.cells #[.int .i64 kd, .int .i64 ky, .int .i64 sl, .int .i64 gn, .bool gd, .int .i64 rq, .int .i64 bk, .int .i64 wt] 37)) (.cells #[.int .i64 0] 3) w.heap.size (by simp)).trans (heap_at _ rfl)) (by first | omega | (simp; done) | (simp; omega)))
  have x1 := Lib.hid (blk_below hb1 (heap_at (w := w.alloc (.cells #[.int .i64 kd, .int .i64 ky, .int .i64 sl, .int .i64 gn, .bool gd, .int .i64 rq, .int .i64 bk, .int .i64 wt] 37)) (k := w.heap.size + 1) (.cells #[.int .i64 0] 3) (by simp)) (by first | omega | (simp; done) | (simp; omega)))
  have s1 := hb1.size
  simp at s1
  clear hb1
  cases ok with
  | false =>
    have hno : ¬ (1 ≤ kd ∧ kd ≤ 7) := by have := HOK.out; simpa using this
    obtain rfl : code = 5 := by
      rcases HC.out with ⟨_, h⟩ | ⟨h, _⟩ | ⟨h, _⟩ | ⟨h, _⟩
      · exact h
      all_goals exact absurd h hno
    obtain ⟨a, cap, rfl, _⟩ := RowAt_shape R1.1
    clear R1 hno HC HOK
    have B1' := B1.out
    go_wp2
    all_goals first | (go_ret; exact ⟨rfl, (by repeat (first | (with_reducible exact Below.refl _ _) | (with_reducible assumption) | (with_reducible refine Below.drew ?_) | (with_reducible refine Below_drewN ?_) | (with_reducible refine Below.alloc ?_ (by first | omega | (simp; done) | (simp; omega)) _) | (with_reducible refine Below.setCell ?_ (by first | omega | (simp; done) | (simp; omega)) _) | (with_reducible refine Below.trans ?_ (Below.mono (by assumption) (by first | omega | (simp; done) | (simp; omega))))))⟩) | (exfalso; first | omega | (simp at *; omega) | (simp at *; done))
  | true =>
    have hyes : 1 ≤ kd ∧ kd ≤ 7 := by have := HOK.out; simpa using this
    have HY := Lib.hid hyes
    have HAt := Lib.hid (fd_at (x := ⟨kd, ky, sl, gn, gd, rq, bk, wt⟩) (g := 0) hyes x0.out ((blk_cell x1.out 0).trans rfl))
    have HSp := Lib.hid (fd_spot (x := ⟨kd, ky, sl, gn, gd, rq, bk, wt⟩) (be := w.heap.size) (bg := w.heap.size + 1) (g := 0))
    have HIn := Lib.hid (evF_in (x := ⟨kd, ky, sl, gn, gd, rq, bk, wt⟩) hyes w.heap.size (w.heap.size + 1))
    have hlen := evF_len ⟨kd, ky, sl, gn, gd, rq, bk, wt⟩ w.heap.size (w.heap.size + 1) 0
    generalize evF ⟨kd, ky, sl, gn, gd, rq, bk, wt⟩ w.heap.size (w.heap.size + 1) 0 = F at R1 HAt HSp HIn hlen
    obtain ⟨a, cap, rfl, _, _, _, p⟩ := RowAt_fn FD.zero R1.1
    have P := Lib.hid p
    clear R1 hyes p HOK
    go_wp2_with fail
    go_loopw [16] (fun i wr => ∃ k : Nat, k ≤ F.length ∧ i = .int .i64 k ∧ Below w1.heap.size w1 wr ∧ ∀ f ∈ F.take k, InF f) (fun i _ => F.length - (intOf i).toNat)
    case atStart => exact ⟨0, Nat.zero_le _, rfl, Below.refl _ _, fun f hf => by simp at hf⟩
    case round =>
      obtain ⟨k, hk, rfl, hb, hall⟩ := hrel
      have HA := Lib.hid hall
      have HB := Lib.hid hb
      clear hall
      rcases (show k < F.length ∨ F.length = k by omega) with hlt | heq
      · have hlt' : (k : Int) < (F.length : Int) := by omega
        obtain ⟨b0, o0, rfl, hb0, q⟩ := P.out (by intro h; rw [h] at hlt; simp at hlt)
        obtain ⟨f, hf⟩ : ∃ f, f = F.getD k FD.zero := ⟨_, rfl⟩
        have hmem : f ∈ F := by rw [hf]; simp only [List.getD, List.getElem?_eq_getElem hlt, Option.getD_some]; exact List.getElem_mem _
        have hold : ∀ j, j < 3 → wr.cell? ⟨b0, o0 + k * 3 + j, none⟩ = f.cells[j]? := fun j hj => by
          rw [hb.cell (p := ⟨b0, o0 + k * 3 + j, none⟩) hb0, hf]; exact q k j hlt hj
        have a0 := hold 0 (by omega)
        have a1 := hold 1 (by omega)
        have a2 := hold 2 (by omega)
        obtain ⟨l3, v3⟩ := HAt.out f hmem
        obtain ⟨bb, oo, hsp⟩ := HSp.out f hmem
        have HF := Lib.hid hf
        have HMem := Lib.hid hmem
        clear hold hf q hmem
        obtain ⟨fa, lo, hi, vl⟩ := f
        simp only at hsp l3 v3
        subst hsp
        simp only [FD.cells, List.getElem?_cons_zero, List.getElem?_cons_succ, Nat.add_zero] at a0 a1 a2
        simp only at l3
        have a3 : wr.cell? ⟨bb, oo, none⟩ = some (.int .i64 vl) := (hb.cell (p := ⟨bb, oo, none⟩) l3).trans v3
        have lb : b0 < wr.heap.size := cell_lt a0
        have l4 : bb < wr.heap.size := cell_lt a3
        clear hb v3
        rcases (show vl < lo ∨ (lo ≤ vl ∧ hi < vl) ∨ (lo ≤ vl ∧ vl ≤ hi) by omega) with c1 | ⟨c1, c2⟩ | ⟨c1, c2⟩
        · have hc : code = 2 := by
            have hn : ¬ EvIn ⟨kd, ky, sl, gn, gd, rq, bk, wt⟩ := fun h => by have := HIn.out.2 h _ HMem.out; unfold InF at this; simp only at this; omega
            rcases HC.out with ⟨h, _⟩ | ⟨_, _, h⟩ | ⟨_, h, _⟩ | ⟨_, h, _⟩
            · exact absurd HY.out h
            · exact h
            all_goals exact absurd h hn
          have HCd := Lib.hid hc
          have hd : decide (vl < lo) = true := by simpa using c1
          clear hc
          go_wp2_with fail
          go_quiet (fail)
          go_wp2
          all_goals first | (go_ret; exact ⟨rI HCd.out.symm, Below_drewN (B1.out.trans ((HB.out.alloc HB.out.size _).mono (by omega)))⟩) | (exfalso; first | omega | (simp at *; omega) | (simp at *; done))
        · have hc : code = 2 := by
            have hn : ¬ EvIn ⟨kd, ky, sl, gn, gd, rq, bk, wt⟩ := fun h => by have := HIn.out.2 h _ HMem.out; unfold InF at this; simp only at this; omega
            rcases HC.out with ⟨h, _⟩ | ⟨_, _, h⟩ | ⟨_, h, _⟩ | ⟨_, h, _⟩
            · exact absurd HY.out h
            · exact h
            all_goals exact absurd h hn
          have HCd := Lib.hid hc
          have hd : decide (vl < lo) = false := by simpa using c1
          have hd2 : decide (hi < vl) = true := by simpa using c2
          clear hc
          go_wp2_with fail
          go_quiet (fail)
          go_wp2
          all_goals first | (go_ret; exact ⟨rI HCd.out.symm, Below_drewN (B1.out.trans ((HB.out.alloc HB.out.size _).mono (by omega)))⟩) | (exfalso; first | omega | (simp at *; omega) | (simp at *; done))
        · have HN := Lib.hid (InF_snoc hlt HF.out HA.out ⟨c1, c2⟩)
          have hd : decide (vl < lo) = false := by simpa using c1
          have hd2 : decide (hi < vl) = false := by simpa using c2
          go_wp2_with fail
          go_quiet (fail)
          go_wp2
          go_roundw
          case rel => exact ⟨k + 1, by omega, by go_num, Below_drewN (HB.out.alloc HB.out.size _), HN.out⟩
          case measure => simp [intOf]; omega
      · have hge : ¬ (k : Int) < (F.length : Int) := by omega
        have HI : Hid (EvIn ⟨kd, ky, sl, gn, gd, rq, bk, wt⟩) := HIn.out.1 (fun f hf => HA.out f (by rw [List.take_of_length_le (by omega)]; exact hf))
        have hN := blk_below hb x0.out (by omega)
        have d0 := blk_cell hN 0
        have d1 := blk_cell hN 1
        have d2 := blk_cell hN 2
        have d3 := blk_cell hN 3
        have d4 := blk_cell hN 4
        have d5 := blk_cell hN 5
        have d6 := blk_cell hN 6
        have d7 := blk_cell hN 7
        simp at d0 d1 d2 d3 d4 d5 d6 d7
        have m0 : w.heap.size < wr.heap.size := by have := hb.size; omega
        have HBw := Lib.hid (B1.out.trans (hb.mono (by omega)))
        obtain ⟨z, hz⟩ : ∃ z, z = restE ⟨kd, ky, sl, gn, gd, rq, bk, wt⟩ := ⟨_, rfl⟩
        have HZ := Lib.hid hz
        have hzk : z.kind = 0 := by rw [hz]; exact rest_kind _
        have HR := Lib.hid (prog_rest (x := ⟨kd, ky, sl, gn, gd, rq, bk, wt⟩) HY.out wr)
        rw [← hz] at HR
        clear hb hN hz heq
        obtain ⟨z0, z1, z2, z3, z4, z5, z6, z7⟩ := z
        simp only at hzk
        subst hzk
        go_wp2_with fail
        refine HR.out.mono ?_
        rintro e w2 ⟨rfl, hb2⟩
        have B2 := Lib.hid (HBw.out.trans (hb2.mono (by omega)))
        unfold Ev.agg
        clear hb2 HR
        by_cases hzz : z1 = 0 ∧ z2 = 0 ∧ z3 = 0 ∧ z4 = false ∧ z5 = 0 ∧ z6 = 0 ∧ z7 = 0
        · obtain ⟨rfl, rfl, rfl, rfl, rfl, rfl, rfl⟩ := hzz
          have hc : code = 0 := by
            rcases HC.out with ⟨h, _⟩ | ⟨_, h, _⟩ | ⟨_, _, h, _⟩ | ⟨_, _, _, h⟩
            · exact absurd HY.out h
            · exact absurd HI.out h
            · exact absurd HZ.out.symm h
            · exact h
          have HCd := Lib.hid hc
          clear hc
          go_wp2
          all_goals first | (go_ret; exact ⟨rI HCd.out.symm, B2.out⟩) | (exfalso; first | omega | (simp at *; omega) | (simp at *; done))
        · have hc : code = 3 := by
            rcases HC.out with ⟨h, _⟩ | ⟨_, h, _⟩ | ⟨_, _, _, h⟩ | ⟨_, _, h, _⟩
            · exact absurd HY.out h
            · exact absurd HI.out h
            · exact h
            · rw [← HZ.out] at h
              simp only [Ev.zero, Ev.mk.injEq] at h
              exact absurd h.2 hzz
          have HCd := Lib.hid hc
          clear hc
          have hcs : z1 ≠ 0 ∨ (z1 = 0 ∧ z2 ≠ 0) ∨ (z1 = 0 ∧ z2 = 0 ∧ z3 ≠ 0) ∨ (z1 = 0 ∧ z2 = 0 ∧ z3 = 0 ∧ z4 = true) ∨ (z1 = 0 ∧ z2 = 0 ∧ z3 = 0 ∧ z4 = false ∧ z5 ≠ 0) ∨ (z1 = 0 ∧ z2 = 0 ∧ z3 = 0 ∧ z4 = false ∧ z5 = 0 ∧ z6 ≠ 0) ∨ (z1 = 0 ∧ z2 = 0 ∧ z3 = 0 ∧ z4 = false ∧ z5 = 0 ∧ z6 = 0 ∧ z7 ≠ 0) := by
            cases z4 <;> simp at hzz ⊢ <;> omega
          clear hzz
          rcases hcs with h | ⟨rfl, h⟩ | ⟨rfl, rfl, h⟩ | ⟨rfl, rfl, rfl, rfl⟩ | ⟨rfl, rfl, rfl, rfl, h⟩ | ⟨rfl, rfl, rfl, rfl, rfl, h⟩ | ⟨rfl, rfl, rfl, rfl, rfl, rfl, h⟩
          · have e1 : (z1 == 0) = false := by simpa using h
            clear h
            go_wp2
            all_goals first | (go_ret; exact ⟨rI HCd.out.symm, B2.out⟩) | (exfalso; first | omega | (simp at *; omega) | (simp at *; done))
          · have e1 : (z2 == 0) = false := by simpa using h
            clear h
            go_wp2
            all_goals first | (go_ret; exact ⟨rI HCd.out.symm, B2.out⟩) | (exfalso; first | omega | (simp at *; omega) | (simp at *; done))
          · have e1 : (z3 == 0) = false := by simpa using h
            clear h
            go_wp2
            all_goals first | (go_ret; exact ⟨rI HCd.out.symm, B2.out⟩) | (exfalso; first | omega | (simp at *; omega) | (simp at *; done))
          · go_wp2
            all_goals first | (go_ret; exact ⟨rI HCd.out.symm, B2.out⟩) | (exfalso; first | omega | (simp at *; omega) | (simp at *; done))
          · have e1 : (z5 == 0) = false := by simpa using h
            clear h
            go_wp2
            all_goals first | (go_ret; exact ⟨rI HCd.out.symm, B2.out⟩) | (exfalso; first | omega | (simp at *; omega) | (simp at *; done))
          · have e1 : (z6 == 0) = false := by simpa using h
            clear h
            go_wp2
            all_goals first | (go_ret; exact ⟨rI HCd.out.symm, B2.out⟩) | (exfalso; first | omega | (simp at *; omega) | (simp at *; done))
          · have e1 : (z7 == 0) = false := by simpa using h
            clear h
            go_wp2
            all_goals first | (go_ret; exact ⟨rI HCd.out.symm, B2.out⟩) | (exfalso; first | omega | (simp at *; omega) | (simp at *; done))
end Go.Proofs.YtnebijdifemicaaDoor
