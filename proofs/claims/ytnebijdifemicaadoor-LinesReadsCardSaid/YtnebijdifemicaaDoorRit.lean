/- strings.Lines' closure: what it hands over. -/
import Derived.Test.YtnebijdifemicaaDoorRgo
import Derived.Test.YtnebijdifemicaaDoorShw
namespace Go.Proofs.YtnebijdifemicaaDoor
open Go.RowKit Go.Shelf
attribute [local go_sem] Oper.semAt_some
theorem idx_10 (s : List UInt8) : (Lib.indexByte s 10 = -1 ∧ ∀ b ∈ s, b ≠ 10) ∨ ∃ (o : Nat) (a r : List UInt8), Lib.indexByte s 10 = o ∧ s = a ++ 10 :: r ∧ a.length = o ∧ ∀ b ∈ a, b ≠ 10 := by
  have hge := Lib.indexByte_ge s 10
  rcases (show Lib.indexByte s 10 = -1 ∨ 0 ≤ Lib.indexByte s 10 by omega) with h | h
  · refine Or.inl ⟨h, fun b hb e => ?_⟩
    obtain ⟨i, hi⟩ := List.getElem?_of_mem hb
    exact Lib.indexByte_none h i (by rw [hi, e])
  · obtain ⟨o, ho⟩ := Int.eq_ofNat_of_zero_le h
    obtain ⟨h1, h2⟩ := Lib.indexByte_some ho
    have hlt : o < s.length := by
      rcases Nat.lt_or_ge o s.length with g | g
      · exact g
      · rw [List.getElem?_eq_none g] at h1; cases h1
    refine Or.inr ⟨o, s.take o, s.drop (o + 1), ho, ?_, by rw [List.length_take]; omega, ?_⟩
    · have e := List.take_append_drop o s
      rw [List.drop_eq_getElem_cons hlt] at e
      rw [List.getElem?_eq_getElem hlt] at h1
      rw [Option.some.inj h1] at e
      exact e.symm
    · intro b hb e
      obtain ⟨i, hi⟩ := List.getElem?_of_mem hb
      rw [List.getElem?_take] at hi
      split at hi
      · rename_i g
        exact h2 i g (by rw [hi, e])
      · cases hi
theorem idx_call {rest : List UInt8} {v : Int} (hv : Lib.indexByte rest 10 = v) (w : World) : Calls Tryd.prog 32 #[.string ⟨rest.toArray⟩, .int .u8 10] w fun e w' => e = .returned (.int .i64 v) ∧ w' = w :=
  (strings_IndexByte ⟨rest.toArray⟩ 10 w).mono fun e w' ⟨h1, h2⟩ => ⟨by rw [h1, ← hv]; rfl, h2⟩
def strLen : Option Value → Nat
  | some (.string s) => s.size
  | _ => 0
theorem gr_drew (w : World) : w.grownBy w.drew none := ⟨rfl, rfl, rfl, Nat.le_refl _, fun _ _ _ => rfl⟩
/-- A round of yield, at a world of which J holds. -/
theorem yield_at {n l bl : Nat} {T : List UInt8} {J Jx : List (List UInt8) → World → Prop} (hY : ∀ pre x W1, J pre W1 → x.length ≤ T.length → YieldAt Fence.wide (n - 1) Tryd.prog l #[.string ⟨(x : List UInt8).toArray⟩] W1 fun e W' => (e = .returned (.bool true) ∧ J (pre ++ [x]) W' ∧ W'.heap[bl]? = W1.heap[bl]?) ∨ (e = .returned (.bool false) ∧ Jx (pre ++ [x]) W'))
    {pre : List (List UInt8)} {x rest : List UInt8} {W1 : World} (hj : J pre W1) (hx : x.length ≤ T.length) (hb : W1.heap[bl]? = some (.cells #[.string ⟨rest.toArray⟩] 9 (0, 0))) :
    ∃ fn tmps assign body, (Instr.yield l #[.string ⟨x.toArray⟩]).run Tryd.prog W1 = .ok (.round l fn tmps assign body) W1 ∧ RoundIn Fence.wide (n - 1) Tryd.prog l fn tmps assign body W1 fun e W' => ∃ b, e = .returned (.bool b) ∧ ((b = true ∧ J (pre ++ [x]) W' ∧ W'.heap[bl]? = some (.cells #[.string ⟨rest.toArray⟩] 9 (0, 0))) ∨ (b = false ∧ Jx (pre ++ [x]) W')) := by
  obtain ⟨fn, tmps, assign, body, h1, h2⟩ := hY pre x W1 hj hx
  refine ⟨fn, tmps, assign, body, h1, h2.mono ?_⟩
  rintro e W' (⟨rfl, a, b⟩ | ⟨rfl, a⟩)
  · exact ⟨true, rfl, Or.inl ⟨rfl, a, b.trans hb⟩⟩
  · exact ⟨false, rfl, Or.inr ⟨rfl, a⟩⟩
set_option maxHeartbeats 4000000 in
set_option maxRecDepth 100000 in
theorem lines1_in (n : Nat) (hn : 1 ≤ n) (bl : Nat) (T : List UInt8) (hT : T.length ≤ 200000) : LinesIn n bl T := by
  intro l J Jx W hJ hY hb0 h0
  have HY := Lib.hid hY
  have HJ := Lib.hid hJ
  have H0 := Lib.hid h0
  have HB0 := Lib.hid hb0
  clear hY hJ h0 hb0
  refine callsIn_of_wp Tryd.func31 rfl trivial ?_ rfl
  simp only [Tryd.ntmps31, List.size_toArray, List.length_cons, List.length_nil, Nat.reduceAdd, Nat.reduceSub, Array.replicate_succ, Array.replicate_zero, List.push_toArray, List.append_toArray, List.nil_append, List.cons_append]
  gi_wp2
  gi_loopw [3] (fun _ wr => ∃ (pre : List (List UInt8)) (rest : List UInt8), wr.heap[bl]? = some (.cells #[.string ⟨rest.toArray⟩] 9 (0, 0)) ∧ J pre wr ∧ pre ++ lns rest = lns T ∧ rest.length ≤ T.length) (fun _ wr => strLen (wr.cell? ⟨bl, 0, none⟩))
  case atStart => exact ⟨[], T, HB0.out, H0.out, rfl, Nat.le_refl _⟩
  case round =>
    obtain ⟨pre, rest, hb, hj, hp, hl⟩ := hrel
    have c0 : wr.cell? ⟨bl, 0, none⟩ = some (.string ⟨rest.toArray⟩) := by rw [blk_cell hb 0]; rfl
    have f0 : wr.frozen? ⟨bl, 0, none⟩ = false := blk_free hb 0
    by_cases hr : rest = []
    · subst hr
      gi_wp2
      go_end0
      exact ⟨⟨_, rfl⟩, Or.inl (by rw [← hp]; show J (pre ++ []) wr; rw [List.append_nil]; exact hj)⟩
    · have hpos : 0 < rest.length := List.length_pos_iff.2 hr
      have hpos' : (0 : Int) < (rest.length : Int) := by omega
      have HB := Lib.hid hb
      have HJp := Lib.hid hj
      have HP := Lib.hid hp
      have HL := Lib.hid hl
      clear hb hj hp hl
      rcases idx_10 rest with ⟨hi, hno⟩ | ⟨o, la, lr, hi, hsp, hlo, hno⟩
      · have hW1 := HJ.out _ _ _ _ HJp.out (grownBy_setCell' wr bl (.string ⟨#[]⟩)) (fun r e => by cases e; rfl)
        have hW2 : (wr.setCell ⟨bl, 0, none⟩ (.string ⟨#[]⟩)).heap[bl]? = some (.cells #[.string ⟨([] : List UInt8).toArray⟩] 9 (0, 0)) := blk_set HB.out _
        obtain ⟨fn, tmps, assign, body, hy, hR⟩ := yield_at HY.out (rest := []) hW1 HL.out hW2
        have HR := Lib.hid hR
        have HNo := Lib.hid hno
        clear hR hW1 hW2 hno
        gi_wp2_with (refine ⟨trivial, ?_⟩; gi_at_call 32; refine (callsIn_wide.2 (idx_call hi _)).mono ?_; rintro e w2 ⟨rfl, rfl⟩)
        refine HR.out.mono ?_
        rintro e W3 ⟨b, rfl, ⟨rfl, j3, b3⟩ | ⟨rfl, j3⟩⟩
        · have hlr : lns rest = [rest] := lns_none HNo.out hr
          have HLr := Lib.hid hlr
          have hst : strLen (W3.cell? ⟨bl, 0, none⟩) = 0 := by rw [blk_cell b3 0]; rfl
          have HSt := Lib.hid hst
          clear hlr hst
          gi_wp2
          go_roundw
          case rel => exact ⟨pre ++ [rest], [], b3, j3, by rw [← HP.out, HLr.out]; exact List.append_nil _, Nat.zero_le _⟩
          case measure => rw [HSt.out, c0]; exact hpos
        · have HLr := Lib.hid (lns_none HNo.out hr)
          gi_wp2
          refine bodyPost_ret (results_none rfl _ _ _) rfl ?_
          exact ⟨⟨_, rfl⟩, Or.inr ⟨pre ++ [rest], [], by rw [List.append_nil, ← HP.out, HLr.out], j3⟩⟩
      · have HSp := Lib.hid hsp
        have HLo := Lib.hid hlo
        have HNo := Lib.hid hno
        obtain ⟨x, hx⟩ : ∃ x, x = la ++ [10] := ⟨_, rfl⟩
        have hW1 := HJ.out _ _ _ _ (HJ.out _ _ _ _ HJp.out (grownBy_setCell' wr bl (.string ⟨lr.toArray⟩)) (fun r e => by cases e; rfl)) (gr_drew _) (fun r e => by cases e)
        have hW2 : ((wr.setCell ⟨bl, 0, none⟩ (.string ⟨lr.toArray⟩)).drew).heap[bl]? = some (.cells #[.string ⟨lr.toArray⟩] 9 (0, 0)) := blk_set HB.out _
        have hlx : x.length ≤ T.length := by
          have h1 := HL.out
          rw [hsp, List.length_append, List.length_cons] at h1
          rw [hx, List.length_append, List.length_singleton]; omega
        obtain ⟨fn, tmps, assign, body, hy, hR⟩ := yield_at HY.out (rest := lr) hW1 hlx hW2
        have HR := Lib.hid hR
        have HX := Lib.hid hx
        clear hR hW1 hW2 hno hsp hlo hx hlx
        gi_wp2_with (refine ⟨trivial, ?_⟩; gi_at_call 32; refine (callsIn_wide.2 (idx_call hi _)).mono ?_; rintro e w2 ⟨rfl, rfl⟩)
        have hlo1 : o + 1 ≤ rest.length := by rw [HSp.out, List.length_append, List.length_cons, HLo.out]; omega
        have hb2 : rest.length ≤ 200000 := Nat.le_trans HL.out hT
        obtain ⟨p, hp⟩ : ∃ p, p = o + 1 := ⟨_, rfl⟩
        have hw : IntKind.i64.wrap ((o : Int) + 1) = (p : Int) := by rw [IntKind.wrap_i64]; omega
        have hp0 : (0 : Int) ≤ (p : Int) := by omega
        have hp1 : (p : Int) ≤ (rest.length : Int) := by omega
        have ex1 : (⟨rest.toArray⟩ : ByteArray).extract 0 p = ⟨x.toArray⟩ := by
          rw [ByteArray.extract_mk, HX.out, HSp.out, hp, ← HLo.out]
          simp [List.take_append, List.take_of_length_le]
        have ex2 : (⟨rest.toArray⟩ : ByteArray).extract p rest.length = ⟨lr.toArray⟩ := by
          rw [ByteArray.extract_mk, HSp.out, hp, ← HLo.out]
          have e : la.length + (lr.length + 1) - (la.length + 1) = lr.length := by omega
          simp [e]
        clear hp hlo1 hb2
        refine wpIn_wide.2 ?_
        (refine wp_region_noPanic ?_; refine wp_region_held_drew (S := fun _ : World => True) (by kernel_rfl) ?q1xb (fun hHeld => ?_); (case q1xb => ((try dsimp only); (all_goals exact trivial))); refine wpAnyH_take (i := 1) (v := ?q1x1nv1) (by simp only [List.getElem?_toArray, List.getElem?_cons_zero, List.getElem?_cons_succ]; exact rfl) (by kernel_rfl) (by kernel_rfl) (by kernel_rfl) (fun _ _ _ h => h) (Or.inl ⟨by rfl, ?q1x1ny1⟩) (by assumption) ?_; (case q1x1ny1 => (intro w hSw; (try dsimp only at hSw); go_simp; (try with_reducible rfl))); (try simp only [Act.put, List.setIfInBounds_toArray, List.set_cons_zero, List.set_cons_succ]); refine wpAnyH_take (i := 2) (v := ?q1x1nv2) (by simp only [List.getElem?_toArray, List.getElem?_cons_zero, List.getElem?_cons_succ]; exact rfl) (by kernel_rfl) (by kernel_rfl) (by kernel_rfl) (fun _ _ _ h => h) (Or.inl ⟨by rfl, ?q1x1ny2⟩) (by assumption) ?_; (case q1x1ny2 => (intro w hSw; (try dsimp only at hSw); go_simp; (try with_reducible rfl))); (try simp only [Act.put, List.setIfInBounds_toArray, List.set_cons_zero, List.set_cons_succ]); refine wpAnyH_take (i := 5) (v := ?q1x1nv5) (by simp only [List.getElem?_toArray, List.getElem?_cons_zero, List.getElem?_cons_succ]; exact rfl) (by kernel_rfl) (by kernel_rfl) (by kernel_rfl) (fun _ _ _ h => h) (Or.inl ⟨by rfl, ?q1x1ny5⟩) (by assumption) ?_; (case q1x1ny5 => (intro w hSw; (try dsimp only at hSw); go_simp; (try with_reducible rfl))); (try simp only [Act.put, List.setIfInBounds_toArray, List.set_cons_zero, List.set_cons_succ]); refine wpAnyH_take (i := 6) (v := ?q1x1nv6) (by simp only [List.getElem?_toArray, List.getElem?_cons_zero, List.getElem?_cons_succ]; exact rfl) (by kernel_rfl) (by kernel_rfl) (by kernel_rfl) (fun _ _ _ h => h) (Or.inl ⟨by rfl, ?q1x1ny6⟩) (by assumption) ?_; (case q1x1ny6 => (intro w hSw; (try dsimp only at hSw); go_simp; (try with_reducible rfl))); (try simp only [Act.put, List.setIfInBounds_toArray, List.set_cons_zero, List.set_cons_succ]); refine wpAnyH_ready (rs := [0, 4]) (by kernel_rfl) (by simp) ?_; refine (AllReadyH.cons (by simp only [List.getElem?_toArray, List.getElem?_cons_zero]; exact rfl) (fun K hK => ?_) (AllReadyH.cons (by simp only [List.getElem?_toArray, List.getElem?_cons_zero, List.getElem?_cons_succ]; exact rfl) (fun K hK => ?_) AllReadyH.nil)); (focus (go_simp; refine hK.out _ _ ?q1x2ns0 (fun hHeld => ?_); (case q1x2ns0 => ((try dsimp only); (all_goals exact trivial))); clear hK K; (try simp only [Act.put, List.setIfInBounds_toArray, List.set_cons_zero, List.set_cons_succ]); refine wpAnyH_take (i := 3) (v := ?q1x2nv3) (by simp only [List.getElem?_toArray, List.getElem?_cons_zero, List.getElem?_cons_succ]; exact rfl) (by kernel_rfl) (by kernel_rfl) (by kernel_rfl) (fun _ _ _ h => h) (Or.inl ⟨by rfl, ?q1x2ny3⟩) (by assumption) ?_; (case q1x2ny3 => (intro w hSw; (try dsimp only at hSw); go_simp; (try with_reducible rfl))); (try simp only [Act.put, List.setIfInBounds_toArray, List.set_cons_zero, List.set_cons_succ]); refine wpAnyH_take (i := 8) (v := ?q1x2nv8) (by simp only [List.getElem?_toArray, List.getElem?_cons_zero, List.getElem?_cons_succ]; exact rfl) (by kernel_rfl) (by kernel_rfl) (by kernel_rfl) (fun _ _ _ h => h) (Or.inl ⟨by rfl, ?q1x2ny8⟩) (by assumption) ?_; (case q1x2ny8 => (intro w hSw; (try dsimp only at hSw); go_simp; (try with_reducible rfl))); (try simp only [Act.put, List.setIfInBounds_toArray, List.set_cons_zero, List.set_cons_succ]); refine wpAnyH_ready (rs := [4]) (by kernel_rfl) (by simp) ?_; refine AllReadyH.cons (by simp only [List.getElem?_toArray, List.getElem?_cons_zero, List.getElem?_cons_succ]; exact rfl) (fun K hK => ?_) AllReadyH.nil; go_simp; refine hK.out _ _ ?q1x2ns4 (fun hHeld => ?_); (case q1x2ns4 => ((try dsimp only); (all_goals exact trivial))); clear hK K; (try simp only [Act.put, List.setIfInBounds_toArray, List.set_cons_zero, List.set_cons_succ]); refine wpAnyH_take (i := 7) (v := ?q1x2nv7) (by simp only [List.getElem?_toArray, List.getElem?_cons_zero, List.getElem?_cons_succ]; exact rfl) (by kernel_rfl) (by kernel_rfl) (by kernel_rfl) (fun _ _ _ h => h) (Or.inl ⟨by rfl, ?q1x2ny7⟩) (by assumption) ?_; (case q1x2ny7 => (intro w hSw; (try dsimp only at hSw); go_simp; (try with_reducible rfl))); (try simp only [Act.put, List.setIfInBounds_toArray, List.set_cons_zero, List.set_cons_succ]); refine wpAnyH_ready (rs := [9]) (by kernel_rfl) (by simp) ?_; refine AllReadyH.cons (by simp only [List.getElem?_toArray, List.getElem?_cons_zero, List.getElem?_cons_succ]; exact rfl) (fun K hK => ?_) AllReadyH.nil; go_simp; refine hK.out _ _ ?q1x2ns9 (fun hHeld => ?_); (case q1x2ns9 => ((try dsimp only); (all_goals exact trivial))); clear hK K; (try simp only [Act.put, List.setIfInBounds_toArray, List.set_cons_zero, List.set_cons_succ]); refine wpAnyH_done (by kernel_rfl) ?_ _; refine NoPanic.normal ?_)); rotate_left 1; (focus (go_simp; refine hK.out _ _ ?q1x3ns4 (fun hHeld => ?_); (case q1x3ns4 => ((try dsimp only); (all_goals exact trivial))); clear hK K; (try simp only [Act.put, List.setIfInBounds_toArray, List.set_cons_zero, List.set_cons_succ]); refine wpAnyH_take (i := 7) (v := ?q1x3nv7) (by simp only [List.getElem?_toArray, List.getElem?_cons_zero, List.getElem?_cons_succ]; exact rfl) (by kernel_rfl) (by kernel_rfl) (by kernel_rfl) (fun _ _ _ h => h) (Or.inl ⟨by rfl, ?q1x3ny7⟩) (by assumption) ?_; (case q1x3ny7 => (intro w hSw; (try dsimp only at hSw); go_simp; (try with_reducible rfl))); (try simp only [Act.put, List.setIfInBounds_toArray, List.set_cons_zero, List.set_cons_succ]); refine wpAnyH_ready (rs := [0]) (by kernel_rfl) (by simp) ?_; refine AllReadyH.cons (by simp only [List.getElem?_toArray, List.getElem?_cons_zero]; exact rfl) (fun K hK => ?_) AllReadyH.nil; go_simp; refine hK.out _ _ ?q1x3ns0 (fun hHeld => ?_); (case q1x3ns0 => ((try dsimp only); (all_goals exact trivial))); clear hK K; (try simp only [Act.put, List.setIfInBounds_toArray, List.set_cons_zero, List.set_cons_succ]); refine wpAnyH_take (i := 3) (v := ?q1x3nv3) (by simp only [List.getElem?_toArray, List.getElem?_cons_zero, List.getElem?_cons_succ]; exact rfl) (by kernel_rfl) (by kernel_rfl) (by kernel_rfl) (fun _ _ _ h => h) (Or.inl ⟨by rfl, ?q1x3ny3⟩) (by assumption) ?_; (case q1x3ny3 => (intro w hSw; (try dsimp only at hSw); go_simp; (try with_reducible rfl))); (try simp only [Act.put, List.setIfInBounds_toArray, List.set_cons_zero, List.set_cons_succ]); refine wpAnyH_take (i := 8) (v := ?q1x3nv8) (by simp only [List.getElem?_toArray, List.getElem?_cons_zero, List.getElem?_cons_succ]; exact rfl) (by kernel_rfl) (by kernel_rfl) (by kernel_rfl) (fun _ _ _ h => h) (Or.inl ⟨by rfl, ?q1x3ny8⟩) (by assumption) ?_; (case q1x3ny8 => (intro w hSw; (try dsimp only at hSw); go_simp; (try with_reducible rfl))); (try simp only [Act.put, List.setIfInBounds_toArray, List.set_cons_zero, List.set_cons_succ]); refine wpAnyH_ready (rs := [9]) (by kernel_rfl) (by simp) ?_; refine AllReadyH.cons (by simp only [List.getElem?_toArray, List.getElem?_cons_zero, List.getElem?_cons_succ]; exact rfl) (fun K hK => ?_) AllReadyH.nil; go_simp; refine hK.out _ _ ?q1x3ns9 (fun hHeld => ?_); (case q1x3ns9 => ((try dsimp only); (all_goals exact trivial))); clear hK K; (try simp only [Act.put, List.setIfInBounds_toArray, List.set_cons_zero, List.set_cons_succ]); refine wpAnyH_done (by kernel_rfl) ?_ _; refine NoPanic.normal ?_)); rotate_left 1)
        all_goals (
          gi_wp2
          refine HR.out.mono ?_
          rintro e W3 ⟨b, rfl, ⟨rfl, j3, b3⟩ | ⟨rfl, j3⟩⟩
          · have hlr : lns rest = x :: lns lr := by rw [HSp.out, HX.out]; exact lns_cons _ HNo.out
            have hst : strLen (W3.cell? ⟨bl, 0, none⟩) = lr.length := by rw [blk_cell b3 0]; exact List.size_toArray ..
            have hll : lr.length < rest.length := by rw [HSp.out, List.length_append, List.length_cons]; omega
            have HSt := Lib.hid hst
            have HLr := Lib.hid hlr
            have HLl := Lib.hid hll
            clear hst hlr hll
            gi_wp2
            go_roundw
            case rel => exact ⟨pre ++ [x], lr, b3, j3, by rw [← HP.out, HLr.out, List.append_assoc]; rfl, Nat.le_trans (Nat.le_of_lt HLl.out) HL.out⟩
            case measure => rw [HSt.out, c0]; exact HLl.out
          · have hlr : lns rest = x :: lns lr := by rw [HSp.out, HX.out]; exact lns_cons _ HNo.out
            have HLr := Lib.hid hlr
            clear hlr
            gi_wp2
            refine bodyPost_ret (results_none rfl _ _ _) rfl ?_
            exact ⟨⟨_, rfl⟩, Or.inr ⟨pre ++ [x], lns lr, by rw [← HP.out, HLr.out, List.append_assoc]; rfl, j3⟩⟩)
end Go.Proofs.YtnebijdifemicaaDoor
