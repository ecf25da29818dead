/- usherref.RingWeights and RingFault; ring.Check. -/
import Derived.Test.YtmhbkpgacdmjpaaRgOf
namespace Go.Proofs.Ytmhbkpgacdmjpaa
open Go.RowKit
theorem info_rint : (Try.prog.info? 3).map (fun i => (i.zero, i.size, i.bytes)) = some (some (.int .i64 0), 1, 8) := by kernel_rfl
theorem icN_flat (ws : List Nat) : (ws.map icN).flatten = (ws.map (fun n : Nat => (n : Int))).map (Value.int .i64) := by
  induction ws with
  | nil => rfl
  | cons x ws ih => simp only [List.map_cons, List.flatten_cons, icN] at ih ⊢; rw [ih]; rfl
theorem icN_len (ws : List Nat) : ∀ c ∈ ws.map icN, c.length = 1 := by
  intro c hc
  simp only [List.mem_map] at hc
  obtain ⟨x, _, rfl⟩ := hc
  rfl
theorem rgW_len (X : List Sp) : (rgW X).length = 12 := by simp [rgW]
theorem made_rint12 : (madeCells #[Value.int .i64 0] 12).toList = List.replicate 12 (.int .i64 0) := (madeCells_toList #[Value.int .i64 0] 12 (by decide)).trans rfl
theorem own_base {w : World} {B B' sz n : Nat} {t : TypeId} {v : Value} {cs : List Value} (h : w.ownsRow B t sz v n cs) (hB : B' ≤ B) : w.ownsRow B' t sz v n cs := by
  obtain ⟨h1, h2 | ⟨g, cap, cur, h3, h4, h5, h6⟩⟩ := h
  · exact ⟨h1, Or.inl h2⟩
  · exact ⟨h1, Or.inr ⟨g, cap, cur, h3, Nat.le_trans hB h4, h5, h6⟩⟩
def RWPost (w : World) (X : List Sp) (e : Ending) (w' : World) : Prop := ∃ v, e = .returned v ∧ ((RgMay X ∧ (∃ g, v = .slice (some ⟨g, 0, none⟩) 12 12 ∧ w'.ownsRow w.heap.size 3 1 (.slice (some ⟨g, 0, none⟩) 12 12) 12 ((rgW X).map icN).flatten)) ∨ (¬ RgMay X ∧ v = .slice none 0 0)) ∧ Below w.heap.size w w'
theorem RWPost.no {w w' : World} {X : List Sp} (h : ¬ RgMay X) (hb : Below w.heap.size w w') : RWPost w X (.returned (.slice none 0 0)) w' := ⟨_, rfl, Or.inr ⟨h, rfl⟩, hb⟩
def RWRel (w wr : World) (s : Value) (L : List Int) : Prop := Below w.heap.size w wr ∧ w.heap.size < wr.heap.size ∧ wr.cell? ⟨w.heap.size, 0, none⟩ = some s ∧ wr.ownsRow (w.heap.size + 1) 3 1 (.slice (some ⟨w.heap.size + 1, 0, none⟩) 12 12) 12 (L.map (Value.int .i64))

set_option maxHeartbeats 4000000 in
set_option maxRecDepth 100000 in
theorem ref_RingWeights (v : Value) (X : List Sp) (w : World) (r : RowAt w 2 v (X.map Sp.cells)) : Calls Try.prog 19 #[.agg #[v]] w (RWPost w X) := by
  obtain ⟨i0, hi, hi0, hi1, hi2⟩ := info_parts info_rint
  obtain ⟨a, c, rfl, _, m1, _, p1⟩ := RowAt_fn Sp.zero r
  have R := Lib.hid r
  have P1 := Lib.hid p1
  unfold maxLen at m1
  clear r p1
  go_enter Try.func19, Try.ntmps19
  go_wp2_with ((at_make; go_loud (refine wpList_make_full _ rfl _ _ 35 rfl (w.heap.size + 1) 3 i0 (.int .i64 0) 1 Try.underlying35 hi hi0 hi1 .i64 .i64 12 12 12 rfl rfl rfl rfl ?c1 ?c2 ?c3 ?_)))
  case c1 => rw [hi2]; omega
  case c2 => unfold maxLen; omega
  case c3 => simp
  intro w2 hown hgrow
  rw [show (madeCells #[.int .i64 0] (12 * 1)).toList = (cntK X 0).map (Value.int .i64) from made_rint12.trans (cntK_0 X).symm] at hown
  have B0 : Below (w.heap.size + 1) _ w2 := (Below.refl (w.heap.size + 1) _).grown hgrow (by simp) (fun k hk => by cases hk)
  have BB := Lib.hid (((Below.refl w.heap.size w).alloc (Nat.le_refl _) _).trans (B0.mono (by omega)))
  have c1 : w2.cell? ⟨w.heap.size, 0, none⟩ = some (.slice a X.length c) := by
    rw [B0.cell (p := ⟨w.heap.size, 0, none⟩) (by simp)]; go_simp
  have hz2 := B0.size
  simp at hz2
  have HO := Lib.hid hown
  have hz2' : w.heap.size < w2.heap.size := by omega
  clear hown hgrow B0 hz2
  rcases (show ¬ X.length ≤ 384 ∨ X.length ≤ 384 by omega) with hbig | hsm
  · have hb2 : 384 < (X.length : Int) := by omega
    have HN := Lib.hid (show ¬ RgMay X from fun h => hbig h.len)
    clear hbig HO
    go_wp2
    all_goals first | (go_ret; exact RWPost.no HN.out BB.out) | (exfalso; first | omega | (simp at *; omega) | (simp at *; done))
  have hb2 : ¬ 384 < (X.length : Int) := by omega
  go_wp2
  go_loopw [4, 5] (fun i _ wr => ∃ k : Nat, k ≤ X.length ∧ i = .int .i64 k ∧ RWRel w wr (.slice a X.length c) (cntK X k) ∧ Rg1 (X.take k)) (fun i _ _ => X.length - (intOf i).toNat)
  case atStart => exact ⟨0, Nat.zero_le _, rfl, ⟨BB.out, hz2', c1, HO.out⟩, by intro s hs; simp at hs⟩
  case round =>
    obtain ⟨k, hk, rfl, ⟨hb, hz, s0, hown⟩, hg⟩ := hrel
    have HB := Lib.hid hb
    have HG := Lib.hid hg
    clear BB HO c1 hz2'
    have HO := Lib.hid hown
    have gl : w.heap.size + 1 < wr.heap.size := (hown.lt _ rfl).2
    rcases (show k < X.length ∨ X.length = k by omega) with hlt | heq
    · have hlt' : (k : Int) < (X.length : Int) := by omega
      have p0 : (0 : Int) ≤ (k : Int) := by omega
      obtain ⟨b1, o1, rfl, hb1, q1⟩ := P1.out (by intro h; rw [h] at hlt; simp at hlt)
      have a0 := q1 k 0 hlt (by omega)
      have a1 := q1 k 1 hlt (by omega)
      obtain ⟨s, hs⟩ : ∃ s, s = X.getD k Sp.zero := ⟨_, rfl⟩
      rw [← hs] at a0 a1
      have HS := Lib.hid hs
      obtain ⟨h0, m⟩ := s
      simp only [Sp.cells, List.getElem?_cons_zero, List.getElem?_cons_succ, Nat.add_zero] at a0 a1
      have a0 := cell_below hb a0 hb1
      have a1 := cell_below hb a1 hb1
      clear hs q1 hb hg hown
      rcases (show (m < 0 ∨ 11 < m) ∨ (0 ≤ m ∧ m ≤ 11) by omega) with hm | ⟨hm0, hm1⟩
      · have HN := Lib.hid (cntK_bad HS.out hlt (by simp only; omega))
        go_wp2_with (go_at_call 24; refine (In_no _ _ _ _ (by omega)).mono ?_; rintro e w' ⟨rfl, rfl⟩)
        all_goals first | (go_ret; exact RWPost.no HN.out HB.out) | (exfalso; first | omega | (simp at *; omega) | (simp at *; done))
      · obtain ⟨m, rfl⟩ := Int.eq_ofNat_of_zero_le hm0
        have hm12 : m < 12 := by omega
        have e1 : wr.cell? ⟨w.heap.size + 1, m, none⟩ = some (.int .i64 (rct (X.take k) m)) := by rw [HO.out.cellAt m (by omega), List.getElem?_map, cntK_get X k hm12]; rfl
        have e2 : wr.frozen? ⟨w.heap.size + 1, m, none⟩ = false := HO.out.frozenAt m
        have hL := rct_le (X.take k) m
        have hL2 : (X.take k).length ≤ k := List.length_take_le _ _
        have hm12' : (m : Int) < 12 := by omega
        go_wp2_with (go_at_call 24; refine (In_yes _ _ _ _ (by omega) (by omega)).mono ?_; rintro e w' ⟨rfl, rfl⟩)
        go_roundw
        case rel =>
          refine ⟨k + 1, by omega, by go_num, ⟨HB.out.setCell (by simp) _, by simp; omega, (by repeat (first | (with_reducible assumption) | (with_reducible refine cell_alloc _ ?_) | (with_reducible refine cell_drewN _ ?_) | (refine (cell_set_ne (by omega)).trans ?_))), ?_⟩, rg1_step hlt HG.out (by rw [← HS.out]; exact hm0) (by rw [← HS.out]; simp only; omega)⟩
          rw [cntK_succ HS.out hlt rfl hm12, List.map_set]; exact (HO.out.stored m _).1
        case measure => simp [intOf]; omega
    · have hge : ¬ (k : Int) < (X.length : Int) := by omega
      have hN1 : Rg1 X := by have := HG.out; rwa [List.take_of_length_le (by omega)] at this
      have HR1 := Lib.hid hN1
      rw [cntK_all X heq] at hown
      have HO := Lib.hid hown
      have X0 := Lib.hid heq
      clear hb hg hown hN1 HG heq
      go_wp2
      go_loopw [6] (fun i wr2 => ∃ k : Nat, k ≤ 12 ∧ i = .int .i64 k ∧ RWRel w wr2 (.slice a X.length c) (mixK X k) ∧ ∀ b, b < k → rct X b % 4 = 0 ∧ rct X b ≤ 32) (fun i _ => 12 - (intOf i).toNat)
      case atStart => exact ⟨0, Nat.zero_le _, rfl, ⟨HB.out, hz, s0, HO.out⟩, by intro b hb; omega⟩
      case round =>
        clear HB HO hz s0 gl
        obtain ⟨k, hk, rfl, ⟨hb, hz, s0, hown⟩, hg⟩ := hrel
        have HB := Lib.hid hb
        have HG := Lib.hid hg
        have HO := Lib.hid hown
        have gl : w.heap.size + 1 < wr.heap.size := (hown.lt _ rfl).2
        clear hb hg hown
        rcases (show k < 12 ∨ k = 12 by omega) with hlt | rfl
        · have hlt' : (k : Int) < 12 := by omega
          have p0 : (0 : Int) ≤ (k : Int) := by omega
          obtain ⟨n, hn⟩ : ∃ n, n = rct X k := ⟨_, rfl⟩
          have HN := Lib.hid hn
          have e1 : wr.cell? ⟨w.heap.size + 1, k, none⟩ = some (.int .i64 (n : Int)) := by
            rw [HO.out.cellAt k (by omega), List.getElem?_map, mixK_get X k hlt, if_neg (by omega), ← hn]; rfl
          have e2 : wr.frozen? ⟨w.heap.size + 1, k, none⟩ = false := HO.out.frozenAt k
          clear hn
          rcases (show (¬ n % 4 = 0) ∨ (n % 4 = 0 ∧ 32 < n) ∨ (n % 4 = 0 ∧ n ≤ 32) by omega) with h4 | ⟨h4, h5⟩ | ⟨h4, h5⟩
          · have h6 : ¬ (n : Int) % 4 = 0 := by omega
            have HN := Lib.hid (mixK_bad hlt (by rw [← HN.out]; exact Or.inl h4))
            clear h4
            go_wp2
            all_goals first | (go_ret; exact RWPost.no HN.out HB.out) | (exfalso; first | omega | (simp at *; omega) | (simp at *; done))
          · have h6 : (n : Int) % 4 = 0 := by omega
            have h7 : 32 < (n : Int) := by omega
            have HN := Lib.hid (mixK_bad hlt (by rw [← HN.out]; exact Or.inr h5))
            clear h4
            go_wp2
            all_goals first | (go_ret; exact RWPost.no HN.out HB.out) | (exfalso; first | omega | (simp at *; omega) | (simp at *; done))
          · obtain ⟨q, rfl⟩ : ∃ q, n = 4 * q := ⟨n / 4, by omega⟩
            have h6 : ((4 * q : Nat) : Int) % 4 = 0 := by omega
            have h7 : ¬ 32 < ((4 * q : Nat) : Int) := by omega
            clear h4
            go_wp2
            go_roundw
            case rel =>
              refine ⟨k + 1, by omega, by go_num, ⟨HB.out.setCell (by simp) _, by simp; omega, (by repeat (first | (with_reducible assumption) | (with_reducible refine cell_alloc _ ?_) | (with_reducible refine cell_drewN _ ?_) | (refine (cell_set_ne (by omega)).trans ?_))), ?_⟩, ?_⟩
              · have e : mixK X (k + 1) = (mixK X k).set k (q : Int) := by rw [mixK_succ X hlt, ← HN.out]; congr 2; omega
                rw [e, List.map_set]; exact (HO.out.stored k _).1
              · intro b hb
                rcases (show b < k ∨ b = k by omega) with h | rfl
                · exact HG.out b h
                · rw [← HN.out]; omega
            case measure => simp [intOf]; omega
        · have hge : ¬ (12 : Int) < 12 := by omega
          go_wp2_with fail
          have H2 : Rg2 X := fun b hb => HG.out b hb
          refine (ref_RingOf _ (rgW X) _ (RowAt_of_owns (L := (rgW X).map icN) (by rw [icN_flat, ← mixK_12]; exact HO.out) (by rw [List.length_map, rgW_len]) (icN_len _)) (rgW_len X) (rgW_le H2)).mono ?_
          rintro e w1 ⟨v1, rfl, R1, hb1⟩
          have hz1 := hb1.size
          have HB1 := Lib.hid (HB.out.trans (hb1.mono HB.out.size))
          have s1 := cell_below hb1 s0 hz
          have HO1 := Lib.hid (own_keep HO.out hb1)
          have RX := Lib.hid (RowAt_below R.out HB1.out)
          obtain ⟨a1, c1, rfl, _⟩ := RowAt_shape R1.1
          have RR := Lib.hid R1.1
          obtain ⟨r, hr⟩ : ∃ r : Bool, (ringOf (rgW X) = X ∧ r = true) ∨ (ringOf (rgW X) ≠ X ∧ r = false) := by
            by_cases h : ringOf (rgW X) = X
            · exact ⟨true, Or.inl ⟨h, rfl⟩⟩
            · exact ⟨false, Or.inr ⟨h, rfl⟩⟩
          have HR := Lib.hid hr
          have H2 := Lib.hid H2
          have hz1' : w.heap.size < w1.heap.size := by omega
          clear hr R1 hb1 s0 HB HO
          go_wp2_with fail
          refine (sameRingD _ _ (ringOf (rgW X)) X _ (RowAt_alloc RR.out _) (RowAt_alloc RX.out _) r HR.out).mono ?_
          rintro e w2 ⟨rfl, hb2⟩
          have HB2 := Lib.hid ((HB1.out.alloc (by omega) (.cells #[.slice a1 (ringOf (rgW X)).length c1] 24)).trans (hb2.mono (by simp; omega)))
          have HO2 := Lib.hid (own_keep (HO1.out.alloc (.cells #[.slice a1 (ringOf (rgW X)).length c1] 24)) hb2)
          clear hb2
          cases r with
          | false =>
            have HN := Lib.hid (show ¬ RgMay X from fun h => by
              rcases HR.out with ⟨_, h'⟩ | ⟨h', _⟩
              · cases h'
              · exact h' h.2.2.symm)
            go_wp2
            all_goals first | (go_ret; exact RWPost.no HN.out HB2.out) | (exfalso; first | omega | (simp at *; omega) | (simp at *; done))
          | true =>
            have HY := Lib.hid (show RgMay X from by
              rcases HR.out with ⟨h', _⟩ | ⟨_, h'⟩
              · exact ⟨HR1.out, H2.out, h'.symm⟩
              · cases h')
            go_wp2
            all_goals first | (go_ret; exact ⟨_, rfl, Or.inl ⟨HY.out, _, rfl, by rw [icN_flat, ← mixK_12]; exact own_base HO2.out (Nat.le_succ _)⟩, HB2.out⟩) | (exfalso; first | omega | (simp at *; omega) | (simp at *; done))

set_option maxHeartbeats 2000000 in
theorem ref_RgFault (v : Value) (X : List Sp) (w : World) (r : RowAt w 2 v (X.map Sp.cells)) (c : Int) (hc : (RgMay X ∧ c = 0) ∨ (¬ RgMay X ∧ c = 6)) : Calls Try.prog 9 #[.agg #[v]] w fun e w' => e = .returned (.int .i64 c) ∧ Below w.heap.size w w' := by
  have R := Lib.hid r
  have HC := Lib.hid hc
  obtain ⟨a, cp, rfl, _⟩ := RowAt_shape r
  clear r hc
  go_enter Try.func9, Try.ntmps9
  go_wp2_with fail
  refine (ref_RingWeights _ X _ (RowAt_alloc R.out _)).mono ?_
  rintro e w1 ⟨v, rfl, h, hb⟩
  have HB := Lib.hid (((Below.refl w.heap.size w).alloc (Nat.le_refl _) _).trans (hb.mono (by simp)))
  clear hb
  rcases h with ⟨hm, g, rfl, hown⟩ | ⟨hm, rfl⟩
  · obtain rfl : c = 0 := by rcases HC.out with ⟨_, h⟩ | ⟨h, _⟩; exact h; exact absurd hm h
    clear hown hm
    go_wp2
    all_goals first | (go_ret; exact ⟨rfl, HB.out⟩) | (exfalso; first | omega | (simp at *; omega) | (simp at *; done))
  · obtain rfl : c = 6 := by rcases HC.out with ⟨h, _⟩ | ⟨_, h⟩; exact absurd h hm; exact h
    clear hm
    go_wp2
    all_goals first | (go_ret; exact ⟨rfl, HB.out⟩) | (exfalso; first | omega | (simp at *; omega) | (simp at *; done))
set_option maxHeartbeats 2000000 in
set_option maxRecDepth 100000 in
theorem prog_RgCheck (v : Value) (X : List Sp) (w : World) (r : RowAt w 2 v (X.map Sp.cells)) (hn : X.length * 16 ≤ 140737488351232) (c : Int) (hc : (RgMay X ∧ c = 0) ∨ (¬ RgMay X ∧ c = 6)) : Calls Try.prog 7 #[.agg #[v]] w fun e w' => e = .returned (.int .i64 c) ∧ Below w.heap.size w w' := by
  have R := Lib.hid r
  have HC := Lib.hid hc
  obtain ⟨a, cp, rfl, _⟩ := RowAt_shape r
  clear r hc
  go_enter Try.func7, Try.ntmps7
  go_wp2_with fail
  refine (prog_weights _ X _ (RowAt_alloc R.out _) hn).mono ?_
  rintro e w1 ⟨L, b, hL, rfl, h1, h2, hb⟩
  have HB := Lib.hid (((Below.refl w.heap.size w).alloc (Nat.le_refl _) _).trans (hb.mono (by simp)))
  have hz1 := hb.size
  simp at hz1
  have H1 := Lib.hid h1
  have H2 := Lib.hid h2
  have HL := Lib.hid hL
  clear hb h1 h2 hL
  cases b with
  | true =>
    obtain rfl : c = 0 := by rcases HC.out with ⟨_, h⟩ | ⟨h, _⟩; exact h; exact absurd (H2.out h) (by simp)
    go_wp2_with (refine wpList_store_row rfl 39 (.tmp 3) (.tmp 8) rfl w1.heap.size (ar12 L) rfl rfl 39 (ar12 (List.replicate 12 0)) (heap_at _ rfl) (ar12_info HL.out) (by rw [ar12_size HL.out]; rfl) (ar12_one _) ?_)
    all_goals first | (go_ret; exact ⟨rfl, setRow_below (HB.out.alloc (by omega) _) (by omega)⟩) | (exfalso; first | omega | (simp at *; omega) | (simp at *; done))
  | false =>
    obtain rfl : c = 6 := by rcases HC.out with ⟨h, _⟩ | ⟨_, h⟩; exact absurd (H1.out h).1 (by simp); exact h
    go_wp2_with (refine wpList_store_row rfl 39 (.tmp 3) (.tmp 8) rfl w1.heap.size (ar12 L) rfl rfl 39 (ar12 (List.replicate 12 0)) (heap_at _ rfl) (ar12_info HL.out) (by rw [ar12_size HL.out]; rfl) (ar12_one _) ?_)
    all_goals first | (go_ret; exact ⟨rfl, setRow_below (HB.out.alloc (by omega) _) (by omega)⟩) | (exfalso; first | omega | (simp at *; omega) | (simp at *; done))
end Go.Proofs.Ytmhbkpgacdmjpaa
