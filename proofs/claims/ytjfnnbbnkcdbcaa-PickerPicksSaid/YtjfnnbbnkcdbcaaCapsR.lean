/- usherref.CapsOf: its contract. -/
import Derived.Test.YtjfnnbbnkcdbcaaCapsP
namespace Go.Proofs.Ytjfnnbbnkcdbcaa
open Go.RowKit

set_option maxHeartbeats 4000000 in
set_option maxRecDepth 100000 in
theorem ref_Caps_bad (v : Value) (L : List Ld) (num den flows : Int) (w : World) (hv : RowAt w 3 v (L.map Ld.cells)) (h : ¬ LdsMay L) : Calls Try.prog 58 #[v, .int .i64 num, .int .i64 den, .int .i64 flows] w (CapsPost w [] 6) := by
  have H := Lib.hid h
  have R := Lib.hid hv
  obtain ⟨a, c, rfl, _⟩ := RowAt_shape hv
  clear h hv
  go_enter Try.func58, Try.ntmps58
  go_wp2_with (go_at_call 71; refine (ref_LoadsMay _ L false _ R.out (Or.inr ⟨H.out, rfl⟩)).mono ?_; rintro e w1 ⟨rfl, hb1⟩; obtain ⟨hc1, hf1⟩ := bcell hb1; have hz1 := blt hb1; have hy1 := hb1.size; (try simp at hy1))
  refine bodyPost_ret (v := .tuple #[.slice none 0 0, .int .i64 6]) ?_ rfl ⟨_, rfl, RowNew_nil _ _ _, hb1⟩
  simp [results, Try.results58, go_sem]
set_option maxHeartbeats 4000000 in
set_option maxRecDepth 100000 in
theorem ref_Caps_range (v : Value) (L : List Ld) (num den flows : Int) (w : World) (hv : RowAt w 3 v (L.map Ld.cells)) (h : LdsMay L) (h2 : ¬ FacMay num den flows) : Calls Try.prog 58 #[v, .int .i64 num, .int .i64 den, .int .i64 flows] w (CapsPost w [] 2) := by
  have H := Lib.hid h
  have R := Lib.hid hv
  obtain ⟨a, c, rfl, _⟩ := RowAt_shape hv
  clear h hv
  rcases (show num < 1 ∨ (1 ≤ num ∧ 20 < num) ∨ (1 ≤ num ∧ num ≤ 20 ∧ den < 1) ∨ (1 ≤ num ∧ num ≤ 20 ∧ 1 ≤ den ∧ num < den) ∨ (1 ≤ num ∧ num ≤ 20 ∧ 1 ≤ den ∧ den ≤ num ∧ flows < 0) ∨ (1 ≤ num ∧ num ≤ 20 ∧ 1 ≤ den ∧ den ≤ num ∧ 0 ≤ flows ∧ 40 < flows) by have := not_FacMay h2; omega) with h3 | ⟨h3, h4⟩ | ⟨h3, h4, h5⟩ | ⟨h3, h4, h5, h6⟩ | ⟨h3, h4, h5, h6, h7⟩ | ⟨h3, h4, h5, h6, h7, h8⟩
  all_goals
    clear h2
    go_enter Try.func58, Try.ntmps58
    go_wp2_with (first | (go_at_call 71; refine (ref_LoadsMay _ L true _ R.out (Or.inl ⟨H.out, rfl⟩)).mono ?_; rintro e w1 ⟨rfl, hb1⟩; obtain ⟨hc1, hf1⟩ := bcell hb1; have hz1 := blt hb1; have hy1 := hb1.size; (try simp at hy1)) | (go_at_call 31; first | (refine (In_yes _ _ _ _ (by omega) (by omega)).mono ?_; rintro e w' ⟨rfl, rfl⟩) | (refine (In_no _ _ _ _ (by omega)).mono ?_; rintro e w' ⟨rfl, rfl⟩)) | go_in)
    refine bodyPost_ret (v := .tuple #[.slice none 0 0, .int .i64 2]) ?_ rfl ⟨_, rfl, RowNew_nil _ _ _, hb1⟩
    simp [results, Try.results58, go_sem]

/-- What holds at the head of CapsOf's second loop. -/
def CrRel (w wr : World) (L : List Ld) (num den flows : Int) (k : Nat) (o : Value) : Prop := Below w.heap.size w wr ∧ ∃ (a : Option Addr) (cap : Nat), o = .slice a k cap ∧ wr.ownsRow w.heap.size 3 1 (.slice a k cap) k (((capsL L num den flows).map (Value.int .i64)).take k)
theorem CrRel_step {w wr w1 : World} {L : List Ld} {num den flows : Int} {k cap cap' : Nat} {a a' : Option Addr} {o : Obj} {s : Ld} (hb : Below w.heap.size w wr) (h0 : wr.ownsRow w.heap.size 3 1 (.slice a k cap) k (((capsL L num den flows).map (Value.int .i64)).take k))
    (hgrow : (wr.alloc o).grownBy w1 (Value.slice a k cap).ownBlock) (hown : w1.ownsRow w.heap.size 3 1 (.slice a' (k + 1) cap') (k + 1) (((capsL L num den flows).map (Value.int .i64)).take k ++ [.int .i64 (capAt num den flows (wsum L) s)])) (hk : k < L.length) (hs : s = L.getD k Ld.zero) :
    CrRel w w1 L num den flows (k + 1) (.slice a' (k + 1) cap') := by
  have B := grown_below ((Below.refl wr.heap.size wr).alloc (Nat.le_refl _) o) hb.size h0 hgrow
  refine ⟨hb.trans B, a', cap', rfl, ?_⟩
  rw [List.take_succ_eq_append_getElem (by simpa [capsL] using hk)]
  have e : ((capsL L num den flows).map (Value.int .i64))[k]'(by simpa [capsL] using hk) = .int .i64 (capAt num den flows (wsum L) s) := by
    simp [capsL, hs, List.getD, hk]
  rw [e]; exact hown

set_option maxHeartbeats 4000000 in
set_option maxRecDepth 100000 in
theorem ref_Caps_ok (v : Value) (L : List Ld) (num den flows : Int) (w : World) (hv : RowAt w 3 v (L.map Ld.cells)) (h : LdsMay L) (h2 : FacMay num den flows) : Calls Try.prog 58 #[v, .int .i64 num, .int .i64 den, .int .i64 flows] w (CapsPost w (capsL L num den flows) 0) := by
  obtain ⟨i0, hi, hi0, hi1, hi2⟩ := info_parts info_capint
  have H := Lib.hid h
  have R := Lib.hid hv
  obtain ⟨a, c, rfl, l, m, n, p⟩ := RowAt_fn Ld.zero hv
  have P := Lib.hid p
  have h12 : L.length ≤ 12 := h.1
  have h96 := wsum_96 h
  obtain ⟨d1, d2, d3, d4, d5⟩ := h2
  clear h hv p l m n
  go_enter Try.func58, Try.ntmps58
  go_wp2_with (first | (go_at_call 71; refine (ref_LoadsMay _ L true _ R.out (Or.inl ⟨H.out, rfl⟩)).mono ?_; rintro e w1 ⟨rfl, hb1⟩; obtain ⟨hc1, hf1⟩ := bcell hb1; have hz1 := blt hb1; have hy1 := hb1.size; (try simp at hy1)) | (go_at_call 31; first | (refine (In_yes _ _ _ _ (by omega) (by omega)).mono ?_; rintro e w' ⟨rfl, rfl⟩) | (refine (In_no _ _ _ _ (by omega)).mono ?_; rintro e w' ⟨rfl, rfl⟩)) | go_in)
  go_loopw [10, 11] (fun t i wr => ∃ k : Nat, k ≤ L.length ∧ i = .int .i64 k ∧ t = .int .i64 (wsum (L.take k)) ∧ Below w.heap.size w wr) (fun _ i _ => L.length - (intOf i).toNat)
  case atStart => exact ⟨0, Nat.zero_le _, rfl, rfl, hb1⟩
  case round =>
    obtain ⟨k, hk, rfl, rfl, hb⟩ := hrel
    have HB := Lib.hid hb
    clear hc1 hf1 hz1 hb1
    have t1 := wsum_bd H.out hk
    rcases (show k < L.length ∨ L.length = k by omega) with hlt | heq
    · have hlt' : (k : Int) < (L.length : Int) := by omega
      obtain ⟨b0, o0, rfl, hb0, q⟩ := P.out (by intro h; rw [h] at hlt; simp at hlt)
      obtain ⟨s, hs⟩ : ∃ s, s = L.getD k Ld.zero := ⟨_, rfl⟩
      have a1 : wr.cell? ⟨b0, o0 + k * 3 + 1, none⟩ = some (.int .i64 s.weight) := by
        rw [hb.cell (p := ⟨b0, o0 + k * 3 + 1, none⟩) hb0, hs]; exact q k 1 hlt (by omega)
      have hat : LdAt L k := H.out.2 k hlt
      have hw := Lib.hid (wsum_snoc hlt)
      rw [← hs] at hw
      have w1' : 0 ≤ s.weight ∧ s.weight ≤ 8 := by unfold LdAt at hat; rw [← hs] at hat; exact ⟨hat.2.2.1, hat.2.2.2.1⟩
      obtain ⟨w1', w2'⟩ := w1'
      clear hs q hat hb
      go_wp2
      go_roundw
      case rel => exact ⟨k + 1, by omega, by go_num, by rw [hw.out], HB.out⟩
      case measure => simp [intOf]; omega
    · have hge : ¬ (k : Int) < (L.length : Int) := by omega
      obtain ⟨T, hT⟩ : ∃ T, T = wsum (L.take k) := ⟨_, rfl⟩
      have HT : Hid (T = wsum L) := by rw [hT, List.take_of_length_le (by omega)]; rfl
      rw [← hT] at t1 ⊢
      clear hb hT heq
      go_wp2_with fail
      go_loopw [12, 13, 14] (fun o i _ wr => ∃ k : Nat, k ≤ L.length ∧ i = .int .i64 k ∧ CrRel w wr L num den flows k o) (fun _ i _ _ => L.length - (intOf i).toNat)
      case atStart => exact ⟨0, Nat.zero_le _, rfl, HB.out, none, 0, rfl, World.ownsRow_nil _ _ _ _⟩
      case round =>
        obtain ⟨k, hk, rfl, hb, a2, cap, rfl, hown⟩ := hrel
        have HB3 := Lib.hid hb
        have HO3 := Lib.hid hown
        have lw := hb.size
        clear HB hown
        rcases (show k < L.length ∨ L.length = k by omega) with hlt | heq
        · have hlt' : (k : Int) < (L.length : Int) := by omega
          obtain ⟨b0, o0, rfl, hb0, q⟩ := P.out (by intro h; rw [h] at hlt; simp at hlt)
          obtain ⟨s, hs⟩ : ∃ s, s = L.getD k Ld.zero := ⟨_, rfl⟩
          have a1 : wr.cell? ⟨b0, o0 + k * 3 + 1, none⟩ = some (.int .i64 s.weight) := by
            rw [hb.cell (p := ⟨b0, o0 + k * 3 + 1, none⟩) hb0, hs]; exact q k 1 hlt (by omega)
          have hat : LdAt L k := H.out.2 k hlt
          have hge : s.weight ≤ T := by rw [HT.out, hs]; exact wsum_ge H.out hlt
          have hT96 : T ≤ 96 := by rw [HT.out]; exact h96
          have w1' : 0 ≤ s.weight ∧ s.weight ≤ 8 := by unfold LdAt at hat; rw [← hs] at hat; exact ⟨hat.2.2.1, hat.2.2.2.1⟩
          obtain ⟨w1', w2'⟩ := w1'
          have HS := Lib.hid hs
          clear hs q hat hb
          obtain ⟨bk, wt, fl⟩ := s
          simp only at a1 w1' w2' hge
          by_cases hw : 0 < wt
          · have hmay : CapMay num den flows wt T := ⟨d1, d2, d3, d4, d5, by omega, hge, hT96⟩
            have HM := Lib.hid hmay
            have HV : Hid (capAt num den flows (wsum L) ⟨bk, wt, fl⟩ = capOf num den flows wt T) := by rw [HT.out]; simp [Hid, capAt, hw]
            clear hmay
            obtain ⟨cv, hcv⟩ : ∃ cv, cv = capOf num den flows wt T := ⟨_, rfl⟩
            have HC := Lib.hid hcv
            go_wp2_with (first | (go_at_call 72; refine (ref_CapOf _ _ _ _ _ _ HM.out).mono ?_; rintro e w' ⟨rfl, rfl⟩) | (at_builtin; go_loud (refine wpList_append_own _ rfl _ _ 65 rfl w.heap.size 3 i0 (.int .i64 0) 1 8 Try.underlying65 hi hi0 hi1 hi2 rfl (by decide) _ k _ rfl (HO3.out.alloc _) ⟨wr.heap.size, 0, none⟩ 1 1 [.int .i64 (capOf num den flows wt T)] rfl rfl (news_one [.int .i64 (capOf num den flows wt T)] 3) ?c1 ?c2 ?c3 ?c4 ?_)))
            case c1 => first | rfl | (intro u hu; simp at hu; subst hu; rfl)
            case c2 => unfold maxLen; omega
            case c3 => omega
            case c4 => first | omega | (simp; omega)
            intro v' w1 hown' hgrow _
            obtain ⟨a', cap', rfl, _, _⟩ := owns_shape hown'
            rw [← HV.out] at hown'
            have S := Lib.hid (CrRel_step HB3.out HO3.out hgrow hown' hlt HS.out)
            clear hown' hgrow
            go_wp2
            go_roundw
            case rel => exact ⟨k + 1, by omega, by go_num, S.out⟩
            case measure => simp [intOf]; omega
          · have hd : decide (0 < wt) = false := by simpa using hw
            have HV : Hid (capAt num den flows (wsum L) ⟨bk, wt, fl⟩ = 0) := by simp [Hid, capAt, hw]
            go_wp2_with (at_builtin; go_loud (refine wpList_append_own _ rfl _ _ 65 rfl w.heap.size 3 i0 (.int .i64 0) 1 8 Try.underlying65 hi hi0 hi1 hi2 rfl (by decide) _ k _ rfl (HO3.out.alloc _) ⟨wr.heap.size, 0, none⟩ 1 1 [.int .i64 0] rfl rfl (news_one [.int .i64 0] 3) ?c1 ?c2 ?c3 ?c4 ?_))
            case c1 => first | rfl | (intro u hu; simp at hu; subst hu; rfl)
            case c2 => unfold maxLen; omega
            case c3 => omega
            case c4 => first | omega | (simp; omega)
            intro v' w1 hown' hgrow _
            obtain ⟨a', cap', rfl, _, _⟩ := owns_shape hown'
            rw [← HV.out] at hown'
            have S := Lib.hid (CrRel_step HB3.out HO3.out hgrow hown' hlt HS.out)
            clear hown' hgrow
            go_wp2
            go_roundw
            case rel => exact ⟨k + 1, by omega, by go_num, S.out⟩
            case measure => simp [intOf]; omega
        · have hge : ¬ (k : Int) < (L.length : Int) := by omega
          have hEQ := Lib.hid heq
          clear hb heq
          go_wp2
          refine bodyPost_ret (v := .tuple #[.slice a2 k cap, .int .i64 0]) ?_ rfl ⟨_, rfl, ?_, HB3.out⟩
          · simp [results, Try.results58, go_sem]
          · refine RowNew_of_owns (e := 3) (n := k) ?_ (by simp [capsL]; exact hEQ.out) (intrel _)
            have h := HO3.out
            rw [List.take_of_length_le (by have := hEQ.out; simp [capsL]; omega)] at h
            rw [int_flat]
            exact h
end Go.Proofs.Ytjfnnbbnkcdbcaa
