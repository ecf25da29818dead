/- usherref.Picked: its contract. -/
import Derived.Test.YtjfnnbbnkcdbcaaPickK
import Derived.Test.YtjfnnbbnkcdbcaaCapsR
namespace Go.Proofs.Ytjfnnbbnkcdbcaa
open Go.RowKit

theorem rc_any (v : Value) (L : List Ld) (num den flows : Int) (Y : List Int) (code : Int) (w : World) (hv : RowAt w 3 v (L.map Ld.cells)) (h : CapsAns L num den flows Y code) : Calls Try.prog 58 #[v, .int .i64 num, .int .i64 den, .int .i64 flows] w (CapsPost w Y code) := by
  rcases h with ⟨h, rfl, rfl⟩ | ⟨h, h2, rfl, rfl⟩ | ⟨h, h2, rfl, rfl⟩
  · exact ref_Caps_bad v L num den flows w hv h
  · exact ref_Caps_range v L num den flows w hv h h2
  · exact ref_Caps_ok v L num den flows w hv h h2

set_option maxHeartbeats 4000000 in
set_option maxRecDepth 100000 in
theorem ref_loadOf (v : Value) (L : List Ld) (b : Int) (w : World) (hv : RowAt w 3 v (L.map Ld.cells)) (hn : L.length ≤ 12) :
    Calls Try.prog 59 #[v, .int .i64 b] w fun e w' => e = .returned (.int .i64 (idxOf (lwIs b) L)) ∧ Below w.heap.size w w' := by
  obtain ⟨a, c, rfl, _, _, _, p⟩ := RowAt_fn Ld.zero hv
  have P := Lib.hid p
  clear hv p
  go_enter Try.func59, Try.ntmps59
  go_wp2
  go_loopw [5] (fun i wr => ∃ k : Nat, k ≤ L.length ∧ i = .int .i64 k ∧ Below w.heap.size w wr ∧ ∀ x ∈ L.take k, lwIs b x = false) (fun i _ => L.length - (intOf i).toNat)
  case atStart => exact ⟨0, Nat.zero_le _, rfl, Below.refl _ _, fun x hx => by simp at hx⟩
  case round =>
    obtain ⟨k, hk, rfl, hb, hall⟩ := hrel
    have HA := Lib.hid hall
    have HB := Lib.hid hb
    clear hall
    rcases (show k < L.length ∨ L.length = k by omega) with hlt | heq
    · have hlt' : (k : Int) < (L.length : Int) := by omega
      have p0 : (0 : Int) ≤ (k : Int) := by omega
      obtain ⟨b0, o0, rfl, hb0, q⟩ := P.out (by intro h; rw [h] at hlt; simp at hlt)
      obtain ⟨s, hs⟩ : ∃ s, s = L.getD k Ld.zero := ⟨_, rfl⟩
      have HS := Lib.hid hs
      have a0 : wr.cell? ⟨b0, o0 + k * 3, none⟩ = some (.int .i64 s.backend) := by
        have := q k 0 hlt (by omega)
        rw [Nat.add_zero] at this
        rw [hb.cell (p := ⟨b0, o0 + k * 3, none⟩) hb0, this, hs]; rfl
      have a1 : wr.cell? ⟨b0, o0 + k * 3 + 1, none⟩ = some (.int .i64 s.weight) := by
        rw [hb.cell (p := ⟨b0, o0 + k * 3 + 1, none⟩) hb0, q k 1 hlt (by omega), hs]; rfl
      clear hs q hb
      obtain ⟨bk, wt, fl⟩ := s
      simp only at a0 a1
      by_cases h1 : bk = b
      · subst h1
        by_cases h2 : 0 < wt
        · have hR : Hid (idxOf (lwIs bk) L = k) := idxOf_hit hlt HS.out (by simp [lwIs, h2]) HA.out
          go_wp2
          all_goals first | (go_ret; exact ⟨rI hR.out.symm, HB.out⟩) | (exfalso; first | omega | (simp at *; omega) | (simp at *; done))
        · have hd : decide (0 < wt) = false := by simpa using h2
          have HN := Lib.hid (idx_step hlt HS.out (by simp [lwIs, h2]) HA.out)
          clear h2
          go_wp2
          go_roundw
          case rel => exact ⟨k + 1, by omega, by go_num, HB.out, HN.out⟩
          case measure => simp [intOf]; omega
      · have hd : (bk == b) = false := by simpa using h1
        have HN := Lib.hid (idx_step hlt HS.out (by simp [lwIs, h1]) HA.out)
        clear h1
        go_wp2
        go_roundw
        case rel => exact ⟨k + 1, by omega, by go_num, HB.out, HN.out⟩
        case measure => simp [intOf]; omega
    · have hge : ¬ (k : Int) < (L.length : Int) := by omega
      have HE := Lib.hid (idxOf_none heq HA.out)
      clear heq hb HA
      go_wp2
      all_goals first | (go_ret; exact ⟨rI HE.out.symm, HB.out⟩) | (exfalso; first | omega | (simp at *; omega) | (simp at *; done))
def anyW (L : List Ld) (k : Nat) : Bool := (L.take k).any pw
theorem anyW_snoc {L : List Ld} {k : Nat} {o : Ld} (hk : k < L.length) (ho : o = L.getD k Ld.zero) : anyW L (k + 1) = (anyW L k || pw o) := by
  unfold anyW
  rw [List.take_succ_eq_append_getElem hk, List.any_append, ho]
  simp [List.getD, hk]
theorem anyW_all (L : List Ld) : anyW L L.length = L.any pw := by simp [anyW]

theorem best_ltd {L : List Ld} {C : List Int} {a n : Nat} {b : Int} (h : BestIs L C a n b) : b = -1 ∨ ∃ m : Nat, b = m ∧ m < n := by
  rcases h with ⟨rfl, h⟩ | ⟨m, rfl, _, h2, _⟩
  · exact Or.inl rfl
  · exact Or.inr ⟨m, rfl, h2⟩
/-- What is left of the walk in Picked's second loop. -/
def PkTr (L : List Ld) (C Wk : List Int) (tries d : Int) (k : Nat) : Prop := alongF L C Wk tries = if d ≤ tries then alongF L C (Wk.drop k) (tries - d) else -1
theorem PkTr_skip {L : List Ld} {C Wk : List Int} {tries d : Int} {k : Nat} (h : PkTr L C Wk tries d k) (hk : k < Wk.length) (hi : idxOf (lwIs (Wk.getD k 0)) L = -1) : PkTr L C Wk tries d (k + 1) := by
  unfold PkTr at *
  rw [h]
  by_cases h1 : d ≤ tries
  · rw [if_pos h1, if_pos h1, along_drop hk, if_pos (by omega)]
  · rw [if_neg h1, if_neg h1]
theorem PkTr_hit {L : List Ld} {C Wk : List Int} {tries d : Int} {k i : Nat} (h : PkTr L C Wk tries d k) (hk : k < Wk.length) (hi : idxOf (lwIs (Wk.getD k 0)) L = i) (hd : d + 1 ≤ tries) (hr : pkRoom L C i = true) : alongF L C Wk tries = i := by
  unfold PkTr at h
  rw [h, if_pos (by omega), along_drop hk, hi, if_neg (by omega), if_neg (by omega)]
  simp [hr]
theorem PkTr_miss {L : List Ld} {C Wk : List Int} {tries d : Int} {k i : Nat} (h : PkTr L C Wk tries d k) (hk : k < Wk.length) (hi : idxOf (lwIs (Wk.getD k 0)) L = i) (hr : d + 1 ≤ tries → pkRoom L C i = false) : PkTr L C Wk tries (d + 1) (k + 1) := by
  unfold PkTr at *
  rw [h]
  by_cases h1 : d + 1 ≤ tries
  · rw [if_pos (by omega), if_pos h1, along_drop hk, hi, if_neg (by omega), if_neg (by omega)]
    have e : tries - (d + 1) = tries - d - 1 := by omega
    simp [hr h1, e]
  · rw [if_neg h1]
    by_cases h2 : d ≤ tries
    · have e : tries - d = 0 := by omega
      rw [if_pos h2, along_drop hk, hi, if_neg (by omega), if_pos e]
    · rw [if_neg h2]
theorem PkTr_end {L : List Ld} {C Wk : List Int} {tries d : Int} {k : Nat} (h : PkTr L C Wk tries d k) (hk : Wk.length = k) : alongF L C Wk tries = -1 := by
  unfold PkTr at h
  rw [h, List.drop_eq_nil_of_le (by omega)]
  split <;> rfl

set_option maxHeartbeats 8000000 in
set_option maxRecDepth 100000 in
theorem ref_Pick (wv v : Value) (Wk : List Int) (L : List Ld) (num den flows tries b code : Int) (w : World) (hw : RowAt w 1 wv (icells Wk)) (hv : RowAt w 3 v (L.map Ld.cells)) (h : PkAns Wk L num den flows tries b code) :
    Calls Try.prog 25 #[wv, v, .int .i64 num, .int .i64 den, .int .i64 flows, .int .i64 tries] w fun e w' => e = .returned (.tuple #[.int .i64 b, .int .i64 code]) ∧ Below w.heap.size w w' := by
  have RV := Lib.hid hv
  have RW := Lib.hid hw
  obtain ⟨a, c, rfl, _, _, _, p⟩ := RowAt_fn Ld.zero hv
  obtain ⟨a2, c2, rfl, p2⟩ := icell hw
  have P := Lib.hid p
  have PW := Lib.hid p2
  clear hv hw p p2
  rcases h with ⟨Y, h, h0, rfl⟩ | ⟨hm, hf, h3, rfl, rfl⟩ | h
  · have HA := Lib.hid h
    have hc : code = 6 ∨ code = 2 := by rcases h with ⟨_, _, h⟩ | ⟨_, _, _, h⟩ | ⟨_, _, _, h⟩ <;> omega
    clear h h0
    rcases hc with rfl | rfl
    all_goals
      go_enter Try.func25, Try.ntmps25
      go_wp2_with fail
      refine (rc_any _ L num den flows _ _ _ RV.out HA.out).mono ?_; rintro e w1 ⟨v1, rfl, R1, hb1⟩; obtain ⟨a1, c1, rfl, _⟩ := RowAt_shape (f := fun x => [Value.int .i64 x]) R1.1; have R1' := Lib.hid R1.1; have B1 := Lib.hid hb1; clear R1 hb1
      have B1' := B1.out
      go_wp2
    · (refine bodyPost_ret (v := .tuple #[.int .i64 0, .int .i64 6]) ?_ rfl ?_; (focus (first | (simp [results, Try.results25, go_sem]; done) | (simp [results, Try.results25, go_sem, *]; done))); exact ⟨rfl, (by repeat (first | (with_reducible exact Below.refl _ _) | (with_reducible assumption) | (with_reducible refine Below.drew ?_) | (with_reducible refine Below_drewN ?_) | (with_reducible refine Below.alloc ?_ (by first | omega | (simp; done) | (simp; omega)) _) | (with_reducible refine Below.setCell ?_ (by first | omega | (simp; done) | (simp; omega)) _) | (with_reducible refine Below.trans ?_ (Below.mono (by assumption) (by first | omega | (simp; done) | (simp; omega))))))⟩)
    · (refine bodyPost_ret (v := .tuple #[.int .i64 0, .int .i64 2]) ?_ rfl ?_; (focus (first | (simp [results, Try.results25, go_sem]; done) | (simp [results, Try.results25, go_sem, *]; done))); exact ⟨rfl, (by repeat (first | (with_reducible exact Below.refl _ _) | (with_reducible assumption) | (with_reducible refine Below.drew ?_) | (with_reducible refine Below_drewN ?_) | (with_reducible refine Below.alloc ?_ (by first | omega | (simp; done) | (simp; omega)) _) | (with_reducible refine Below.setCell ?_ (by first | omega | (simp; done) | (simp; omega)) _) | (with_reducible refine Below.trans ?_ (Below.mono (by assumption) (by first | omega | (simp; done) | (simp; omega))))))⟩)
  · have HA : Hid (CapsAns L num den flows (capsL L num den flows) 0) := Or.inr (Or.inr ⟨hm, hf, rfl, rfl⟩)
    clear hm hf
    rcases h3 with t0 | ⟨t0, t1⟩ | ⟨t0, t1, t2⟩
    all_goals
      (try have t2' : (12 : Int) < (Wk.length : Int) := by omega)
      go_enter Try.func25, Try.ntmps25
      go_wp2_with fail
      refine (rc_any _ L num den flows _ _ _ RV.out HA.out).mono ?_; rintro e w1 ⟨v1, rfl, R1, hb1⟩; obtain ⟨a1, c1, rfl, _⟩ := RowAt_shape (f := fun x => [Value.int .i64 x]) R1.1; have R1' := Lib.hid R1.1; have B1 := Lib.hid hb1; clear R1 hb1
      have B1' := B1.out
      go_wp2_with (go_at_call 31; first | (refine (In_yes _ _ _ _ (by omega) (by omega)).mono ?_; rintro e w' ⟨rfl, rfl⟩) | (refine (In_no _ _ _ _ (by omega)).mono ?_; rintro e w' ⟨rfl, rfl⟩))
      (refine bodyPost_ret (v := .tuple #[.int .i64 0, .int .i64 2]) ?_ rfl ?_; (focus (first | (simp [results, Try.results25, go_sem]; done) | (simp [results, Try.results25, go_sem, *]; done))); exact ⟨rfl, (by repeat (first | (with_reducible exact Below.refl _ _) | (with_reducible assumption) | (with_reducible refine Below.drew ?_) | (with_reducible refine Below_drewN ?_) | (with_reducible refine Below.alloc ?_ (by first | omega | (simp; done) | (simp; omega)) _) | (with_reducible refine Below.setCell ?_ (by first | omega | (simp; done) | (simp; omega)) _) | (with_reducible refine Below.trans ?_ (Below.mono (by assumption) (by first | omega | (simp; done) | (simp; omega))))))⟩)
  have hcom : LdsMay L ∧ FacMay num den flows ∧ 0 ≤ tries ∧ tries ≤ 12 ∧ Wk.length ≤ 12 := by
    rcases h with ⟨h1, h2, h3, h4, h5, _⟩ | ⟨h1, h2, h3, h4, h5, _⟩ <;> exact ⟨h1, h2, h3, h4, h5⟩
  obtain ⟨hm, hf, t0, t1, hk⟩ := hcom
  have HH := Lib.hid h
  have HA : Hid (CapsAns L num den flows (capsL L num den flows) 0) := Or.inr (Or.inr ⟨hm, hf, rfl, rfl⟩)
  have HM := Lib.hid hm
  have h12 := hm.1
  have hk' : (Wk.length : Int) ≤ 12 := by omega
  clear h hm hf
  go_enter Try.func25, Try.ntmps25
  go_wp2_with fail
  refine (rc_any _ L num den flows _ _ _ RV.out HA.out).mono ?_; rintro e w1 ⟨v1, rfl, R1, hb1⟩; obtain ⟨a1, c1, rfl, _⟩ := RowAt_shape (f := fun x => [Value.int .i64 x]) R1.1; have R1' := Lib.hid R1.1; have B1 := Lib.hid hb1; clear R1 hb1
  obtain ⟨C, hC⟩ : ∃ C, C = capsL L num den flows := ⟨_, rfl⟩
  rw [← hC] at R1' HH ⊢
  have hl : C.length = L.length := by rw [hC]; exact caps_len L num den flows
  have HLen := Lib.hid hl
  clear HA hC hl
  go_wp2_with (go_at_call 31; first | (refine (In_yes _ _ _ _ (by omega) (by omega)).mono ?_; rintro e w' ⟨rfl, rfl⟩) | (refine (In_no _ _ _ _ (by omega)).mono ?_; rintro e w' ⟨rfl, rfl⟩))
  go_loop [16, 17] (fun s i => ∃ k : Nat, k ≤ L.length ∧ i = .int .i64 k ∧ s = .bool (anyW L k)) (fun _ i => L.length - (intOf i).toNat)
  case atStart => exact ⟨0, Nat.zero_le _, rfl, rfl⟩
  case round =>
    obtain ⟨k, hk2, rfl, rfl⟩ := hrel
    rcases (show k < L.length ∨ L.length = k by omega) with hlt | heq
    · have hlt' : (k : Int) < (L.length : Int) := by omega
      have p0 : (0 : Int) ≤ (k : Int) := by omega
      obtain ⟨b0, o0, rfl, hb0, q⟩ := P.out (by intro h; rw [h] at hlt; simp at hlt)
      obtain ⟨s, hs⟩ : ∃ s, s = L.getD k Ld.zero := ⟨_, rfl⟩
      have HS := Lib.hid (anyW_snoc hlt hs)
      have a1 : w1.cell? ⟨b0, o0 + k * 3 + 1, none⟩ = some (.int .i64 s.weight) := by
        rw [B1.out.cell (p := ⟨b0, o0 + k * 3 + 1, none⟩) hb0, q k 1 hlt (by omega), hs]; rfl
      obtain ⟨bk, wt, fl⟩ := s
      simp only at a1
      clear hs q
      obtain ⟨t, ht⟩ : ∃ t, t = anyW L k := ⟨_, rfl⟩
      rw [← ht] at HS ⊢
      clear ht
      cases t with
      | true =>
        have HV : Hid (true = anyW L (k + 1)) := by show _ = _; rw [HS.out]; rfl
        go_wp2
        go_round
        case rel => exact ⟨k + 1, by omega, by go_num, congrArg Value.bool HV.out⟩
        case measure => simp [intOf]; omega
      | false =>
        have HV : Hid (decide (0 < wt) = anyW L (k + 1)) := by show _ = _; rw [HS.out]; rfl
        go_wp2
        go_round
        case rel => exact ⟨k + 1, by omega, by go_num, congrArg Value.bool HV.out⟩
        case measure => simp [intOf]; omega
    · have hge : ¬ (k : Int) < (L.length : Int) := by omega
      have HAl : Hid (anyW L k = L.any pw) := by show _ = _; rw [← heq]; exact anyW_all L
      obtain ⟨t, ht⟩ : ∃ t, t = anyW L k := ⟨_, rfl⟩
      have HT : Hid (t = L.any pw) := ht.trans HAl.out
      rw [← ht]
      clear ht HAl heq
      cases t with
      | false =>
        have hbc : b = 0 ∧ code = 11 := by
          rcases HH.out with ⟨_, _, _, _, _, _, h⟩ | ⟨_, _, _, _, _, h, _⟩
          · exact h
          · have := HT.out; rw [pw_any h] at this; cases this
        obtain ⟨rfl, rfl⟩ := hbc
        have B1' := B1.out
        go_wp2
        (refine bodyPost_ret (v := .tuple #[.int .i64 0, .int .i64 11]) ?_ rfl ?_; (focus (first | (simp [results, Try.results25, go_sem]; done) | (simp [results, Try.results25, go_sem, *]; done))); exact ⟨rfl, (by repeat (first | (with_reducible exact Below.refl _ _) | (with_reducible assumption) | (with_reducible refine Below.drew ?_) | (with_reducible refine Below_drewN ?_) | (with_reducible refine Below.alloc ?_ (by first | omega | (simp; done) | (simp; omega)) _) | (with_reducible refine Below.setCell ?_ (by first | omega | (simp; done) | (simp; omega)) _) | (with_reducible refine Below.trans ?_ (Below.mono (by assumption) (by first | omega | (simp; done) | (simp; omega))))))⟩)
      | true =>
        have hD : (∃ m : Nat, m < L.length ∧ alongF L C Wk tries = m ∧ b = (L.getD m Ld.zero).backend ∧ code = 0) ∨ (alongF L C Wk tries = -1 ∧ ∃ m : Nat, m < L.length ∧ BestIs L C 0 L.length m ∧ b = (L.getD m Ld.zero).backend ∧ code = 0) ∨ (alongF L C Wk tries = -1 ∧ BestIs L C 0 L.length (-1) ∧ b = 0 ∧ code = 9) := by
          rcases HH.out with ⟨_, _, _, _, _, h, _⟩ | ⟨_, _, _, _, _, _, h⟩
          · have := HT.out; rw [pw_none (fun x hx hw => by have := h x hx; omega)] at this; cases this
          · exact h
        have HD := Lib.hid hD
        clear HH hD HT
        go_wp2_with fail
        go_loopw [18, 19] (fun t i wr => ∃ (k : Nat) (d : Int), k ≤ Wk.length ∧ i = .int .i64 k ∧ t = .int .i64 d ∧ 0 ≤ d ∧ d ≤ k ∧ PkTr L C Wk tries d k ∧ Below w1.heap.size w1 wr) (fun _ i _ => Wk.length - (intOf i).toNat)
        case atStart => exact ⟨0, 0, Nat.zero_le _, rfl, rfl, by omega, by omega, by unfold PkTr; rw [if_pos t0]; simp, Below.refl _ _⟩
        case round =>
          obtain ⟨k, d, hk3, rfl, rfl, d0, d1, htr, hb⟩ := hrel
          have HTr := Lib.hid htr
          have HB := Lib.hid hb
          clear htr
          rcases (show k < Wk.length ∨ Wk.length = k by omega) with hlt | heq
          · have hlt' : (k : Int) < (Wk.length : Int) := by omega
            have p0 : (0 : Int) ≤ (k : Int) := by omega
            obtain ⟨b2, o2, rfl, hb2, q2⟩ := PW.out (by intro h; rw [h] at hlt; simp at hlt)
            obtain ⟨y, hy⟩ : ∃ y, y = Wk.getD k 0 := ⟨_, rfl⟩
            have HBw := Lib.hid (B1.out.trans (hb.mono B1.out.size))
            have a0 : wr.cell? ⟨b2, o2 + k, none⟩ = some (.int .i64 y) := by rw [HBw.out.cell (p := ⟨b2, o2 + k, none⟩) hb2, hy]; exact q2 k hlt
            have HY := Lib.hid hy
            have RV2 := Lib.hid (RowAt_below RV.out HBw.out)
            have RC2 := Lib.hid (RowAt_below R1'.out hb)
            clear hy q2 hb
            rcases idxOf_cases (lwIs y) L Ld.zero with ⟨hi, _⟩ | ⟨i, hi, he, _⟩
            · have HI := Lib.hid hi
              have HN : Hid (PkTr L C Wk tries d (k + 1)) := PkTr_skip HTr.out hlt (by rw [← HY.out]; exact HI.out)
              clear hi
              go_wp2_with fail
              refine (ref_loadOf _ L y _ RV2.out h12).mono ?_
              rintro e w2 ⟨rfl, hb2⟩
              rw [HI.out]
              have HB2 := Lib.hid (HB.out.trans (hb2.mono HB.out.size))
              clear hb2
              go_wp2
              go_roundw
              case rel => exact ⟨k + 1, d, by omega, by go_num, rfl, d0, by omega, HN.out, HB2.out⟩
              case measure => simp [intOf]; omega
            · have HI := Lib.hid he
              have hiY : idxOf (lwIs (Wk.getD k 0)) L = i := by rw [← HY.out]; exact he
              have HIY := Lib.hid hiY
              have hi' : (i : Int) < (L.length : Int) := by omega
              have hi2 : (i : Int) < (C.length : Int) := by rw [HLen.out]; omega
              have pi0 : (0 : Int) ≤ (i : Int) := by omega
              obtain ⟨b0, o0, rfl, hb0, q⟩ := P.out (by intro h; rw [h] at hi; simp at hi)
              obtain ⟨x1, y1, hx1, pc⟩ := icell RC2.out
              obtain ⟨b3, o3, rfl, hb3, q3⟩ := pc (by intro h; have := HLen.out; rw [h] at this; simp at this; omega)
              simp only [Value.slice.injEq] at hx1
              obtain ⟨rfl, _, rfl⟩ := hx1
              obtain ⟨s, hs⟩ : ∃ s, s = L.getD i Ld.zero := ⟨_, rfl⟩
              obtain ⟨cc, hcc⟩ : ∃ cc, cc = C.getD i 0 := ⟨_, rfl⟩
              have e0 : wr.cell? ⟨b0, o0 + i * 3, none⟩ = some (.int .i64 s.backend) := by
                have := q i 0 hi (by omega)
                rw [Nat.add_zero] at this
                rw [HBw.out.cell (p := ⟨b0, o0 + i * 3, none⟩) hb0, this, hs]; rfl
              have e2 : wr.cell? ⟨b0, o0 + i * 3 + 2, none⟩ = some (.int .i64 s.flows) := by
                rw [HBw.out.cell (p := ⟨b0, o0 + i * 3 + 2, none⟩) hb0, q i 2 hi (by omega), hs]; rfl
              have e3 : wr.cell? ⟨b3, o3 + i, none⟩ = some (.int .i64 cc) := by rw [hcc]; exact q3 i (by rw [HLen.out]; exact hi)
              have HRm : Hid (pkRoom L C i = decide (s.flows < cc)) := by rw [hs, hcc]; rfl
              have HS := Lib.hid hs
              clear hs hcc q q3 pc he hiY
              obtain ⟨bk, wt, fl⟩ := s
              simp only at e0 e2 HRm
              have hw1 : IntKind.i64.wrap (d + 1) = d + 1 := IntWalk.i64_in _ (by omega)
              rcases (show tries < d + 1 ∨ d + 1 ≤ tries by omega) with hdt | hdt
              · have hdd : decide (d + 1 ≤ tries) = false := by simp; omega
                have HN : Hid (PkTr L C Wk tries (d + 1) (k + 1)) := PkTr_miss HTr.out hlt HIY.out (fun h => by omega)
                go_wp2_with fail
                refine (ref_loadOf _ L y _ RV2.out h12).mono ?_
                rintro e w2 ⟨rfl, hb2⟩
                rw [HI.out]
                have HB2 := Lib.hid (HB.out.trans (hb2.mono HB.out.size))
                clear hb2
                go_wp2_with fail
                go_quiet (fail)
                go_wp2
                go_roundw
                case rel => exact ⟨k + 1, d + 1, by omega, by go_num, by go_num, by omega, by omega, HN.out, Below_drewN HB2.out⟩
                case measure => simp [intOf]; omega
              · have hdd : decide (d + 1 ≤ tries) = true := by simp; omega
                by_cases hr : fl < cc
                · have HAl : Hid (alongF L C Wk tries = i) := PkTr_hit HTr.out hlt HIY.out hdt (by rw [HRm.out]; simpa using hr)
                  have hbc : b = bk ∧ code = 0 := by
                    rcases HD.out with ⟨m, _, h1, h2, h3⟩ | ⟨h1, _⟩ | ⟨h1, _⟩
                    · have hmi : m = i := by have := HAl.out; omega
                      subst hmi
                      exact ⟨by rw [h2, ← HS.out], h3⟩
                    · have := HAl.out; omega
                    · have := HAl.out; omega
                  obtain ⟨rfl, rfl⟩ := hbc
                  go_wp2_with fail
                  refine (ref_loadOf _ L y _ RV2.out h12).mono ?_
                  rintro e w2 ⟨rfl, hb2⟩
                  rw [HI.out]
                  have HB2 := Lib.hid (HBw.out.trans (hb2.mono HBw.out.size))
                  have f0 := cell_below' hb2 e0
                  have f2 := cell_below' hb2 e2
                  have f3 := cell_below' hb2 e3
                  clear hb2
                  go_wp2_with fail
                  go_quiet (fail)
                  have HB2' := HB2.out
                  go_wp2
                  (refine bodyPost_ret (v := .tuple #[.int .i64 b, .int .i64 0]) ?_ rfl ?_; (focus (first | (simp [results, Try.results25, go_sem]; done) | (simp [results, Try.results25, go_sem, *]; done))); exact ⟨rfl, (by repeat (first | (with_reducible exact Below.refl _ _) | (with_reducible assumption) | (with_reducible refine Below.drew ?_) | (with_reducible refine Below_drewN ?_) | (with_reducible refine Below.alloc ?_ (by first | omega | (simp; done) | (simp; omega)) _) | (with_reducible refine Below.setCell ?_ (by first | omega | (simp; done) | (simp; omega)) _) | (with_reducible refine Below.trans ?_ (Below.mono (by assumption) (by first | omega | (simp; done) | (simp; omega))))))⟩)
                · have hrd : decide (fl < cc) = false := by simpa using hr
                  have HN : Hid (PkTr L C Wk tries (d + 1) (k + 1)) := PkTr_miss HTr.out hlt HIY.out (fun _ => by rw [HRm.out]; exact hrd)
                  clear hr
                  go_wp2_with fail
                  refine (ref_loadOf _ L y _ RV2.out h12).mono ?_
                  rintro e w2 ⟨rfl, hb2⟩
                  rw [HI.out]
                  have HB2 := Lib.hid (HB.out.trans (hb2.mono HB.out.size))
                  have f0 := cell_below' hb2 e0
                  have f2 := cell_below' hb2 e2
                  have f3 := cell_below' hb2 e3
                  clear hb2
                  go_wp2_with fail
                  go_quiet (fail)
                  go_wp2
                  go_roundw
                  case rel => exact ⟨k + 1, d + 1, by omega, by go_num, by go_num, by omega, by omega, HN.out, Below_drewN HB2.out⟩
                  case measure => simp [intOf]; omega
          · have hge2 : ¬ (k : Int) < (Wk.length : Int) := by omega
            have hal := PkTr_end HTr.out heq
            have hE : (∃ m : Nat, m < L.length ∧ BestIs L C 0 L.length m ∧ b = (L.getD m Ld.zero).backend ∧ code = 0) ∨ (BestIs L C 0 L.length (-1) ∧ b = 0 ∧ code = 9) := by
              rcases HD.out with ⟨m, _, h1, _⟩ | ⟨_, h⟩ | ⟨_, h⟩
              · omega
              · exact Or.inl h
              · exact Or.inr h
            have HE := Lib.hid hE
            have hsub : IntKind.i64.wrap ((L.length : Int) - 1) = (L.length : Int) - 1 := IntWalk.i64_in _ (by omega)
            clear hal hE HD hb heq HTr
            go_wp2_with fail
            go_loopw [21, 22] (fun t i wr => ∃ (j : Nat) (bv : Int), j ≤ L.length ∧ i = .int .i64 ((j : Int) - 1) ∧ t = .int .i64 bv ∧ BestIs L C j L.length bv ∧ Below w1.heap.size w1 wr) (fun _ i _ => (intOf i + 1).toNat)
            case atStart => exact ⟨L.length, -1, Nat.le_refl _, rfl, rfl, best_start _, HB.out⟩
            case round =>
              obtain ⟨j, bv, hj, rfl, rfl, hbst, hb⟩ := hrel
              have HS := Lib.hid hbst
              have HB2 := Lib.hid hb
              cases j with
              | zero =>
                have hge3 : ¬ (0 : Int) ≤ ((0 : Nat) : Int) - 1 := by omega
                have HBw := B1.out.trans (hb.mono B1.out.size)
                rcases HE.out with ⟨m, hmL, h1, h2, h3⟩ | ⟨h1, h2, h3⟩
                · have hbm : bv = m := best_one HS.out h1
                  subst hbm
                  have hm' : (m : Int) < (L.length : Int) := by omega
                  have pm : (0 : Int) ≤ (m : Int) := by omega
                  obtain ⟨b0, o0, rfl, hb0, q⟩ := P.out (by intro h; rw [h] at hmL; simp at hmL)
                  have x0 : wr.cell? ⟨b0, o0 + m * 3, none⟩ = some (.int .i64 b) := by
                    have := q m 0 hmL (by omega)
                    rw [Nat.add_zero] at this
                    rw [HBw.cell (p := ⟨b0, o0 + m * 3, none⟩) hb0, this, h2]; rfl
                  subst h3
                  clear hbst hb q h1 h2
                  go_wp2
                  (refine bodyPost_ret (v := .tuple #[.int .i64 b, .int .i64 0]) ?_ rfl ?_; (focus (first | (simp [results, Try.results25, go_sem]; done) | (simp [results, Try.results25, go_sem, *]; done))); exact ⟨rfl, (by repeat (first | (with_reducible exact Below.refl _ _) | (with_reducible assumption) | (with_reducible refine Below.drew ?_) | (with_reducible refine Below_drewN ?_) | (with_reducible refine Below.alloc ?_ (by first | omega | (simp; done) | (simp; omega)) _) | (with_reducible refine Below.setCell ?_ (by first | omega | (simp; done) | (simp; omega)) _) | (with_reducible refine Below.trans ?_ (Below.mono (by assumption) (by first | omega | (simp; done) | (simp; omega))))))⟩)
                · have hbm : bv = -1 := best_one HS.out h1
                  subst hbm h2 h3
                  clear hbst hb h1
                  go_wp2
                  (refine bodyPost_ret (v := .tuple #[.int .i64 0, .int .i64 9]) ?_ rfl ?_; (focus (first | (simp [results, Try.results25, go_sem]; done) | (simp [results, Try.results25, go_sem, *]; done))); exact ⟨rfl, (by repeat (first | (with_reducible exact Below.refl _ _) | (with_reducible assumption) | (with_reducible refine Below.drew ?_) | (with_reducible refine Below_drewN ?_) | (with_reducible refine Below.alloc ?_ (by first | omega | (simp; done) | (simp; omega)) _) | (with_reducible refine Below.setCell ?_ (by first | omega | (simp; done) | (simp; omega)) _) | (with_reducible refine Below.trans ?_ (Below.mono (by assumption) (by first | omega | (simp; done) | (simp; omega))))))⟩)
              | succ j =>
                have ej : (((j + 1 : Nat) : Int) - 1) = (j : Int) := by omega
                rw [ej]
                have hjL : j < L.length := by omega
                have hj' : (j : Int) < (L.length : Int) := by omega
                have hj2 : (j : Int) < (C.length : Int) := by rw [HLen.out]; omega
                have pj : (0 : Int) ≤ (j : Int) := by omega
                have HBw := Lib.hid (B1.out.trans (hb.mono B1.out.size))
                obtain ⟨b0, o0, rfl, hb0, q⟩ := P.out (by intro h; rw [h] at hjL; simp at hjL)
                obtain ⟨x1, y1, hx1, pc⟩ := icell (RowAt_below R1'.out hb)
                obtain ⟨b3, o3, rfl, hb3, q3⟩ := pc (by intro h; have := HLen.out; rw [h] at this; simp at this; omega)
                simp only [Value.slice.injEq] at hx1
                obtain ⟨rfl, _, rfl⟩ := hx1
                obtain ⟨s, hs⟩ : ∃ s, s = L.getD j Ld.zero := ⟨_, rfl⟩
                obtain ⟨cc, hcc⟩ : ∃ cc, cc = C.getD j 0 := ⟨_, rfl⟩
                have a1 : wr.cell? ⟨b0, o0 + j * 3 + 1, none⟩ = some (.int .i64 s.weight) := by
                  rw [HBw.out.cell (p := ⟨b0, o0 + j * 3 + 1, none⟩) hb0, q j 1 hjL (by omega), hs]; rfl
                have a2 : wr.cell? ⟨b0, o0 + j * 3 + 2, none⟩ = some (.int .i64 s.flows) := by
                  rw [HBw.out.cell (p := ⟨b0, o0 + j * 3 + 2, none⟩) hb0, q j 2 hjL (by omega), hs]; rfl
                have a3 : wr.cell? ⟨b3, o3 + j, none⟩ = some (.int .i64 cc) := by rw [hcc]; exact q3 j (by rw [HLen.out]; exact hjL)
                have HRm : Hid (pkRoom L C j = decide (s.flows < cc)) := by rw [hs, hcc]; rfl
                have hW : Hid (pkW L j = s.weight) := by show _ = _; unfold pkW; rw [← hs]
                have hF : Hid (pkF L j = s.flows) := by show _ = _; unfold pkF; rw [← hs]
                have bd := ld_may HM.out hjL
                rw [← hs] at bd
                obtain ⟨bd0, bd1, bd2, bd3⟩ := bd
                have HQ := Lib.hid q
                have lt := best_ltd hbst
                have hsub2 : IntKind.i64.wrap ((j : Int) - 1) = (j : Int) - 1 := IntWalk.i64_in _ (by omega)
                clear hs hcc q q3 pc hbst hb
                obtain ⟨bk, wt, fl⟩ := s
                simp only at a1 a2 HRm hW hF bd0 bd1 bd2 bd3
                rcases (show wt = 0 ∨ 0 < wt by omega) with rfl | hwt
                · have HN : Hid (BestIs L C j L.length bv) := best_dn_no HS.out (fun h => by have h1 := h.1; have h2 := hW.out; unfold pkW at h2; omega)
                  go_wp2_with fail
                  go_quiet (fail)
                  go_wp2
                  go_roundw
                  case rel => exact ⟨j, bv, by omega, rfl, rfl, HN.out, Below_drewN HB2.out⟩
                  case measure => simp [intOf]
                · have hwz : (wt == 0) = false := by simp; omega
                  by_cases hr : fl < cc
                  rotate_left
                  · have hrd : decide (cc ≤ fl) = true := by simp; omega
                    have HN : Hid (BestIs L C j L.length bv) := best_dn_no HS.out (fun h => by have h2 := h.2; rw [HRm.out] at h2; simp at h2; omega)
                    go_wp2_with fail
                    go_quiet (fail)
                    go_wp2
                    go_roundw
                    case rel => exact ⟨j, bv, by omega, rfl, rfl, HN.out, Below_drewN HB2.out⟩
                    case measure => simp [intOf]
                  · have hrd : decide (cc ≤ fl) = false := by simp; omega
                    have HOk : Hid (pkOk L C j) := ⟨by have h2 := hW.out; unfold pkW at h2; omega, by rw [HRm.out]; simpa using hr⟩
                    clear hr
                    rcases lt with rfl | ⟨m, rfl, hmL⟩
                    · have HN : Hid (BestIs L C j L.length j) := best_dn_new HS.out hjL HOk.out (Or.inl (by omega))
                      go_wp2_with fail
                      go_quiet (fail)
                      go_wp2_with fail
                      go_quiet (fail)
                      go_wp2
                      go_roundw
                      case rel => exact ⟨j, j, by omega, rfl, rfl, HN.out, Below_drewN HB2.out⟩
                      case measure => simp [intOf]
                    · have hm' : (m : Int) < (L.length : Int) := by omega
                      have pm : (0 : Int) ≤ (m : Int) := by omega
                      obtain ⟨s, hs⟩ : ∃ s, s = L.getD m Ld.zero := ⟨_, rfl⟩
                      have d1 : wr.cell? ⟨b0, o0 + m * 3 + 1, none⟩ = some (.int .i64 s.weight) := by
                        rw [HBw.out.cell (p := ⟨b0, o0 + m * 3 + 1, none⟩) hb0, HQ.out m 1 hmL (by omega), hs]; rfl
                      have d2 : wr.cell? ⟨b0, o0 + m * 3 + 2, none⟩ = some (.int .i64 s.flows) := by
                        rw [HBw.out.cell (p := ⟨b0, o0 + m * 3 + 2, none⟩) hb0, HQ.out m 2 hmL (by omega), hs]; rfl
                      have be := ld_may HM.out hmL
                      rw [← hs] at be
                      have hWm : Hid (pkW L m = s.weight) := by show _ = _; unfold pkW; rw [← hs]
                      have hFm : Hid (pkF L m = s.flows) := by show _ = _; unfold pkF; rw [← hs]
                      clear hs
                      obtain ⟨bm, wm, fm⟩ := s
                      simp only at d1 d2 be hWm hFm
                      obtain ⟨be0, be1, be2, be3⟩ := be
                      have z1 := mul_wrap bd2 bd3 be0 be1
                      have z2 := mul_wrap be2 be3 bd0 bd1
                      have HP : Hid (pkF L j * pkW L m = fl * wm ∧ pkF L m * pkW L j = fm * wt) := by
                        rw [Hid, hF.out, hW.out, hFm.out, hWm.out]; exact ⟨rfl, rfl⟩
                      have hd0 : decide ((m : Int) < 0) = false := by simp
                      by_cases hc : fl * wm ≤ fm * wt
                      · have hcd : decide (fl * wm ≤ fm * wt) = true := by simpa using hc
                        have HN : Hid (BestIs L C j L.length j) := best_dn_new HS.out hjL HOk.out (Or.inr (by have h := HP.out; simp only [Int.toNat_natCast]; rw [h.1, h.2]; exact hc))
                        clear hc
                        go_wp2_with fail
                        go_quiet (fail)
                        go_wp2_with fail
                        go_quiet (fail)
                        go_wp2
                        go_roundw
                        case rel => exact ⟨j, j, by omega, rfl, rfl, HN.out, Below_drewN HB2.out⟩
                        case measure => simp [intOf]
                      · have hcd : decide (fl * wm ≤ fm * wt) = false := by simpa using hc
                        have HN : Hid (BestIs L C j L.length m) := best_dn_keep HS.out (by omega) (by have h := HP.out; simp only [Int.toNat_natCast]; rw [h.1, h.2]; exact hc)
                        clear hc
                        go_wp2_with fail
                        go_quiet (fail)
                        go_wp2_with fail
                        go_quiet (fail)
                        go_wp2
                        go_roundw
                        case rel => exact ⟨j, m, by omega, rfl, rfl, HN.out, Below_drewN HB2.out⟩
                        case measure => simp [intOf]
end Go.Proofs.Ytjfnnbbnkcdbcaa
