/- life.Check: its contract. -/
import Derived.Test.YthngedmmeiiklaaLifeOne
import Derived.Test.YthngedmmeiiklaaSeen
namespace Go.Proofs.Ythngedmmeiiklaa
open Go.RowKit

/-- The backend ahead of a place; -1: there is none. -/
def lastL (L : List Lf) (i : Nat) : Int := if i = 0 then -1 else (L.getD (i - 1) Lf.zero).backend
/-- P11.3 at a place. -/
def LfAt (L : List Lf) (i : Nat) : Prop := LfMay (L.getD i Lf.zero) ∧ lastL L i < (L.getD i Lf.zero).backend
def ids (R : List Rq) : List Int := R.map Rq.id
/-- P11.3: may a book be? -/
def BkMay (L : List Lf) (R : List Rq) : Prop := L.length ≤ 12 ∧ R.length ≤ 100 ∧ (∀ i, i < L.length → LfAt L i) ∧ (∀ x ∈ R, RqMay x) ∧ (ids R).Nodup
/-- What Check answers. -/
def BkCode (L : List Lf) (R : List Rq) (r : Int) : Prop := (BkMay L R ∧ r = 0) ∨ (¬ BkMay L R ∧ r = 6)
theorem BkCode_total (L : List Lf) (R : List Rq) : ∃ r, BkCode L R r := by
  by_cases h : BkMay L R
  · exact ⟨_, Or.inl ⟨h, rfl⟩⟩
  · exact ⟨_, Or.inr ⟨h, rfl⟩⟩
def LfIs (x : Lf) (r : Bool) : Prop := (LfMay x ∧ r = true) ∨ (¬ LfMay x ∧ r = false)
def RqIs (x : Rq) (r : Bool) : Prop := (RqMay x ∧ r = true) ∨ (¬ RqMay x ∧ r = false)
theorem LfMay_dec (x : Lf) : ∃ r, LfIs x r := by
  by_cases h : LfMay x
  · exact ⟨_, Or.inl ⟨h, rfl⟩⟩
  · exact ⟨_, Or.inr ⟨h, rfl⟩⟩
theorem RqMay_dec (x : Rq) : ∃ r, RqIs x r := by
  by_cases h : RqMay x
  · exact ⟨_, Or.inl ⟨h, rfl⟩⟩
  · exact ⟨_, Or.inr ⟨h, rfl⟩⟩
theorem ids_snoc {R : List Rq} {k : Nat} {o : Rq} (hk : k < R.length) (ho : o = R.getD k Rq.zero) : ids (R.take (k + 1)) = ids (R.take k) ++ [o.id] := by
  have e : R.take (k + 1) = R.take k ++ [o] := by rw [List.take_succ_eq_append_getElem hk, ho]; simp [List.getD, hk]
  rw [ids, ids, e, List.map_append]; rfl
theorem rq_snoc {R : List Rq} {k : Nat} {o : Rq} (hk : k < R.length) (ho : o = R.getD k Rq.zero) (hall : ∀ x ∈ R.take k, RqMay x) (hm : RqMay o) : ∀ x ∈ R.take (k + 1), RqMay x := by
  rw [List.take_succ_eq_append_getElem hk]
  intro x hx
  rcases List.mem_append.1 hx with h | h
  · exact hall x h
  · simp at h; rw [h]; rw [ho] at hm; simpa [List.getD, hk] using hm
/-- What holds at the head of Check's first loop. -/
def CkRel (w wr : World) (L : List Lf) (vr : Value) (k : Nat) : Prop := k ≤ L.length ∧ Below w.heap.size w wr ∧ w.heap.size < wr.heap.size ∧ wr.cell? ⟨w.heap.size, 1, none⟩ = some vr ∧ ∀ j, j < k → LfAt L j
/-- What holds at the head of Check's second loop. -/
def CsRel (w wr : World) (R : List Rq) (vr : Value) (m k : Nat) : Prop := k ≤ R.length ∧ Below w.heap.size w wr ∧ w.heap.size < m ∧ m < wr.heap.size ∧ wr.cell? ⟨w.heap.size, 1, none⟩ = some vr ∧ Seen wr m (ids (R.take k)) ∧ ∀ x ∈ R.take k, RqMay x

set_option maxHeartbeats 4000000 in
set_option maxRecDepth 100000 in
theorem prog_LCheck (vl vr : Value) (L : List Lf) (R : List Rq) (r : Int) (w : World) (hl : RowAt w 6 vl (L.map Lf.cells)) (hr : RowAt w 5 vr (R.map Rq.cells)) (h : BkCode L R r) :
    Calls Try.prog 8 #[.agg #[vl, vr]] w fun e w' => e = .returned (.int .i64 r) ∧ Below w.heap.size w w' := by
  have HC := Lib.hid h
  have hbad : ¬ BkMay L R → r = 6 := fun hn => by rcases h with ⟨h, _⟩ | ⟨_, h⟩; exact absurd h hn; exact h
  have HBad := Lib.hid hbad
  obtain ⟨a, c, rfl, l, m, n, p⟩ := RowAt_fn Lf.zero hl
  obtain ⟨a', c', rfl, l', m', n', p'⟩ := RowAt_fn Rq.zero hr
  have P := Lib.hid p
  have P' := Lib.hid p'
  clear hl hr p p' l m n l' m' n' h hbad
  by_cases h12 : L.length ≤ 12
  rotate_left
  · have g1 : (12 : Int) < (L.length : Int) := by omega
    obtain rfl : r = 6 := HBad.out fun h => h12 h.1
    clear HBad HC h12
    go_enter Try.func8, Try.ntmps8
    go_wp2
    all_goals first | (go_ret; exact ⟨rfl, (by repeat (first | (with_reducible exact Below.refl _ _) | (with_reducible assumption) | (with_reducible refine Below.drew ?_) | (with_reducible refine Below_drewN ?_) | (with_reducible refine Below.alloc ?_ (by first | omega | (simp; done) | (simp; omega)) _) | (with_reducible refine Below.setCell ?_ (by first | omega | (simp; done) | (simp; omega)) _) | (with_reducible refine Below.trans ?_ (Below.mono (by assumption) (by first | omega | (simp; done) | (simp; omega))))))⟩) | (exfalso; first | omega | (simp at *; omega) | (simp at *; done))
  have g1 : (L.length : Int) ≤ 12 := by omega
  by_cases h100 : R.length ≤ 100
  rotate_left
  · have g2 : (100 : Int) < (R.length : Int) := by omega
    obtain rfl : r = 6 := HBad.out fun h => h100 h.2.1
    clear HBad HC h100
    go_enter Try.func8, Try.ntmps8
    go_wp2
    all_goals first | (go_ret; exact ⟨rfl, (by repeat (first | (with_reducible exact Below.refl _ _) | (with_reducible assumption) | (with_reducible refine Below.drew ?_) | (with_reducible refine Below_drewN ?_) | (with_reducible refine Below.alloc ?_ (by first | omega | (simp; done) | (simp; omega)) _) | (with_reducible refine Below.setCell ?_ (by first | omega | (simp; done) | (simp; omega)) _) | (with_reducible refine Below.trans ?_ (Below.mono (by assumption) (by first | omega | (simp; done) | (simp; omega))))))⟩) | (exfalso; first | omega | (simp at *; omega) | (simp at *; done))
  have g2 : (R.length : Int) ≤ 100 := by omega
  have hmm := @run_makeMap Try.prog
  go_enter Try.func8, Try.ntmps8
  go_wp2
  go_loopw [3, 22] (fun la i wr => ∃ k : Nat, i = .int .i64 k ∧ la = .int .i64 (lastL L k) ∧ CkRel w wr L (.slice a' R.length c') k) (fun _ i _ => L.length - (intOf i).toNat)
  case atStart => exact ⟨0, rfl, rfl, Nat.zero_le _, (Below.refl _ _).alloc (Nat.le_refl _) _, by simp, by go_simp, fun j hj => by omega⟩
  case round =>
    obtain ⟨k, rfl, rfl, hk, hb, hsz, c1, hall⟩ := hrel
    have HA := Lib.hid hall
    have HB := Lib.hid hb
    clear hall
    rcases (show k < L.length ∨ L.length = k by omega) with hlt | heq
    · have hlt' : (k : Int) < (L.length : Int) := by omega
      obtain ⟨b0, o0, rfl, hb0, q⟩ := P.out (by intro h; rw [h] at hlt; simp at hlt)
      obtain ⟨s, hs⟩ : ∃ s, s = L.getD k Lf.zero := ⟨_, rfl⟩
      have hold : ∀ j, j < 6 → wr.cell? ⟨b0, o0 + k * 6 + j, none⟩ = s.cells[j]? := fun j hj => by
        rw [hb.cell (p := ⟨b0, o0 + k * 6 + j, none⟩) hb0, hs]; exact q k j hlt hj
      have a0 := hold 0 (by omega)
      have a1 := hold 1 (by omega)
      have a2 := hold 2 (by omega)
      have a3 := hold 3 (by omega)
      have a4 := hold 4 (by omega)
      have a5 := hold 5 (by omega)
      have hat : LfAt L k ↔ (LfMay s ∧ lastL L k < s.backend) := by rw [hs]; exact Iff.rfl
      have hnx : lastL L (k + 1) = s.backend := by simp only [lastL, Nat.add_sub_cancel, if_neg (by omega : ¬ k + 1 = 0)]; rw [hs]
      obtain ⟨la, hla⟩ : ∃ la, la = lastL L k := ⟨_, rfl⟩
      rw [← hla] at hat
      have HX := Lib.hid (And.intro hat hnx)
      have HLA := Lib.hid hla
      rw [← hla]
      clear hold hs q hat hnx hla hb
      obtain ⟨t, ht⟩ := LfMay_dec s
      have HT := Lib.hid ht
      obtain ⟨bk, st, wt, si, un, rq⟩ := s
      simp only [Lf.cells, List.getElem?_cons_zero, List.getElem?_cons_succ, Nat.add_zero] at a0 a1 a2 a3 a4 a5
      have lb : b0 < wr.heap.size := cell_lt a0
      cases t with
      | false =>
        have hrf : Hid (r = 6) := HBad.out fun h => by
          rcases ht with ⟨_, h'⟩ | ⟨h', _⟩
          · cases h'
          · exact h' (HX.out.1.1 (h.2.2.1 k hlt)).1
        clear ht HBad HC
        go_wp2_with (go_at_call 21; refine (prog_one _ _ _ _ _ _ _ _ HT.out).mono ?_; rintro e w1 ⟨rfl, hb1⟩; obtain ⟨hc1, hf1⟩ := bcell hb1; have hz1 := blt hb1; have hy1 := hb1.size; (try simp at hy1))
        all_goals first | (go_ret; exact ⟨rI hrf.out.symm, (by refine Below.trans ?_ (Below.mono hb1 (by first | omega | (simp; done) | (simp; omega))); repeat (first | (with_reducible exact HB.out) | (with_reducible refine Below.drew ?_) | (with_reducible refine Below_drewN ?_) | (with_reducible refine Below.alloc ?_ (by first | omega | (simp; done) | (simp; omega)) _) | (with_reducible refine Below.setCell ?_ (by first | omega | (simp; done) | (simp; omega)) _)))⟩) | (exfalso; first | omega | (simp at *; omega) | (simp at *; done))
      | true =>
        rcases (show bk ≤ la ∨ la < bk by omega) with hle | hle
        · have hrf : Hid (r = 6) := HBad.out fun h => by
            have := (HX.out.1.1 (h.2.2.1 k hlt)).2
            simp only at this; omega
          clear ht HBad HC
          go_wp2_with (go_at_call 21; refine (prog_one _ _ _ _ _ _ _ _ HT.out).mono ?_; rintro e w1 ⟨rfl, hb1⟩; obtain ⟨hc1, hf1⟩ := bcell hb1; have hz1 := blt hb1; have hy1 := hb1.size; (try simp at hy1))
          all_goals first | (go_ret; exact ⟨rI hrf.out.symm, (by refine Below.trans ?_ (Below.mono hb1 (by first | omega | (simp; done) | (simp; omega))); repeat (first | (with_reducible exact HB.out) | (with_reducible refine Below.drew ?_) | (with_reducible refine Below_drewN ?_) | (with_reducible refine Below.alloc ?_ (by first | omega | (simp; done) | (simp; omega)) _) | (with_reducible refine Below.setCell ?_ (by first | omega | (simp; done) | (simp; omega)) _)))⟩) | (exfalso; first | omega | (simp at *; omega) | (simp at *; done))
        · have HN : Hid (∀ j, j < k + 1 → LfAt L j) := fun j hj => by
            rcases (show j < k ∨ j = k by omega) with h | rfl
            · exact HA.out j h
            · refine HX.out.1.2 ⟨?_, hle⟩
              rcases ht with ⟨h', _⟩ | ⟨_, h'⟩
              · exact h'
              · cases h'
          clear ht
          go_wp2_with (go_at_call 21; refine (prog_one _ _ _ _ _ _ _ _ HT.out).mono ?_; rintro e w1 ⟨rfl, hb1⟩; obtain ⟨hc1, hf1⟩ := bcell hb1; have hz1 := blt hb1; have hy1 := hb1.size; (try simp at hy1))
          go_roundw
          case rel => exact ⟨k + 1, by go_num, by rw [HX.out.2], by omega, (by refine Below.trans ?_ (Below.mono hb1 (by first | omega | (simp; done) | (simp; omega))); repeat (first | (with_reducible exact HB.out) | (with_reducible refine Below.drew ?_) | (with_reducible refine Below_drewN ?_) | (with_reducible refine Below.alloc ?_ (by first | omega | (simp; done) | (simp; omega)) _) | (with_reducible refine Below.setCell ?_ (by first | omega | (simp; done) | (simp; omega)) _))), by omega, (hc1 _ _ (by simp; omega)).trans (cell_alloc _ c1), HN.out⟩
          case measure => simp [intOf]; omega
    · have hge : ¬ (k : Int) < (L.length : Int) := by omega
      clear hb
      go_wp2_with fail
      obtain ⟨M, hM⟩ : ∃ M, M = wr.heap.size := ⟨_, rfl⟩
      have hM1 : w.heap.size < M := by omega
      rw [← hM]
      have HEM := Lib.hid hM
      clear hM
      go_loopw [42] (fun i wr => ∃ j : Nat, i = .int .i64 j ∧ CsRel w wr R (.slice a' R.length c') M j) (fun i _ => R.length - (intOf i).toNat)
      case atStart => exact ⟨0, rfl, Nat.zero_le _, HB.out.alloc HB.out.size _, hM1, by rw [HEM.out]; simp, cell_alloc _ c1, by rw [HEM.out]; simpa [ids] using Seen_made wr, fun x hx => by simp at hx⟩
      case round =>
        obtain ⟨j, rfl, hj, hbx, hm1, hm2, c1x, hseen, hall2⟩ := hrel
        have HB2 := Lib.hid hbx
        have HA2 := Lib.hid hall2
        clear hall2
        rcases (show j < R.length ∨ R.length = j by omega) with hlt | heq2
        · have hlt' : (j : Int) < (R.length : Int) := by omega
          obtain ⟨b0, o0, rfl, hb0, q⟩ := P'.out (by intro h; rw [h] at hlt; simp at hlt)
          obtain ⟨s, hs⟩ : ∃ s, s = R.getD j Rq.zero := ⟨_, rfl⟩
          have hold : ∀ i, i < 5 → wr.cell? ⟨b0, o0 + j * 5 + i, none⟩ = s.cells[i]? := fun i hi => by
            rw [hbx.cell (p := ⟨b0, o0 + j * 5 + i, none⟩) hb0, hs]; exact q j i hlt hi
          have a0 := hold 0 (by omega)
          have a1 := hold 1 (by omega)
          have a2 := hold 2 (by omega)
          have a3 := hold 3 (by omega)
          have a4 := hold 4 (by omega)
          have HID := Lib.hid (ids_snoc hlt hs)
          have HS := Lib.hid hs
          have hmem : s ∈ R := by rw [hs]; simp only [List.getD, List.getElem?_eq_getElem hlt, Option.getD_some]; exact List.getElem_mem _
          have HM := Lib.hid hmem
          have HSn := Lib.hid hseen
          clear hold hs q hbx hmem hseen
          obtain ⟨t, ht⟩ := RqMay_dec s
          have HT := Lib.hid ht
          obtain ⟨id, kd, bk, wt, an⟩ := s
          simp only [Rq.cells, List.getElem?_cons_zero, List.getElem?_cons_succ, Nat.add_zero] at a0 a1 a2 a3 a4
          have lb : b0 < wr.heap.size := cell_lt a0
          have lw : w.heap.size < wr.heap.size := by omega
          cases t with
          | false =>
            have hrf : Hid (r = 6) := HBad.out fun h => by
              rcases ht with ⟨_, h'⟩ | ⟨h', _⟩
              · cases h'
              · exact h' (h.2.2.2.1 _ HM.out)
            clear ht HBad HC
            go_wp2_with (go_at_call 22; refine (prog_request _ _ _ _ _ _ _ HT.out).mono ?_; rintro e w1 ⟨rfl, hb1⟩; obtain ⟨hc1, hf1⟩ := bcell hb1; have hz1 := blt hb1; have hy1 := hb1.size; (try simp at hy1))
            all_goals first | (go_ret; exact ⟨rI hrf.out.symm, (by refine Below.trans ?_ (Below.mono hb1 (by first | omega | (simp; done) | (simp; omega))); repeat (first | (with_reducible exact HB2.out) | (with_reducible refine Below.drew ?_) | (with_reducible refine Below_drewN ?_) | (with_reducible refine Below.alloc ?_ (by first | omega | (simp; done) | (simp; omega)) _) | (with_reducible refine Below.setCell ?_ (by first | omega | (simp; done) | (simp; omega)) _)))⟩) | (exfalso; first | omega | (simp at *; omega) | (simp at *; done))
          | true =>
            have hmay : RqMay ⟨id, kd, bk, wt, an⟩ := by
              rcases ht with ⟨h', _⟩ | ⟨_, h'⟩
              · exact h'
              · cases h'
            have HN := Lib.hid (rq_snoc hlt HS.out HA2.out hmay)
            have hkey : keyOf Try.prog 3 (.int .i64 id) = some (kI id) := Go.Maps.keyOf_int_mk Try.underlying3 (by obtain ⟨h1, h2, _⟩ := hmay; simp only at h1 h2; simp [Lit.wf, IntKind.min, IntKind.max, IntKind.signed, IntKind.bits]; omega)
            have HK := Lib.hid hkey
            obtain ⟨es, hown, h3, h4, h5, h6⟩ := HSn.out
            have HO := Lib.hid hown
            have HE := Lib.hid (And.intro h3 (And.intro h4 (And.intro h5 h6)))
            have hlen : (ids (R.take j)).length < maxLen := by unfold maxLen; simp [ids]; omega
            have HL := Lib.hid hlen
            clear ht hmay hkey hown h3 h4 h5 h6 hlen
            go_wp2_with (first | (go_at_call 22; refine (prog_request _ _ _ _ _ _ _ HT.out).mono ?_; rintro e w1 ⟨rfl, hb1⟩; obtain ⟨hc1, hf1⟩ := bcell hb1; have hz1 := blt hb1; have hy1 := hb1.size; (try simp at hy1)) | (at_mapUpdate; refine wpList_mapUpdate_own _ rfl _ _ _ 48 rfl 3 50 key_int Try.underlying48 seenR M (ids (R.take j)).length (DataW.map es) rfl (map_keep (map_keep HO.out ((Below.refl _ _).alloc (Nat.le_refl _) _)) hb1) HL.out _ _ (kI id) rfl rfl HK.out .nil [] rfl ?_))
            intro w2 hown2 hgrow2
            have hB2 : Hid (Below w.heap.size w w2) := by
              have h1 : Below w.heap.size w w1 := (by refine Below.trans ?_ (Below.mono hb1 (by first | omega | (simp; done) | (simp; omega))); repeat (first | (with_reducible exact HB2.out) | (with_reducible refine Below.drew ?_) | (with_reducible refine Below_drewN ?_) | (with_reducible refine Below.alloc ?_ (by first | omega | (simp; done) | (simp; omega)) _) | (with_reducible refine Below.setCell ?_ (by first | omega | (simp; done) | (simp; omega)) _)))
              exact map_below h1 hgrow2 h1.size (by omega)
            have S2 : Hid (Seen w2 M (ids (R.take (j + 1)))) := by
              have := HE.out
              show Seen w2 M (ids (R.take (j + 1)))
              rw [HID.out]
              exact Seen_upd this.1 this.2.1 this.2.2.1 this.2.2.2 hown2
            have s1 := hb1.size
            have s2 := map_size hgrow2
            simp at s1
            have c2 : Hid (w2.cell? ⟨w.heap.size, 1, none⟩ = some (.slice (some ⟨b0, o0, none⟩) R.length c')) := map_cell hgrow2 (by omega) ((hc1 _ _ (by simp; omega)).trans (cell_alloc _ c1x))
            clear hown2 hgrow2 HO HE hc1 hf1 hb1 HSn
            go_wp2
            go_roundw
            case rel => exact ⟨j + 1, by go_num, by omega, hB2.out, hm1, by omega, c2.out, S2.out, HN.out⟩
            case measure => simp [intOf]; omega
        · have hge2 : ¬ (j : Int) < (R.length : Int) := by omega
          obtain ⟨n, arr, cl, hh, hn, hle, hnd⟩ := Seen_len hseen
          have hid : ids (R.take j) = ids R := by rw [List.take_of_length_le (by omega)]
          have hlen : (ids (R.take j)).length = R.length := by rw [hid]; simp [ids]
          rw [hlen, hid] at hnd
          rw [hlen] at hle
          subst hn
          have hrun := map_len hh 3
          clear hseen hbx hh
          rcases (show arr.size < R.length ∨ arr.size = R.length by omega) with h | h
          · have h' : (arr.size : Int) < (R.length : Int) := by omega
            have hrf : Hid (r = 6) := HBad.out fun hm => by have := hnd.2 hm.2.2.2.2; omega
            clear HBad HC hnd hlen hid
            go_wp2
            all_goals first | (go_ret; exact ⟨rI hrf.out.symm, HB2.out⟩) | (exfalso; first | omega | (simp at *; omega) | (simp at *; done))
          · have h' : ¬ (arr.size : Int) < (R.length : Int) := by omega
            have hrt : Hid (r = 0) := by
              rcases HC.out with ⟨_, hr⟩ | ⟨hr, _⟩
              · exact hr
              · exact absurd ⟨h12, h100, fun i hi => HA.out i (by omega), fun x hx => HA2.out x (by rw [List.take_of_length_le (by omega)]; exact hx), hnd.1 h⟩ hr
            clear HBad HC hnd hlen hid
            go_wp2
            all_goals first | (go_ret; exact ⟨rI hrt.out.symm, HB2.out⟩) | (exfalso; first | omega | (simp at *; omega) | (simp at *; done))
end Go.Proofs.Ythngedmmeiiklaa
