/- wheel.open. -/
import Derived.Test.YthgfiadfpgfjdaaWhMem
import Derived.Test.YthgfiadfpgfjdaaWhF
import Derived.Test.YthgfiadfpgfjdaaWhSo
import Derived.Test.YthgfiadfpgfjdaaSeen
namespace Go.Proofs.Ythgfiadfpgfjdaa
open Go.RowKit
theorem info_wls : (Try.prog.info? 38).map (fun i => (i.zero, i.size, i.bytes)) = some (some (.slice none 0 0), 1, 24) := by kernel_rfl
def WhOpPost (w : World) (now : Int) (LL : List (List Tm)) (e : Ending) (w' : World) : Prop :=
  (∃ q vl V, e = .returned (.tuple #[.pointer (some ⟨q, 0, none⟩), .int .i64 0]) ∧ WhMay now LL ∧ w.heap.size ≤ q ∧ q < w'.heap.size ∧ w'.heap[q]? = some (.cells #[.int .i64 now, vl] 49 (0, 0)) ∧ OwnLs (q + 1) w' vl LL V ∧ Below w.heap.size w w') ∨
  (e = .returned (.tuple #[.pointer none, .int .i64 6]) ∧ ¬ WhMay now LL ∧ Below w.heap.size w w')
theorem WhOpPost.no {w w' : World} {now : Int} {LL : List (List Tm)} (h : ¬ WhMay now LL) (hb : Below w.heap.size w w') : WhOpPost w now LL (.returned (.tuple #[.pointer none, .int .i64 6])) w' := Or.inr ⟨rfl, h, hb⟩
/-- What holds at the heads of open's loops; S: the timers seen. -/
def WoRel (w wr : World) (now : Int) (lv : Value) (Z : List (List Tm)) (S : List Tm) : Prop := Below w.heap.size w wr ∧ w.heap.size + 1 + 1 < wr.heap.size ∧ wr.cell? ⟨w.heap.size, 0, none⟩ = some (.int .i64 now) ∧ wr.cell? ⟨w.heap.size, 1, none⟩ = some lv ∧
  Seen wr (w.heap.size + 1 + 1) (tids S) ∧ ∃ vl V, wr.heap[w.heap.size + 1]? = some (.cells #[.int .i64 now, vl] 49 (0, 0)) ∧ OwnLs (w.heap.size + 1 + 1 + 1) wr vl Z V
theorem cell_keep_set {w : World} {b o : Nat} {v u : Value} {p : Addr} (h : w.cell? ⟨b, o, none⟩ = some v) (hn : b ≠ p.block) : (w.setCell p u).cell? ⟨b, o, none⟩ = some v :=
  (World.cell?_of_block (w := w) (w' := w.setCell p u) (a := ⟨b, o, none⟩) (Below.heap_setCell _ _ _ _ hn)).trans h
theorem take_flat {LL : List (List Tm)} {k : Nat} (h : k < LL.length) : (LL.take (k + 1)).flatten = (LL.take k).flatten ++ LL.getD k [] := by
  rw [List.take_succ_eq_append_getElem h, List.flatten_append]; simp [List.getD, h]
theorem take_ll {LL : List (List Tm)} {k : Nat} (h : k < LL.length) : LL.take (k + 1) = LL.take k ++ [LL.getD k []] := by
  rw [List.take_succ_eq_append_getElem h]; simp [List.getD, h]
theorem tids_app (A B : List Tm) : tids (A ++ B) = tids A ++ tids B := by simp [tids]
theorem tm_take {L : List Tm} {j : Nat} {t : Tm} (ht : t = L.getD j Tm.zero) (h : j < L.length) : L.take (j + 1) = L.take j ++ [t] := by
  rw [List.take_succ_eq_append_getElem h, ht]; simp [List.getD, h]
theorem tm_mem {L : List Tm} {j : Nat} {t : Tm} (ht : t = L.getD j Tm.zero) (h : j < L.length) : t ∈ L := by
  have e : L.getD j Tm.zero = L[j] := by simp [List.getD, h]
  rw [ht, e]; exact List.getElem_mem _
theorem wo_bad {now : Int} {LL : List (List Tm)} {k : Nat} {t : Tm} (hk : k < 25) (ht : t ∈ LL.getD k []) (h : ¬ TmMay t now ∨ ¬ plc t now = k) : ¬ WhMay now LL := fun hm => by
  have := (hm.2.2.2.1 k hk).1 t ht
  rcases h with h | h
  · exact h this.1
  · exact h this.2
theorem plc_nat {t : Tm} {now : Int} {a n : Nat} (h : t.at_ = a) (h2 : now = n) : plc t now = placeN a n := by unfold plc; rw [h, h2]; rfl
set_option maxHeartbeats 4000000 in
set_option maxRecDepth 100000 in
theorem prog_open (lv : Value) (now : Int) (LL : List (List Tm)) (w : World) (r : LsAt w lv LL) (hn : LL.length * 24 ≤ 140737488351232) (hs : ∀ i, i < LL.length → (LL.getD i []).length * 16 ≤ 140737488351232) :
    Calls Try.prog 15 #[.agg #[.int .i64 now, lv]] w (WhOpPost w now LL) := by
  obtain ⟨i0, hi, hi0, hi1, hi2⟩ := info_parts info_wls
  have hmm := @run_makeMap Try.prog
  have R := Lib.hid r
  obtain ⟨a, cp, rfl⟩ := LsAt_shape r
  have HS := Lib.hid hs
  clear r hs
  rcases (show ((now < 0)) ∨ ((¬ now < 0) ∧ (1099511627776 < now)) ∨ ((¬ now < 0) ∧ (¬ 1099511627776 < now) ∧ (¬ LL.length = 25)) ∨ ((¬ now < 0) ∧ (¬ 1099511627776 < now) ∧ (LL.length = 25)) by (rcases (show (now < 0) ∨ (¬ now < 0) by omega) with hx0 | hx0; exact Or.inl hx0; (rcases (show (1099511627776 < now) ∨ (¬ 1099511627776 < now) by omega) with hx1 | hx1; exact Or.inr (Or.inl ⟨hx0, hx1⟩); (rcases (show (¬ LL.length = 25) ∨ (LL.length = 25) by omega) with hx2 | hx2; exact Or.inr (Or.inr (Or.inl ⟨hx0, hx1, hx2⟩)); exact Or.inr (Or.inr (Or.inr (⟨hx0, hx1, hx2⟩))))))) with hs0 | ⟨hs0, hs1⟩ | ⟨hs0, hs1, hs2⟩ | ⟨hs0, hs1, hs2⟩
  · have HN := Lib.hid (show ¬ WhMay now LL from fun h => by have := h.1; omega)
    go_enter Try.func15, Try.ntmps15
    go_wp2
    all_goals (go_ret2; exact WhOpPost.no HN.out (by repeat (first | (with_reducible exact Below.refl _ _) | (with_reducible assumption) | (with_reducible refine Below.drew ?_) | (with_reducible refine Below_drewN ?_) | (with_reducible refine Below.alloc ?_ (by first | omega | (simp; done) | (simp; omega)) _) | (with_reducible refine Below.setCell ?_ (by first | omega | (simp; done) | (simp; omega)) _) | (with_reducible refine Below.trans ?_ (Below.mono (by assumption) (by first | omega | (simp; done) | (simp; omega)))))))
  · have HN := Lib.hid (show ¬ WhMay now LL from fun h => by have := h.2.1; omega)
    go_enter Try.func15, Try.ntmps15
    go_wp2
    all_goals (go_ret2; exact WhOpPost.no HN.out (by repeat (first | (with_reducible exact Below.refl _ _) | (with_reducible assumption) | (with_reducible refine Below.drew ?_) | (with_reducible refine Below_drewN ?_) | (with_reducible refine Below.alloc ?_ (by first | omega | (simp; done) | (simp; omega)) _) | (with_reducible refine Below.setCell ?_ (by first | omega | (simp; done) | (simp; omega)) _) | (with_reducible refine Below.trans ?_ (Below.mono (by assumption) (by first | omega | (simp; done) | (simp; omega)))))))
  · have HN := Lib.hid (show ¬ WhMay now LL from fun h => by have := h.2.2.1; omega)
    have h25 : ((LL.length : Int) != 25) = true := by rw [bne_iff_ne]; omega
    clear hs2
    go_enter Try.func15, Try.ntmps15
    go_wp2
    all_goals (go_ret2; exact WhOpPost.no HN.out (by repeat (first | (with_reducible exact Below.refl _ _) | (with_reducible assumption) | (with_reducible refine Below.drew ?_) | (with_reducible refine Below_drewN ?_) | (with_reducible refine Below.alloc ?_ (by first | omega | (simp; done) | (simp; omega)) _) | (with_reducible refine Below.setCell ?_ (by first | omega | (simp; done) | (simp; omega)) _) | (with_reducible refine Below.trans ?_ (Below.mono (by assumption) (by first | omega | (simp; done) | (simp; omega)))))))
  · have h25 : ((LL.length : Int) != 25) = false := by rw [bne_eq_false_iff_eq]; omega
    have HL := Lib.hid hs2
    rw [hs2] at h25 ⊢
    clear hs2
    go_enter Try.func15, Try.ntmps15
    go_wp2_with fail
    obtain ⟨N, rfl⟩ := Int.eq_ofNat_of_zero_le (show 0 ≤ now by omega)
    have hnow := Lib.hid (show 0 ≤ (N : Int) ∧ (N : Int) ≤ 1099511627776 by omega)
    have hN2 : N ≤ 2199023255552 := by omega
    obtain ⟨V0, hV0, r1, r2⟩ := R.out
    have R2 := Lib.hid r2
    obtain ⟨a', cp', e', l1, m1, _, q1⟩ := RowAt_fn (f := fun x : Value => [x]) undef r1
    rw [hV0, HL.out] at e' l1
    injection e' with e1 _ e3
    subst e1; subst e3
    have HV0 := Lib.hid hV0
    obtain ⟨b0, o0, rfl, hb0, q2⟩ := q1 (by intro h; rw [h, HL.out] at hV0; simp at hV0)
    have Q := Lib.hid q2
    clear r1 r2 q1 q2 hV0 m1
    go_loopw [6, 34] (fun m i wr => ∃ k : Nat, k ≤ 25 ∧ i = .int .i64 k ∧ m = .int .i64 (((LL.take k).flatten.length : Nat) : Int) ∧ (LL.take k).flatten.length ≤ k * 8796093021952 ∧ (∀ i, i < k → LsMay (N : Int) i (LL.getD i [])) ∧ WoRel w wr (N : Int) (.slice (some ⟨b0, o0, none⟩) 25 cp) (LL.take k) (LL.take k).flatten) (fun _ i _ => 25 - (intOf i).toNat)
    case atStart =>
      refine ⟨0, Nat.zero_le _, rfl, rfl, by simp, fun i hi => by omega, (by repeat (first | (with_reducible exact Below.refl _ _) | (with_reducible assumption) | (with_reducible refine Below.drew ?_) | (with_reducible refine Below_drewN ?_) | (with_reducible refine Below.alloc ?_ (by first | omega | (simp; done) | (simp; omega)) _) | (with_reducible refine Below.setCell ?_ (by first | omega | (simp; done) | (simp; omega)) _) | (with_reducible refine Below.trans ?_ (Below.mono (by assumption) (by first | omega | (simp; done) | (simp; omega)))))), (by first | omega | (simp; done) | (simp; omega)), by go_simp, by go_simp, by simpa [tids] using Seen_made (((w.alloc _).alloc _)), _, [], (Below.heap_alloc _ _ _ (by simp)).trans (heap_at _ (by simp)), OwnLs_nil _ _⟩
    case round =>
      obtain ⟨k, hk, rfl, hrel⟩ := hrel
      obtain ⟨Z, hZ⟩ : ∃ Z, Z = LL.take k := ⟨_, rfl⟩
      have HZ := Lib.hid hZ
      have hZl : Z.length ≤ 25 := by rw [hZ, List.length_take]; omega
      rw [← hZ] at hrel
      obtain ⟨rfl, htot, hgood, hb, hz, c0, c1, hseen, vl, V, hwk, hown⟩ := hrel
      clear hZ
      have HB := Lib.hid hb
      have HG := Lib.hid hgood
      have HSn := Lib.hid hseen
      have HWk := Lib.hid hwk
      have HO := Lib.hid hown
      obtain ⟨T, hT⟩ : ∃ T, T = Z.flatten := ⟨_, rfl⟩
      rw [← hT] at HSn htot ⊢
      have HT := Lib.hid hT
      clear hb hgood hseen hwk hown hT
      rcases (show k < 25 ∨ k = 25 by omega) with hlt | rfl
      · have hlt' : (k : Int) < 25 := by omega
        have p0 : (0 : Int) ≤ (k : Int) := by omega
        have hkl : k < LL.length := by rw [HL.out]; exact hlt
        have a0 := cell_below HB.out (Q.out k 0 (by rw [HV0.out, HL.out]; exact hlt) (by omega)) hb0
        simp only [Nat.mul_one, Nat.add_zero] at a0
        have hrk := R2.out k hkl
        have hsk := HS.out k hkl
        have HTF := Lib.hid (show (LL.take (k + 1)).flatten = T ++ LL.getD k [] by rw [HT.out, HZ.out]; exact take_flat hkl)
        have HTL := Lib.hid (show LL.take (k + 1) = Z ++ [LL.getD k []] by rw [HZ.out]; exact take_ll hkl)
        obtain ⟨L, hL⟩ : ∃ L, L = LL.getD k [] := ⟨_, rfl⟩
        obtain ⟨vk, hvk⟩ : ∃ vk, vk = V0.getD k undef := ⟨_, rfl⟩
        rw [← hL] at hrk hsk HTF HTL
        rw [← hvk] at hrk a0
        have HLk := Lib.hid hL
        obtain ⟨ak, ck, rfl, lk1, mk1, _, pk⟩ := RowAt_fn Tm.zero hrk
        have RK := Lib.hid hrk
        have PK := Lib.hid pk
        unfold maxLen at mk1
        clear hL hvk hrk pk hkl
        go_wp2_with fail
        go_loopw [41] (fun i wr => ∃ j : Nat, j ≤ L.length ∧ i = .int .i64 j ∧ (∀ t ∈ L.take j, TmMay t (N : Int) ∧ plc t (N : Int) = k) ∧ WoRel w wr (N : Int) (.slice (some ⟨b0, o0, none⟩) 25 cp) Z (T ++ L.take j)) (fun i _ => L.length - (intOf i).toNat)
        case atStart => exact ⟨0, Nat.zero_le _, rfl, by simp, HB.out, hz, c0, c1, by simpa using HSn.out, vl, V, HWk.out, HO.out⟩
        case round =>
          clear HB hz c0 c1 HSn HWk HO a0
          obtain ⟨j, hj, rfl, hall, hb, hz, c0, c1, hseen, vl, V, hwk, hown⟩ := hrel
          have HB := Lib.hid hb
          have HA := Lib.hid hall
          have HSn := Lib.hid hseen
          have HWk := Lib.hid hwk
          have HO := Lib.hid hown
          clear hall hseen hwk hown
          have hz0 : w.heap.size < wr.heap.size := by omega
          rcases (show j < L.length ∨ j = L.length by omega) with hjl | rfl
          · have hjl' : (j : Int) < (L.length : Int) := by omega
            have p1 : (0 : Int) ≤ (j : Int) := by omega
            obtain ⟨b1, o1, rfl, hb1, qk⟩ := PK.out (by intro h; rw [h] at hjl; simp at hjl)
            obtain ⟨t, ht⟩ : ∃ t, t = L.getD j Tm.zero := ⟨_, rfl⟩
            have a0 := qk j 0 hjl (by omega)
            have a1 := qk j 1 hjl (by omega)
            rw [← ht] at a0 a1
            have HTm := Lib.hid (tm_mem ht hjl)
            have HTk := Lib.hid (tm_take ht hjl)
            obtain ⟨t0, t1⟩ := t
            simp only [Tm.cells, List.getElem?_cons_zero, List.getElem?_cons_succ, Nat.add_zero] at a0 a1
            have a0 := cell_below hb a0 hb1
            have a1 := cell_below hb a1 hb1
            clear ht qk hb
            by_cases hm : TmMay ⟨t0, t1⟩ (N : Int)
            · obtain ⟨g1, g2, g3, g4, g5⟩ := id hm
              simp only at g1 g2 g3 g4 g5
              obtain ⟨A, rfl⟩ := Int.eq_ofNat_of_zero_le (show 0 ≤ t0 by omega)
              have HPl := Lib.hid (plc_nat (t := ⟨(A : Int), t1⟩) (now := (N : Int)) rfl rfl)
              have HM := Lib.hid hm
              clear hm
              obtain ⟨P, hP⟩ : ∃ P, P = placeN A N := ⟨_, rfl⟩
              have HP := Lib.hid hP
              have hP2 := placeN_lt A N
              rw [← hP] at HPl hP2
              clear hP
              by_cases hpk : P = k
              · subst hpk
                have hkey : keyOf Try.prog 3 (.int .i64 t1) = some (kI t1) := Go.Maps.keyOf_int_mk Try.underlying3 (by simp [Lit.wf, IntKind.min, IntKind.max, IntKind.signed, IntKind.bits]; omega)
                have HK := Lib.hid hkey
                obtain ⟨es, hown, h3, h4, h5, h6⟩ := HSn.out
                have HOm := Lib.hid hown
                have HE := Lib.hid (And.intro h3 (And.intro h4 (And.intro h5 h6)))
                have hlen : (tids (T ++ L.take j)).length < maxLen := by unfold maxLen; simp [tids]; omega
                have HLn := Lib.hid hlen
                clear hkey hown h3 h4 h5 h6 hlen
                go_wp2_with (first | (go_at_call 16; refine (prog_fits ⟨(A : Int), t1⟩ (N : Int) _ hnow.out.1 hnow.out.2 true (Or.inl ⟨HM.out, rfl⟩)).mono ?_; rintro e w1 ⟨rfl, hb1⟩; obtain ⟨hc1, hf1⟩ := bcell hb1; have hz1 : wr.heap.size < w1.heap.size := (by have := hb1.size; simp at this; omega)) | (go_at_call 25; refine (prog_place A N _ (by omega) hN2).mono ?_; rw [← HP.out]; rintro e w2 ⟨rfl, hb2⟩; obtain ⟨hc2, hf2⟩ := bcell hb2) | (at_mapUpdate; go_loud (refine wpList_mapUpdate_own _ rfl _ _ _ 56 rfl 3 58 key_int Try.underlying56 seenR (w.heap.size + 1 + 1) (tids (T ++ L.take j)).length (DataW.map es) rfl (map_keep (map_keep (map_keep HOm.out ((Below.refl _ _).alloc (Nat.le_refl _) _)) hb1) hb2) HLn.out _ _ (kI t1) rfl rfl HK.out .nil [] rfl ?_)))
                intro w3 hown3 hg3
                have s1 := hb1.size
                have s2 := hb2.size
                have s3 := map_size hg3
                simp at s1
                have hB2 : Below wr.heap.size wr w2 := (((Below.refl wr.heap.size wr).alloc (Nat.le_refl _) _).trans (hb1.mono (by simp))).trans (hb2.mono (by omega))
                have S3 : Hid (Seen w3 (w.heap.size + 1 + 1) (tids (T ++ L.take (j + 1)))) := by
                  have := HE.out
                  show Seen w3 (w.heap.size + 1 + 1) (tids (T ++ L.take (j + 1)))
                  rw [HTk.out, ← List.append_assoc, tids_app]
                  exact Seen_upd this.1 this.2.1 this.2.2.1 this.2.2.2 hown3
                have hB3 : Hid (Below w.heap.size w w3) := map_below (HB.out.trans (hB2.mono HB.out.size)) hg3 (by omega) (by omega)
                have keep : ∀ b, b < wr.heap.size → b ≠ w.heap.size + 1 + 1 → w3.heap[b]? = wr.heap[b]? := fun b h1 h2 => (hg3.block b (by omega) (by simpa using h2)).trans (hB2.block b h1)
                have c0' : Hid (w3.cell? ⟨w.heap.size, 0, none⟩ = some (.int .i64 (N : Int))) := (World.cell?_of_block (w := wr) (w' := w3) (a := ⟨w.heap.size, 0, none⟩) (keep w.heap.size hz0 (by omega))).trans c0
                have c1' : Hid (w3.cell? ⟨w.heap.size, 1, none⟩ = some (.slice (some ⟨b0, o0, none⟩) 25 cp)) := (World.cell?_of_block (w := wr) (w' := w3) (a := ⟨w.heap.size, 1, none⟩) (keep w.heap.size hz0 (by omega))).trans c1
                have HWk3 := Lib.hid ((keep (w.heap.size + 1) (by omega) (by omega)).trans HWk.out)
                have HO3 := Lib.hid (OwnLs_move HO.out (fun b h1 h2 => keep b h2 (by omega)))
                have hz3 : w.heap.size + 1 + 1 < w3.heap.size := by omega
                clear hown3 hg3 HOm HE hc1 hf1 hb1 hc2 hf2 hb2 HSn keep hB2 HB c0 c1 HWk HO
                go_wp2
                go_roundw
                case measure => simp [intOf]; omega
                case rel =>
                  refine ⟨j + 1, by omega, by go_num, fun t ht => ?_, hB3.out, hz3, c0'.out, c1'.out, S3.out, vl, V, HWk3.out, HO3.out⟩
                  rw [HTk.out, List.mem_append, List.mem_singleton] at ht
                  rcases ht with ht | rfl
                  · exact HA.out t ht
                  · exact ⟨HM.out, HPl.out⟩
              · have HN := Lib.hid (wo_bad (now := (N : Int)) (LL := LL) hlt (by rw [← HLk.out]; exact HTm.out) (Or.inr (by rw [HPl.out]; exact hpk)))
                have q1 : ((P : Int) != (k : Int)) = true := by rw [bne_iff_ne]; omega
                have q2 : ¬ (P : Int) = (k : Int) := by omega
                clear hpk
                go_wp2_with (first | (go_at_call 16; refine (prog_fits ⟨(A : Int), t1⟩ (N : Int) _ hnow.out.1 hnow.out.2 true (Or.inl ⟨HM.out, rfl⟩)).mono ?_; rintro e w1 ⟨rfl, hb1⟩; obtain ⟨hc1, hf1⟩ := bcell hb1; have hz1 : wr.heap.size < w1.heap.size := (by have := hb1.size; simp at this; omega)) | (go_at_call 25; refine (prog_place A N _ (by omega) hN2).mono ?_; rw [← HP.out]; rintro e w2 ⟨rfl, hb2⟩; obtain ⟨hc2, hf2⟩ := bcell hb2))
                all_goals (go_ret2; exact WhOpPost.no HN.out (((HB.out.alloc (by have := HB.out.size; omega) _).trans (hb1.mono (by simp; have := HB.out.size; omega))).trans (hb2.mono (by have := hb1.size; simp at this; have := HB.out.size; omega))))
            · have HN := Lib.hid (wo_bad (now := (N : Int)) (LL := LL) hlt (by rw [← HLk.out]; exact HTm.out) (Or.inl hm))
              have HM := Lib.hid hm
              clear hm
              go_wp2_with (go_at_call 16; refine (prog_fits ⟨t0, t1⟩ (N : Int) _ hnow.out.1 hnow.out.2 false (Or.inr ⟨HM.out, rfl⟩)).mono ?_; rintro e w1 ⟨rfl, hb1⟩; obtain ⟨hc1, hf1⟩ := bcell hb1; have hz1 : wr.heap.size < w1.heap.size := (by have := hb1.size; simp at this; omega))
              all_goals (go_ret2; exact WhOpPost.no HN.out ((HB.out.alloc (by have := HB.out.size; omega) _).trans (hb1.mono (by simp; have := HB.out.size; omega))))
          · have hge : ¬ ((L.length : Nat) : Int) < (L.length : Int) := by omega
            have hAL := Lib.hid (show ∀ t ∈ L, TmMay t (N : Int) ∧ plc t (N : Int) = k by have := HA.out; rwa [List.take_of_length_le (Nat.le_refl _)] at this)
            have HS2 := Lib.hid (show Seen wr (w.heap.size + 1 + 1) (tids (T ++ L)) by have := HSn.out; rwa [List.take_of_length_le (Nat.le_refl _)] at this)
            clear HA HSn
            by_cases hso : OrdT L
            · have HOr := Lib.hid hso
              clear hso
              go_wp2_with (go_at_call 26; refine (isSoTm _ L _ (RowAt_below RK.out HB.out) (by omega) true (Or.inl ⟨HOr.out, rfl⟩)).mono ?_; rintro e w1 ⟨rfl, hb1⟩; obtain ⟨hc1, hf1⟩ := bcell hb1)
              have hz1 := hb1.size
              have HB1 := Lib.hid (HB.out.trans (hb1.mono HB.out.size))
              have HO1 := Lib.hid (OwnLs_below HO.out hb1)
              have HWk1 := Lib.hid ((hb1.block (w.heap.size + 1) (by omega)).trans HWk.out)
              have x1 : w1.cell? ⟨w.heap.size + 1, 1, none⟩ = some vl := blk_cell HWk1.out 1
              have x2 : w1.frozen? ⟨w.heap.size + 1, 1, none⟩ = false := blk_free HWk1.out 1
              have c0 := cell_below hb1 c0 hz0
              have c1 := cell_below hb1 c1 hz0
              have HS3 := Lib.hid (Seen_kept HS2.out (hb1.block (w.heap.size + 1 + 1) hz))
              have RK1 := Lib.hid (RowAt_below RK.out HB1.out)
              obtain ⟨av, cv, rfl, _⟩ := owns_shape HO1.out.2.1
              clear hb1 hc1 hf1 HB HO HWk HS2
              go_wp2_with fail
              (refine wp_region_noPanic ?_; refine wp_region_held_drew (S := fun _ => True) (by kernel_rfl) ?q1xb (fun hHeld => ?_); (case q1xb => ((try dsimp only); all_goals exact trivial)); refine wpAnyH_take (i := 0) (v := ?q1x1nv0) (by simp only [List.getElem?_toArray, List.getElem?_cons_zero]; exact rfl) (by kernel_rfl) (by kernel_rfl) (by kernel_rfl) (fun _ _ _ h => h) (Or.inl ⟨by rfl, ?q1x1ny0⟩) (by assumption) ?_; (case q1x1ny0 => (intro w hSw; (try dsimp only at hSw); go_simp; (try with_reducible rfl))); (try simp only [Act.put, List.setIfInBounds_toArray, List.set_cons_zero, List.set_cons_succ]); refine wpAnyH_take (i := 1) (v := ?q1x1nv1) (by simp only [List.getElem?_toArray, List.getElem?_cons_zero, List.getElem?_cons_succ]; exact rfl) (by kernel_rfl) (by kernel_rfl) (by kernel_rfl) (fun _ _ _ h => h) (Or.inl ⟨by rfl, ?q1x1ny1⟩) (by assumption) ?_; (case q1x1ny1 => (intro w hSw; (try dsimp only at hSw); go_simp; (try with_reducible rfl))); (try simp only [Act.put, List.setIfInBounds_toArray, List.set_cons_zero, List.set_cons_succ]); refine wpAnyH_take (i := 2) (v := ?q1x1nv2) (by simp only [List.getElem?_toArray, List.getElem?_cons_zero, List.getElem?_cons_succ]; exact rfl) (by kernel_rfl) (by kernel_rfl) (by kernel_rfl) (fun _ _ _ h => h) (Or.inl ⟨by rfl, ?q1x1ny2⟩) (by assumption) ?_; (case q1x1ny2 => (intro w hSw; (try dsimp only at hSw); go_simp; (try with_reducible rfl))); (try simp only [Act.put, List.setIfInBounds_toArray, List.set_cons_zero, List.set_cons_succ]); refine wpAnyH_take (i := 3) (v := ?q1x1nv3) (by simp only [List.getElem?_toArray, List.getElem?_cons_zero, List.getElem?_cons_succ]; exact rfl) (by kernel_rfl) (by kernel_rfl) (by kernel_rfl) (fun _ _ _ h => h) (Or.inl ⟨by rfl, ?q1x1ny3⟩) (by assumption) ?_; (case q1x1ny3 => (intro w hSw; (try dsimp only at hSw); go_simp; (try with_reducible rfl))); (try simp only [Act.put, List.setIfInBounds_toArray, List.set_cons_zero, List.set_cons_succ]); refine wpAnyH_take (i := 4) (v := ?q1x1nv4) (by simp only [List.getElem?_toArray, List.getElem?_cons_zero, List.getElem?_cons_succ]; exact rfl) (by kernel_rfl) (by kernel_rfl) (by kernel_rfl) (fun _ _ _ h => h) (Or.inl ⟨by rfl, ?q1x1ny4⟩) (by assumption) ?_; (case q1x1ny4 => (intro w hSw; (try dsimp only at hSw); go_simp; (try with_reducible rfl))); (try simp only [Act.put, List.setIfInBounds_toArray, List.set_cons_zero, List.set_cons_succ]); refine wpAnyH_take (i := 6) (v := ?q1x1nv6) (by simp only [List.getElem?_toArray, List.getElem?_cons_zero, List.getElem?_cons_succ]; exact rfl) (by kernel_rfl) (by kernel_rfl) (by kernel_rfl) (fun _ _ _ h => h) (Or.inl ⟨by rfl, ?q1x1ny6⟩) (by assumption) ?_; (case q1x1ny6 => (intro w hSw; (try dsimp only at hSw); go_simp; (try with_reducible rfl))); (try simp only [Act.put, List.setIfInBounds_toArray, List.set_cons_zero, List.set_cons_succ]); refine wpAnyH_ready (rs := [5, 7]) (by kernel_rfl) (by simp) ?_; refine (AllReadyH.cons (by simp only [List.getElem?_toArray, List.getElem?_cons_zero, List.getElem?_cons_succ]; exact rfl) (fun K hK => ?_) (AllReadyH.cons (by simp only [List.getElem?_toArray, List.getElem?_cons_zero, List.getElem?_cons_succ]; exact rfl) (fun K hK => ?_) AllReadyH.nil)); (go_simp; refine hK.out _ _ ?q1x2ns5 (fun hHeld => ?_); (case q1x2ns5 => ((try dsimp only); all_goals exact trivial)); clear hK K; (try simp only [Act.put, List.setIfInBounds_toArray, List.set_cons_zero, List.set_cons_succ]); refine wpAnyH_ready (rs := [7]) (by kernel_rfl) (by simp) ?_; refine AllReadyH.cons (by simp only [List.getElem?_toArray, List.getElem?_cons_zero, List.getElem?_cons_succ]; exact rfl) (fun K hK => ?_) AllReadyH.nil; go_simp; (go_at_call 28; refine (cloneTm _ L _ (RowAt_drewN RK1.out 1) hsk).mono ?_; rintro e w2 ⟨x, rfl, hownx, hb2⟩; have hbD : Below w1.heap.size w1 w2 := ((Below_drewN (n := 1) (Below.refl w1.heap.size w1)).trans (hb2.mono (by simp))); have y1 := cell_below' hbD x1; have y0 := cell_lt y1; have y2 : w2.frozen? ⟨w.heap.size + 1, 1, none⟩ = false := (hbD.frozen (p := ⟨w.heap.size + 1, 1, none⟩) (cell_lt x1)).trans x2; have HO2 := Lib.hid (OwnLs_below HO1.out hbD); have HX := Lib.hid hownx; have HBD := Lib.hid hbD; have hz2 := hbD.size; obtain ⟨ax, cx, rfl, _⟩ := owns_shape hownx; clear hb2 hbD hownx); (try go_wp2_with fail); refine hK.out _ _ ?q1x2ns7 (fun hHeld => ?_); (case q1x2ns7 => ((try dsimp only); all_goals exact trivial)); clear hK K; (try simp only [Act.put, List.setIfInBounds_toArray, List.set_cons_zero, List.set_cons_succ]); refine wpAnyH_ready (rs := [8]) (by kernel_rfl) (by simp) ?_; refine AllReadyH.cons (by simp only [List.getElem?_toArray, List.getElem?_cons_zero, List.getElem?_cons_succ]; exact rfl) (fun K hK => ?_) AllReadyH.nil; go_simp; refine hK.out _ _ ?q1x2ns8 (fun hHeld => ?_); (case q1x2ns8 => ((try dsimp only); all_goals exact trivial)); clear hK K; (try simp only [Act.put, List.setIfInBounds_toArray, List.set_cons_zero, List.set_cons_succ]); refine wpAnyH_ready (rs := [9]) (by kernel_rfl) (by simp) ?_; refine AllReadyH.cons (by simp only [List.getElem?_toArray, List.getElem?_cons_zero, List.getElem?_cons_succ]; exact rfl) (fun K hK => ?_) AllReadyH.nil; rw [if_pos (by rfl)]; (refine wp_append_at _ _ _ 22 rfl (w.heap.size + 1 + 1 + 1) 38 i0 (.slice none 0 0) 1 24 Try.underlying22 hi hi0 hi1 hi2 rfl (by decide) _ _ _ (by rfl) (HO2.out.2.1.alloc _) ⟨w2.heap.size, 0, none⟩ 1 1 [.slice ax L.length cx] (by rfl) rfl (cell_one_new _ _ _) (by intro u hu; simp at hu; subst hu; rfl) (by unfold maxLen; omega) (by omega) (by simp; omega) ?_; intro v' w3 happ hg3 hat; have hb3 := grown_below (B := w.heap.size + 1 + 1 + 1) ((Below.refl w2.heap.size w2).alloc (Nat.le_refl _) _) (by omega) HO2.out.2.1 hg3; have z1 := cell_below hb3 y1 (by omega); have z2 : w3.frozen? ⟨w.heap.size + 1, 1, none⟩ = false := (hb3.frozen (p := ⟨w.heap.size + 1, 1, none⟩) (by first | omega | (simp; done) | (simp; omega))).trans y2; have HA3 := Lib.hid happ; have HG3 := Lib.hid hg3; have HAt := Lib.hid hat; have HB3 := Lib.hid hb3; obtain ⟨a3, c3, rfl, _⟩ := owns_shape happ; clear happ hg3 hat hb3); refine hK.out _ _ ?q1x2ns9 (fun hHeld => ?_); (case q1x2ns9 => ((try dsimp only); all_goals exact trivial)); clear hK K; (try simp only [Act.put, List.setIfInBounds_toArray, List.set_cons_zero, List.set_cons_succ]); refine wpAnyH_take (i := 10) (v := ?q1x2nv10) (by simp only [List.getElem?_toArray, List.getElem?_cons_zero, List.getElem?_cons_succ]; exact rfl) (by kernel_rfl) (by kernel_rfl) (by kernel_rfl) (fun _ _ _ h => h) (Or.inl ⟨by rfl, ?q1x2ny10⟩) (by assumption) ?_; (case q1x2ny10 => (intro w hSw; (try dsimp only at hSw); go_simp; (try with_reducible rfl))); (try simp only [Act.put, List.setIfInBounds_toArray, List.set_cons_zero, List.set_cons_succ]); refine wpAnyH_take (i := 11) (v := ?q1x2nv11) (by simp only [List.getElem?_toArray, List.getElem?_cons_zero, List.getElem?_cons_succ]; exact rfl) (by kernel_rfl) (by kernel_rfl) (by kernel_rfl) (fun _ _ _ h => h) (Or.inl ⟨by rfl, ?q1x2ny11⟩) (by assumption) ?_; (case q1x2ny11 => (intro w hSw; (try dsimp only at hSw); go_simp; (try with_reducible rfl))); (try simp only [Act.put, List.setIfInBounds_toArray, List.set_cons_zero, List.set_cons_succ]); refine wpAnyH_take (i := 12) (v := ?q1x2nv12) (by simp only [List.getElem?_toArray, List.getElem?_cons_zero, List.getElem?_cons_succ]; exact rfl) (by kernel_rfl) (by kernel_rfl) (by kernel_rfl) (fun _ _ _ h => h) (Or.inl ⟨by rfl, ?q1x2ny12⟩) (by assumption) ?_; (case q1x2ny12 => (intro w hSw; (try dsimp only at hSw); go_simp; (try with_reducible rfl))); (try simp only [Act.put, List.setIfInBounds_toArray, List.set_cons_zero, List.set_cons_succ]); refine wpAnyH_ready (rs := [13]) (by kernel_rfl) (by simp) ?_; refine AllReadyH.cons (by simp only [List.getElem?_toArray, List.getElem?_cons_zero, List.getElem?_cons_succ]; exact rfl) (fun K hK => ?_) AllReadyH.nil; go_simp; refine hK.out _ _ ?q1x2ns13 (fun hHeld => ?_); (case q1x2ns13 => ((try dsimp only); all_goals exact trivial)); clear hK K; (try simp only [Act.put, List.setIfInBounds_toArray, List.set_cons_zero, List.set_cons_succ]); refine wpAnyH_done (by kernel_rfl) ?_ _; refine NoPanic.normal ?_); rotate_left 1; (go_simp; (go_at_call 28; refine (cloneTm _ L _ (RowAt_drewN RK1.out 1) hsk).mono ?_; rintro e w2 ⟨x, rfl, hownx, hb2⟩; have hbD : Below w1.heap.size w1 w2 := ((Below_drewN (n := 1) (Below.refl w1.heap.size w1)).trans (hb2.mono (by simp))); have y1 := cell_below' hbD x1; have y0 := cell_lt y1; have y2 : w2.frozen? ⟨w.heap.size + 1, 1, none⟩ = false := (hbD.frozen (p := ⟨w.heap.size + 1, 1, none⟩) (cell_lt x1)).trans x2; have HO2 := Lib.hid (OwnLs_below HO1.out hbD); have HX := Lib.hid hownx; have HBD := Lib.hid hbD; have hz2 := hbD.size; obtain ⟨ax, cx, rfl, _⟩ := owns_shape hownx; clear hb2 hbD hownx); (try go_wp2_with fail); refine hK.out _ _ ?q1x3ns7 (fun hHeld => ?_); (case q1x3ns7 => ((try dsimp only); all_goals exact trivial)); clear hK K; (try simp only [Act.put, List.setIfInBounds_toArray, List.set_cons_zero, List.set_cons_succ]); refine wpAnyH_ready (rs := [5, 8]) (by kernel_rfl) (by simp) ?_; refine (AllReadyH.cons (by simp only [List.getElem?_toArray, List.getElem?_cons_zero, List.getElem?_cons_succ]; exact rfl) (fun K hK => ?_) (AllReadyH.cons (by simp only [List.getElem?_toArray, List.getElem?_cons_zero, List.getElem?_cons_succ]; exact rfl) (fun K hK => ?_) AllReadyH.nil)); (go_simp; refine hK.out _ _ ?q1x4ns5 (fun hHeld => ?_); (case q1x4ns5 => ((try dsimp only); all_goals exact trivial)); clear hK K; (try simp only [Act.put, List.setIfInBounds_toArray, List.set_cons_zero, List.set_cons_succ]); refine wpAnyH_ready (rs := [8]) (by kernel_rfl) (by simp) ?_; refine AllReadyH.cons (by simp only [List.getElem?_toArray, List.getElem?_cons_zero, List.getElem?_cons_succ]; exact rfl) (fun K hK => ?_) AllReadyH.nil; go_simp; refine hK.out _ _ ?q1x4ns8 (fun hHeld => ?_); (case q1x4ns8 => ((try dsimp only); all_goals exact trivial)); clear hK K; (try simp only [Act.put, List.setIfInBounds_toArray, List.set_cons_zero, List.set_cons_succ]); refine wpAnyH_ready (rs := [9]) (by kernel_rfl) (by simp) ?_; refine AllReadyH.cons (by simp only [List.getElem?_toArray, List.getElem?_cons_zero, List.getElem?_cons_succ]; exact rfl) (fun K hK => ?_) AllReadyH.nil; rw [if_pos (by rfl)]; (refine wp_append_at _ _ _ 22 rfl (w.heap.size + 1 + 1 + 1) 38 i0 (.slice none 0 0) 1 24 Try.underlying22 hi hi0 hi1 hi2 rfl (by decide) _ _ _ (by rfl) (HO2.out.2.1.alloc _) ⟨w2.heap.size, 0, none⟩ 1 1 [.slice ax L.length cx] (by rfl) rfl (cell_one_new _ _ _) (by intro u hu; simp at hu; subst hu; rfl) (by unfold maxLen; omega) (by omega) (by simp; omega) ?_; intro v' w3 happ hg3 hat; have hb3 := grown_below (B := w.heap.size + 1 + 1 + 1) ((Below.refl w2.heap.size w2).alloc (Nat.le_refl _) _) (by omega) HO2.out.2.1 hg3; have z1 := cell_below hb3 y1 (by omega); have z2 : w3.frozen? ⟨w.heap.size + 1, 1, none⟩ = false := (hb3.frozen (p := ⟨w.heap.size + 1, 1, none⟩) (by first | omega | (simp; done) | (simp; omega))).trans y2; have HA3 := Lib.hid happ; have HG3 := Lib.hid hg3; have HAt := Lib.hid hat; have HB3 := Lib.hid hb3; obtain ⟨a3, c3, rfl, _⟩ := owns_shape happ; clear happ hg3 hat hb3); refine hK.out _ _ ?q1x4ns9 (fun hHeld => ?_); (case q1x4ns9 => ((try dsimp only); all_goals exact trivial)); clear hK K; (try simp only [Act.put, List.setIfInBounds_toArray, List.set_cons_zero, List.set_cons_succ]); refine wpAnyH_take (i := 10) (v := ?q1x4nv10) (by simp only [List.getElem?_toArray, List.getElem?_cons_zero, List.getElem?_cons_succ]; exact rfl) (by kernel_rfl) (by kernel_rfl) (by kernel_rfl) (fun _ _ _ h => h) (Or.inl ⟨by rfl, ?q1x4ny10⟩) (by assumption) ?_; (case q1x4ny10 => (intro w hSw; (try dsimp only at hSw); go_simp; (try with_reducible rfl))); (try simp only [Act.put, List.setIfInBounds_toArray, List.set_cons_zero, List.set_cons_succ]); refine wpAnyH_take (i := 11) (v := ?q1x4nv11) (by simp only [List.getElem?_toArray, List.getElem?_cons_zero, List.getElem?_cons_succ]; exact rfl) (by kernel_rfl) (by kernel_rfl) (by kernel_rfl) (fun _ _ _ h => h) (Or.inl ⟨by rfl, ?q1x4ny11⟩) (by assumption) ?_; (case q1x4ny11 => (intro w hSw; (try dsimp only at hSw); go_simp; (try with_reducible rfl))); (try simp only [Act.put, List.setIfInBounds_toArray, List.set_cons_zero, List.set_cons_succ]); refine wpAnyH_take (i := 12) (v := ?q1x4nv12) (by simp only [List.getElem?_toArray, List.getElem?_cons_zero, List.getElem?_cons_succ]; exact rfl) (by kernel_rfl) (by kernel_rfl) (by kernel_rfl) (fun _ _ _ h => h) (Or.inl ⟨by rfl, ?q1x4ny12⟩) (by assumption) ?_; (case q1x4ny12 => (intro w hSw; (try dsimp only at hSw); go_simp; (try with_reducible rfl))); (try simp only [Act.put, List.setIfInBounds_toArray, List.set_cons_zero, List.set_cons_succ]); refine wpAnyH_ready (rs := [13]) (by kernel_rfl) (by simp) ?_; refine AllReadyH.cons (by simp only [List.getElem?_toArray, List.getElem?_cons_zero, List.getElem?_cons_succ]; exact rfl) (fun K hK => ?_) AllReadyH.nil; go_simp; refine hK.out _ _ ?q1x4ns13 (fun hHeld => ?_); (case q1x4ns13 => ((try dsimp only); all_goals exact trivial)); clear hK K; (try simp only [Act.put, List.setIfInBounds_toArray, List.set_cons_zero, List.set_cons_succ]); refine wpAnyH_done (by kernel_rfl) ?_ _; refine NoPanic.normal ?_); rotate_left 1; (go_simp; refine hK.out _ _ ?q1x5ns8 (fun hHeld => ?_); (case q1x5ns8 => ((try dsimp only); all_goals exact trivial)); clear hK K; (try simp only [Act.put, List.setIfInBounds_toArray, List.set_cons_zero, List.set_cons_succ]); refine wpAnyH_ready (rs := [5]) (by kernel_rfl) (by simp) ?_; refine AllReadyH.cons (by simp only [List.getElem?_toArray, List.getElem?_cons_zero, List.getElem?_cons_succ]; exact rfl) (fun K hK => ?_) AllReadyH.nil; go_simp; refine hK.out _ _ ?q1x5ns5 (fun hHeld => ?_); (case q1x5ns5 => ((try dsimp only); all_goals exact trivial)); clear hK K; (try simp only [Act.put, List.setIfInBounds_toArray, List.set_cons_zero, List.set_cons_succ]); refine wpAnyH_ready (rs := [9]) (by kernel_rfl) (by simp) ?_; refine AllReadyH.cons (by simp only [List.getElem?_toArray, List.getElem?_cons_zero, List.getElem?_cons_succ]; exact rfl) (fun K hK => ?_) AllReadyH.nil; rw [if_pos (by rfl)]; (refine wp_append_at _ _ _ 22 rfl (w.heap.size + 1 + 1 + 1) 38 i0 (.slice none 0 0) 1 24 Try.underlying22 hi hi0 hi1 hi2 rfl (by decide) _ _ _ (by rfl) (HO2.out.2.1.alloc _) ⟨w2.heap.size, 0, none⟩ 1 1 [.slice ax L.length cx] (by rfl) rfl (cell_one_new _ _ _) (by intro u hu; simp at hu; subst hu; rfl) (by unfold maxLen; omega) (by omega) (by simp; omega) ?_; intro v' w3 happ hg3 hat; have hb3 := grown_below (B := w.heap.size + 1 + 1 + 1) ((Below.refl w2.heap.size w2).alloc (Nat.le_refl _) _) (by omega) HO2.out.2.1 hg3; have z1 := cell_below hb3 y1 (by omega); have z2 : w3.frozen? ⟨w.heap.size + 1, 1, none⟩ = false := (hb3.frozen (p := ⟨w.heap.size + 1, 1, none⟩) (by first | omega | (simp; done) | (simp; omega))).trans y2; have HA3 := Lib.hid happ; have HG3 := Lib.hid hg3; have HAt := Lib.hid hat; have HB3 := Lib.hid hb3; obtain ⟨a3, c3, rfl, _⟩ := owns_shape happ; clear happ hg3 hat hb3); refine hK.out _ _ ?q1x5ns9 (fun hHeld => ?_); (case q1x5ns9 => ((try dsimp only); all_goals exact trivial)); clear hK K; (try simp only [Act.put, List.setIfInBounds_toArray, List.set_cons_zero, List.set_cons_succ]); refine wpAnyH_take (i := 10) (v := ?q1x5nv10) (by simp only [List.getElem?_toArray, List.getElem?_cons_zero, List.getElem?_cons_succ]; exact rfl) (by kernel_rfl) (by kernel_rfl) (by kernel_rfl) (fun _ _ _ h => h) (Or.inl ⟨by rfl, ?q1x5ny10⟩) (by assumption) ?_; (case q1x5ny10 => (intro w hSw; (try dsimp only at hSw); go_simp; (try with_reducible rfl))); (try simp only [Act.put, List.setIfInBounds_toArray, List.set_cons_zero, List.set_cons_succ]); refine wpAnyH_take (i := 11) (v := ?q1x5nv11) (by simp only [List.getElem?_toArray, List.getElem?_cons_zero, List.getElem?_cons_succ]; exact rfl) (by kernel_rfl) (by kernel_rfl) (by kernel_rfl) (fun _ _ _ h => h) (Or.inl ⟨by rfl, ?q1x5ny11⟩) (by assumption) ?_; (case q1x5ny11 => (intro w hSw; (try dsimp only at hSw); go_simp; (try with_reducible rfl))); (try simp only [Act.put, List.setIfInBounds_toArray, List.set_cons_zero, List.set_cons_succ]); refine wpAnyH_take (i := 12) (v := ?q1x5nv12) (by simp only [List.getElem?_toArray, List.getElem?_cons_zero, List.getElem?_cons_succ]; exact rfl) (by kernel_rfl) (by kernel_rfl) (by kernel_rfl) (fun _ _ _ h => h) (Or.inl ⟨by rfl, ?q1x5ny12⟩) (by assumption) ?_; (case q1x5ny12 => (intro w hSw; (try dsimp only at hSw); go_simp; (try with_reducible rfl))); (try simp only [Act.put, List.setIfInBounds_toArray, List.set_cons_zero, List.set_cons_succ]); refine wpAnyH_ready (rs := [13]) (by kernel_rfl) (by simp) ?_; refine AllReadyH.cons (by simp only [List.getElem?_toArray, List.getElem?_cons_zero, List.getElem?_cons_succ]; exact rfl) (fun K hK => ?_) AllReadyH.nil; go_simp; refine hK.out _ _ ?q1x5ns13 (fun hHeld => ?_); (case q1x5ns13 => ((try dsimp only); all_goals exact trivial)); clear hK K; (try simp only [Act.put, List.setIfInBounds_toArray, List.set_cons_zero, List.set_cons_succ]); refine wpAnyH_done (by kernel_rfl) ?_ _; refine NoPanic.normal ?_); rotate_left 1); rotate_left 2)
              all_goals (try go_wp2_with fail)
              all_goals
                have hz3 := HB3.out.size
                have HB4 : Hid (Below w.heap.size w w3) := (HB1.out.trans (HBD.out.mono (by have := HB1.out.size; omega))).trans (HB3.out.mono (by omega))
                have kp : ∀ b, b < w.heap.size + 1 + 1 + 1 → w3.heap[b]? = w1.heap[b]? := fun b hb => (HB3.out.block b hb).trans (HBD.out.block b (by omega))
                have e0 : w3.cell? ⟨w.heap.size, 0, none⟩ = _ := (World.cell?_of_block (w := w1) (w' := w3) (a := ⟨w.heap.size, 0, none⟩) (kp w.heap.size (by omega))).trans c0
                have e1 : w3.cell? ⟨w.heap.size, 1, none⟩ = _ := (World.cell?_of_block (w := w1) (w' := w3) (a := ⟨w.heap.size, 1, none⟩) (kp w.heap.size (by omega))).trans c1
                have e2 := (kp (w.heap.size + 1) (by omega)).trans HWk1.out
                have e3 := Seen_kept HS3.out (kp (w.heap.size + 1 + 1) (by omega))
                have e4 := OwnLs_push (L := L) HO1.out (by omega) HBD.out HX.out ((Below.refl _ _).alloc (Nat.le_refl _) _) HA3.out HG3.out HAt.out
                refine ⟨⟨k + 1, by omega, by go_num, by rw [HTF.out, List.length_append]; go_num, by rw [HTF.out, List.length_append]; omega, fun i hi => ?_, HB4.out.setCell (by simp) _, by simp; omega, cell_keep_set e0 (by simp), cell_keep_set e1 (by simp), ?_, _, V ++ [.slice ax L.length cx], blk_set e2 _, ?_⟩, by simp [intOf]; omega⟩
                · rcases (show i < k ∨ i = k by omega) with h | rfl
                  · exact HG.out i h
                  · rw [← HLk.out]; exact ⟨hAL.out, HOr.out⟩
                · rw [HTF.out]; exact Seen_kept e3 (Below.heap_setCell _ _ _ _ (by simp))
                · rw [HTL.out]
                  exact OwnLs_move e4 (fun b h1 h2 => Below.heap_setCell _ _ _ _ (by simp; omega))
            · have HN := Lib.hid (show ¬ WhMay (N : Int) LL from fun hm => hso (by rw [HLk.out]; exact (hm.2.2.2.1 k hlt).2))
              have HOr := Lib.hid hso
              clear hso
              go_wp2_with (go_at_call 26; refine (isSoTm _ L _ (RowAt_below RK.out HB.out) (by omega) false (Or.inr ⟨HOr.out, rfl⟩)).mono ?_; rintro e w1 ⟨rfl, hb1⟩; obtain ⟨hc1, hf1⟩ := bcell hb1)
              all_goals (go_ret2; exact WhOpPost.no HN.out (HB.out.trans (hb1.mono HB.out.size)))
      · have hge : ¬ (25 : Int) < 25 := by omega
        have hTT := Lib.hid (show T = LL.flatten by rw [HT.out, HZ.out, List.take_of_length_le (by rw [HL.out]; omega)])
        have hZZ := Lib.hid (show Z = LL by rw [HZ.out, List.take_of_length_le (by rw [HL.out]; omega)])
        obtain ⟨n, arr, cl, hh, hnn, hle, hnd⟩ := Seen_len HSn.out
        have hT1 : (tids T).length = T.length := by simp [tids]
        rw [hT1] at hle hnd
        have hrun := map_len hh 3
        subst hnn
        have hwm : WhMay (N : Int) LL ↔ arr.size = T.length := by
          rw [hnd]
          constructor
          · intro h; rw [hTT.out]; exact h.2.2.2.2
          · intro h; exact ⟨hnow.out.1, hnow.out.2, HL.out, HG.out, by rw [← hTT.out]; exact h⟩
        have HWM := Lib.hid hwm
        clear hwm hh hnd hT1
        rcases (show arr.size < T.length ∨ arr.size = T.length by omega) with h | h
        · have HN := Lib.hid (show ¬ WhMay (N : Int) LL from fun hm => by have := HWM.out.1 hm; omega)
          have h' : (arr.size : Int) < (T.length : Int) := by omega
          go_wp2
          all_goals (go_ret2; exact WhOpPost.no HN.out HB.out)
        · have HY := Lib.hid (HWM.out.2 h)
          have h' : ¬ (arr.size : Int) < (T.length : Int) := by omega
          clear h
          go_wp2
          all_goals (go_ret2; exact Or.inl ⟨w.heap.size + 1, vl, V, rfl, HY.out, by omega, by omega, HWk.out, by rw [← hZZ.out]; exact OwnLs_base HO.out (by omega), HB.out⟩)
end Go.Proofs.Ythgfiadfpgfjdaa
