/- usherref.EventLine: its contract. -/
import Derived.Test.YtnebijdifemicaaDoorRdec
import Derived.Test.YtnebijdifemicaaDoorWireE
import Derived.Test.YtnebijdifemicaaDoorSetRow
namespace Go.Proofs.YtnebijdifemicaaDoor
open Go.RowKit
theorem evF_ns (x : Ev) (g : Int) : (evF x 0 0 g).map FD.val = evNs x ++ (if x.kind = 4 then [g] else []) := by
  obtain ⟨k, a1, a2, a3, a4, a5, a6, a7⟩ := x
  simp only
  by_cases h1 : k = 1
  · subst h1; simp [evF, evNs]
  by_cases h2 : k = 2
  · subst h2; simp [evF, evNs]
  by_cases h3 : k = 3
  · subst h3; simp [evF, evNs]
  by_cases h4 : k = 4
  · subst h4; simp [evF, evNs]
  by_cases h5 : k = 5
  · subst h5; simp [evF, evNs]
  by_cases h6 : k = 6
  · subst h6; simp [evF, evNs]
  simp [evF, evNs, h1, h2, h3, h4, h5, h6]
theorem evF_get {x : Ev} {g : Int} {j : Nat} (h : j < (evNs x).length) : ((evF x 0 0 g).getD j FD.zero).val = (evNs x).getD j 0 := by
  have h1 := evF_ns x g
  have h2 : j < (evF x 0 0 g).length := by
    have := congrArg List.length h1
    simp only [List.length_map, List.length_append] at this
    omega
  rw [getD_eq h2, getD_eq h]
  have h3 := congrArg (fun l => l[j]?) h1
  simp only [List.getElem?_map, List.getElem?_append_left h, List.getElem?_eq_getElem h2, List.getElem?_eq_getElem h, Option.map_some] at h3
  exact Option.some.inj h3
theorem evF_cnt (x : Ev) (g : Int) : (evF x 0 0 g).length = (evNs x).length + (if x.kind = 4 then 1 else 0) := by
  have := congrArg List.length (evF_ns x g)
  rw [List.length_map, List.length_append] at this
  rw [this]
  split <;> rfl
theorem evNs_4 {x : Ev} (h : x.kind = 4) : (evNs x).length = 2 := by simp [evNs, h]
theorem spc (S : List UInt8) : (⟨S.toArray⟩ : ByteArray) ++ ⟨#[32]⟩ = ⟨(S ++ [32]).toArray⟩ := dec_app S [32]
set_option maxHeartbeats 8000000 in
set_option maxRecDepth 100000 in
theorem ref_EventLine {e : Ev} (he : EvCode e 0) (w : World) : Calls Tryd.prog 16 #[.agg (Ev.cells e).toArray] w fun e' w' => (∃ l : List UInt8, lineB e = l ++ [10] ∧ e' = .returned (.string ⟨l.toArray⟩)) ∧ Below w.heap.size w w' := by
  have hkd : 1 ≤ e.kind ∧ e.kind ≤ 7 := by
    rcases he with ⟨_, h⟩ | ⟨_, _, h⟩ | ⟨_, _, _, h⟩ | ⟨h, _⟩
    · omega
    · omega
    · omega
    · exact h
  have hin := evNs_in he
  have hnl := evNs_len e
  obtain ⟨k, hk⟩ := Int.eq_ofNat_of_zero_le (show 0 ≤ e.kind by omega)
  have HNum := Lib.hid (fun w => numbers_any e true w (by simp [hkd]))
  have hcn := evF_cnt e (gdI e.good)
  have hgt := fun j h => evF_get (x := e) (g := gdI e.good) (j := j) h
  obtain ⟨F, hF⟩ : ∃ F, F = evF e 0 0 (gdI e.good) := ⟨_, rfl⟩
  rw [← hF] at HNum hcn
  simp only [← hF] at hgt
  have h42 : k = 4 → (evNs e).length = 2 := fun h => evNs_4 (by omega)
  have hcn' : F.length = (evNs e).length + (if k = 4 then 1 else 0) := by
    rw [hcn]
    by_cases h : k = 4
    · rw [if_pos h, if_pos (by omega)]
    · rw [if_neg h, if_neg (by omega)]
  obtain ⟨N, hN⟩ : ∃ N, N = F.length := ⟨_, rfl⟩
  have hkn : e.kind.toNat = k := by rw [hk]; simp
  have hg4 : goodB e = if k = 4 then (if e.good then [32, 103, 111, 111, 100] else [32, 98, 97, 100]) else [] := by
    unfold goodB
    rw [hk]
    by_cases h : k = 4
    · rw [if_pos h, if_pos (by omega)]
    · rw [if_neg h, if_neg (by omega)]
  have hlb : lineB e = wordB k ++ (evNs e).flatMap spB ++ goodB e ++ [10] := by unfold lineB; rw [hkn]
  obtain ⟨E, hE⟩ : ∃ E, E = (Ev.cells e).toArray := ⟨_, rfl⟩
  rw [← hE]
  have HP := Lib.hid (show (w.alloc (.cells E 37 (0, 0))).heap[w.heap.size]? = some (.cells E 37 (0, 0)) from heap_at _ rfl)
  have HEJ := Lib.hid (show (Tryd.prog.info? 37).map (·.size) = some E.size by rw [hE]; show _ = some 8; kernel_rfl)
  have HE := Lib.hid hE
  have HIn := Lib.hid hin
  have HK := Lib.hid hk
  have HK7 := Lib.hid (show 1 ≤ k ∧ k ≤ 7 by omega)
  have HC := Lib.hid hcn'
  have H42 := Lib.hid h42
  have HG := Lib.hid hgt
  have HG4 := Lib.hid hg4
  have HLB := Lib.hid hlb
  have HNl := Lib.hid hnl
  have HNn := Lib.hid hN
  clear he hin hE hF hcn hcn' hgt hkd hkn hg4 hlb h42 hnl hk hN
  go_enter Tryd.func16, Tryd.ntmps16
  go_wp2_with (refine wpList_load_row rfl 37 (.tmp 1) rfl w.heap.size rfl 37 E (0, 0) _ HP.out Tryd.underlying37 rfl HEJ.out ?_)
  rw [HE.out]
  refine (HNum.out _).mono ?_
  rw [← HE.out]
  rintro e1 w1 ⟨v1, v2, v3, rfl, R1, R2, R3, hb1⟩
  have hww : Below w.heap.size w w1 := ((Below.refl _ _).alloc (Nat.le_refl _) _).trans (hb1.mono (by simp))
  have hp1 := blk_below hb1 HP.out (lt_of_block HP.out)
  obtain ⟨a2, c2, rfl, _⟩ := rows1 R2
  obtain ⟨a3, c3, rfl, _⟩ := rows1 R3
  obtain ⟨a1, c1, rfl, p1⟩ := rows1 R1
  rw [← HNn.out] at p1 ⊢
  have P1 := Lib.hid p1
  have HB1 := Lib.hid hww
  have HP1 := Lib.hid hp1
  have x0 : w1.cell? ⟨w.heap.size, 0, none⟩ = some (.int .i64 (k : Int)) := by rw [blk_cell hp1 0, HE.out, ← HK.out]; rfl
  clear R1 R2 R3 p1 hb1 hww hp1
  go_wp2_with fail
  refine (ref_EventWord HK7.out _).mono ?_
  rintro e2 w2 ⟨rfl, hb2⟩
  have HB2 := Lib.hid (HB1.out.trans (hb2.mono HB1.out.size))
  have HP2 := Lib.hid (blk_below hb2 HP1.out (lt_of_block HP1.out))
  have l1 := hb2.size
  have HX2 : Hid (N ≠ 0 → ∃ b off, a1 = some ⟨b, off, none⟩ ∧ b < w2.heap.size ∧ ∀ j, j < N → w2.cell? ⟨b, off + j, none⟩ = some (.int .i64 (F.getD j FD.zero).val)) := by
    intro h
    obtain ⟨b, o, h1, h2, h3⟩ := P1.out (by intro g; rw [HNn.out, g] at h; simp at h)
    exact ⟨b, o, h1, by omega, fun j hj => by rw [hb2.cell (p := ⟨b, o + j, none⟩) h2]; exact h3 j hj⟩
  clear x0 hb2 P1 HB1 HP1
  go_wp2
  go_loopw [7, 8] (fun s i wr => ∃ j : Nat, j ≤ N ∧ s = .string ⟨(wordB k ++ ((evNs e).take j).flatMap spB).toArray⟩ ∧ i = .int .i64 j ∧ Below w2.heap.size w2 wr) (fun _ i _ => N - (intOf i).toNat)
  case atStart => exact ⟨0, Nat.zero_le _, by rw [List.take_zero, List.flatMap_nil, List.append_nil], rfl, Below.refl _ _⟩
  case round =>
    obtain ⟨j, hj, rfl, rfl, hb⟩ := hrel
    have x0 : wr.cell? ⟨w.heap.size, 0, none⟩ = some (.int .i64 (k : Int)) := by rw [blk_cell (blk_below hb HP2.out (lt_of_block HP2.out)) 0, HE.out, ← HK.out]; rfl
    have HBr := Lib.hid hb
    have HPr := Lib.hid (blk_below hb HP2.out (lt_of_block HP2.out))
    have hln : (wordB k ++ ((evNs e).take j).flatMap spB).length ≤ 72 := by
      have h1 := word_len k
      have h2 := sps_len (L := (evNs e).take j) (fun m hm => HIn.out m (List.mem_of_mem_take hm))
      have h3 := HNl.out
      rw [List.length_take] at h2
      rw [List.length_append]; omega
    have hcs : (j < N ∧ k = 4 ∧ j = 2) ∨ (j < (evNs e).length ∧ j < N ∧ (k = 4 ∧ j ≠ 2 ∨ k ≠ 4)) ∨ j = N := by
      have h1 := HC.out
      rw [← HNn.out] at h1
      have h2 := H42.out
      by_cases h : k = 4
      · rw [if_pos h] at h1
        have := h2 h
        by_cases h5 : j = N
        · exact Or.inr (Or.inr h5)
        · by_cases h6 : j = 2
          · exact Or.inl ⟨by omega, h, h6⟩
          · exact Or.inr (Or.inl ⟨by omega, by omega, Or.inl ⟨h, h6⟩⟩)
      · rw [if_neg h] at h1
        by_cases h5 : j = N
        · exact Or.inr (Or.inr h5)
        · exact Or.inr (Or.inl ⟨by omega, by omega, Or.inr h⟩)
    obtain ⟨S, hS⟩ : ∃ S, S = wordB k ++ ((evNs e).take j).flatMap spB := ⟨_, rfl⟩
    rw [← hS] at hln ⊢
    have HS := Lib.hid hS
    clear hb hS
    rcases hcs with ⟨hlt, h4, h2⟩ | ⟨hle, hlt, hor⟩ | hjn
    · have hlt' : (j : Int) < (N : Int) := by omega
      have h22 : (evNs e).take (j + 1) = (evNs e).take j := by
        have h1 := H42.out h4
        rw [List.take_of_length_le (by omega), List.take_of_length_le (by omega)]
      have H22 := Lib.hid h22
      clear h22
      subst h4 h2
      go_wp2
      go_roundw
      case rel => exact ⟨2 + 1, by omega, by rw [H22.out]; exact congrArg (fun l : List UInt8 => Value.string ⟨l.toArray⟩) HS.out, by go_num, HBr.out⟩
      case measure => simp [intOf]; omega
    · have hN4 : N ≤ 4 := by
        have h1 := HC.out
        rw [← HNn.out] at h1
        have h2 := HNl.out
        split at h1 <;> omega
      have hlt' : (j : Int) < (N : Int) := by omega
      have j0 : (0 : Int) ≤ (j : Int) := by omega
      obtain ⟨b, o, rfl, hb2, hx⟩ := HX2.out (by omega)
      have x1 : wr.cell? ⟨b, o + j, none⟩ = some (.int .i64 ((evNs e).getD j 0)) := by rw [HBr.out.cell (p := ⟨b, o + j, none⟩) hb2, hx j hlt, HG.out j hle]
      have hnr := HIn.out ((evNs e).getD j 0) (by rw [getD_eq hle]; exact List.getElem_mem _)
      have htk : ((evNs e).take (j + 1)).flatMap spB = ((evNs e).take j).flatMap spB ++ spB ((evNs e).getD j 0) := by
        rw [List.take_succ_eq_append_getElem hle, List.flatMap_append, getD_eq hle]; simp
      obtain ⟨m, hm⟩ := Int.eq_ofNat_of_zero_le hnr.1
      rw [hm] at x1 hnr htk
      obtain ⟨S1, hS1⟩ : ∃ S1, S1 = S ++ [32] := ⟨_, rfl⟩
      obtain ⟨D, hD⟩ : ∃ D, D = Lib.decDigits m := ⟨_, rfl⟩
      obtain ⟨S2, hS2⟩ : ∃ S2, S2 = S1 ++ D := ⟨_, rfl⟩
      have hR := fun w => ref_Dec m w (by omega)
      rw [← hD] at hR
      have HR := Lib.hid hR
      have hdl := Lib.itoa_length_le (m : Int) (by omega) (by omega)
      rw [Lib.itoa_nonneg, ← hD] at hdl
      have hl0 : ¬ 9223372036854775807 < S.length + 1 := by omega
      have hl1 : S1.length = S.length + 1 := by rw [hS1]; simp
      have hl2 : ¬ 9223372036854775807 < S1.length + D.length := by omega
      have e1 : (⟨S.toArray⟩ : ByteArray) ++ ⟨#[32]⟩ = ⟨S1.toArray⟩ := by rw [hS1]; exact dec_app S [32]
      have e2 : (⟨S1.toArray⟩ : ByteArray) ++ ⟨D.toArray⟩ = ⟨S2.toArray⟩ := by rw [hS2]; exact dec_app S1 D
      have HT : Hid (S2 = wordB k ++ ((evNs e).take (j + 1)).flatMap spB) := by
        show _ = _
        rw [hS2, hS1, htk, HS.out, hD]
        unfold spB
        rw [Lib.itoa_nonneg]
        simp
      clear hR hD hS1 hS2 htk hm hx hdl hl1 hnr
      rcases hor with ⟨h4, h2⟩ | h4
      have hj2 : ((j : Int) == 2) = false := by simp; omega
      have hk4 : ((k : Int) == 4) = true := by simp; omega
      clear h4 h2
      rotate_left
      have hk4 : ((k : Int) == 4) = false := by simp; omega
      clear h4
      all_goals (
        go_wp2_with (go_at_call 30; refine (HR.out _).mono ?_; rintro e3 w3 ⟨rfl, hb3⟩; have HB3 := Lib.hid hb3; clear hb3)
        refine ⟨⟨j + 1, by omega, by rw [HT.out], by go_num, HBr.out.trans (HB3.out.mono HBr.out.size)⟩, ?_⟩
        simp [intOf]; omega)
    · have hge : ¬ (j : Int) < (N : Int) := by omega
      have hall : (evNs e).take j = evNs e := by
        have h1 := HC.out
        rw [← HNn.out] at h1
        exact List.take_of_length_le (by split at h1 <;> omega)
      have HSa : Hid (S = wordB k ++ (evNs e).flatMap spB) := by show _ = _; rw [HS.out, hall]
      have hgd : wr.cell? ⟨w.heap.size, 4, none⟩ = some (.bool e.good) := by rw [blk_cell HPr.out 4, HE.out]; rfl
      have hg4 := HG4.out
      obtain ⟨gd, hgdd⟩ : ∃ g, g = e.good := ⟨_, rfl⟩
      rw [← hgdd] at hgd hg4
      have HG5 := Lib.hid hg4
      have HBf := Lib.hid (HB2.out.trans (HBr.out.mono HB2.out.size))
      clear hgdd hg4 hall
      have hcs : (k = 4 ∧ gd = true) ∨ (k = 4 ∧ gd = false) ∨ ¬ k = 4 := by
        by_cases h : k = 4
        · cases gd
          · exact Or.inr (Or.inl ⟨h, rfl⟩)
          · exact Or.inl ⟨h, rfl⟩
        · exact Or.inr (Or.inr h)
      rcases hcs with ⟨rfl, rfl⟩ | ⟨rfl, rfl⟩ | h4
      · have hl0 : ¬ 9223372036854775807 < S.length + 5 := by omega
        have e1 : (⟨S.toArray⟩ : ByteArray) ++ ⟨#[32, 103, 111, 111, 100]⟩ = ⟨(S ++ [32, 103, 111, 111, 100]).toArray⟩ := dec_app S _
        go_wp2
        go_ret
        exact ⟨⟨_, by rw [HLB.out, HG5.out, HSa.out]; rfl, rfl⟩, HBf.out⟩
      · have hl0 : ¬ 9223372036854775807 < S.length + 4 := by omega
        have e1 : (⟨S.toArray⟩ : ByteArray) ++ ⟨#[32, 98, 97, 100]⟩ = ⟨(S ++ [32, 98, 97, 100]).toArray⟩ := dec_app S _
        go_wp2
        go_ret
        exact ⟨⟨_, by rw [HLB.out, HG5.out, HSa.out]; rfl, rfl⟩, HBf.out⟩
      · have hk4 : ((k : Int) == 4) = false := by simp; omega
        go_wp2
        go_ret
        exact ⟨⟨S, by rw [HLB.out, HG5.out, HSa.out, if_neg h4, List.append_nil], rfl⟩, HBf.out⟩
end Go.Proofs.YtnebijdifemicaaDoor
