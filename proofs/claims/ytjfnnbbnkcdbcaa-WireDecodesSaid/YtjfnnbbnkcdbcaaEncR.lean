/- usherref.EventBytes: its contract; the walk of WireEncodes. -/
import Derived.Test.YtjfnnbbnkcdbcaaEnc
namespace Go.Proofs.Ytjfnnbbnkcdbcaa
open Go.RowKit

set_option maxHeartbeats 8000000 in
set_option maxRecDepth 100000 in
theorem ref_EventBytes_bad (kd ky sl gn : Int) (gd : Bool) (rq bk wt : Int) (code : Int) (w : World) (h : EvCode ⟨kd, ky, sl, gn, gd, rq, bk, wt⟩ code) (hc : code ≠ 0) :
    Calls Try.prog 12 #[.agg #[.int .i64 kd, .int .i64 ky, .int .i64 sl, .int .i64 gn, .bool gd, .int .i64 rq, .int .i64 bk, .int .i64 wt]] w (EncPost w ⟨kd, ky, sl, gn, gd, rq, bk, wt⟩ code) := by
  have HC := Lib.hid h
  have e1 : (code == 0) = false := by simpa using hc
  have e2 : (code != 0) = true := by simpa using hc
  have HN := Lib.hid hc
  clear h hc
  go_enter Try.func12, Try.ntmps12
  go_wp2_with ((go_at_call 10; refine (ref_EventFault kd ky sl gn gd rq bk wt code _ HC.out).mono ?_; rintro e w1 ⟨rfl, hb1⟩; obtain ⟨hc1, hf1⟩ := bcell hb1; have hz1 := blt hb1; have hy1 := hb1.size; (try simp at hy1)))
  all_goals first | (refine bodyPost_ret (v := .tuple #[.slice none 0 0, .int .i64 code]) ?_ rfl ⟨_, rfl, by rw [if_neg HN.out]; exact RowAt_nil _ _, (by repeat (first | (with_reducible exact Below.refl _ _) | (with_reducible assumption) | (with_reducible refine Below.drew ?_) | (with_reducible refine Below_drewN ?_) | (with_reducible refine Below.alloc ?_ (by first | omega | (simp; done) | (simp; omega)) _) | (with_reducible refine Below.setCell ?_ (by first | omega | (simp; done) | (simp; omega)) _) | (with_reducible refine Below.trans ?_ (Below.mono (by assumption) (by first | omega | (simp; done) | (simp; omega))))))⟩; simp [results, Try.results12, go_sem, *]; done) | (exfalso; first | omega | (simp at *; omega) | (simp at *; done))

set_option maxHeartbeats 8000000 in
set_option maxRecDepth 100000 in
theorem ref_EventBytes_ok (kd ky sl gn : Int) (gd : Bool) (rq bk wt : Int) (w : World) (h : EvCode ⟨kd, ky, sl, gn, gd, rq, bk, wt⟩ 0) :
    Calls Try.prog 12 #[.agg #[.int .i64 kd, .int .i64 ky, .int .i64 sl, .int .i64 gn, .bool gd, .int .i64 rq, .int .i64 bk, .int .i64 wt]] w (EncPost w ⟨kd, ky, sl, gn, gd, rq, bk, wt⟩ 0) := by
  have HC := Lib.hid h
  have hyes : 1 ≤ kd ∧ kd ≤ 7 := by
    rcases h with ⟨_, h⟩ | ⟨_, _, h⟩ | ⟨_, _, _, h⟩ | ⟨h, _⟩
    · omega
    · omega
    · omega
    · exact h
  have hin : EvIn ⟨kd, ky, sl, gn, gd, rq, bk, wt⟩ := by
    rcases h with ⟨_, h⟩ | ⟨_, _, h⟩ | ⟨_, _, _, h⟩ | ⟨_, h, _⟩
    · omega
    · omega
    · omega
    · exact h
  obtain ⟨i0, ji, ji0, ji1, ji2⟩ := info_parts info_u8
  have HOK : Hid (true = decide (1 ≤ kd ∧ kd ≤ 7)) := by show true = _; simp [hyes]
  have HY := Lib.hid hyes
  have HIn : Hid (∀ f ∈ evF ⟨kd, ky, sl, gn, gd, rq, bk, wt⟩ 0 0 (gdI gd), 0 ≤ f.val ∧ f.val < 4294967296) := by
    intro f hf
    have h1 := evF_bd _ _ _ _ f hf
    have h2 := evF_ing (x := ⟨kd, ky, sl, gn, gd, rq, bk, wt⟩) hyes _ _ hin f hf
    unfold InF at h2
    omega
  have hlen := evF_len ⟨kd, ky, sl, gn, gd, rq, bk, wt⟩ 0 0 (gdI gd)
  have hkm : kd % 256 = kd := by omega
  clear h hyes hin
  go_enter Try.func12, Try.ntmps12
  go_wp2_with (go_at_call 10; refine (ref_EventFault kd ky sl gn gd rq bk wt 0 _ HC.out).mono ?_; rintro e wc ⟨rfl, hbc⟩; obtain ⟨hcc, hfc⟩ := bcell hbc; have hzc := blt hbc; have hyc := hbc.size; (try simp at hyc))
  have XC := Lib.hid (blk_below hbc (heap_at (w := w) (.cells #[.int .i64 kd, .int .i64 ky, .int .i64 sl, .int .i64 gn, .bool gd, .int .i64 rq, .int .i64 bk, .int .i64 wt] 23) rfl) (by first | omega | (simp; done) | (simp; omega)))
  have BC := Lib.hid (((Below.refl w.heap.size w).alloc (Nat.le_refl _) (.cells #[.int .i64 kd, .int .i64 ky, .int .i64 sl, .int .i64 gn, .bool gd, .int .i64 rq, .int .i64 bk, .int .i64 wt] 23)).trans (hbc.mono (by first | omega | (simp; done) | (simp; omega))))
  clear hbc hcc hfc
  refine (numbers_any ⟨kd, ky, sl, gn, gd, rq, bk, wt⟩ true _ HOK.out).mono ?_
  rintro e w1 ⟨v1, v2, v3, rfl, R1, R2, R3, hb1⟩
  have B1 := Lib.hid (BC.out.trans (hb1.mono BC.out.size))
  have x0 := Lib.hid (blk_below hb1 XC.out (by omega))
  have hs2 := hb1.size
  have m1 : w.heap.size < w1.heap.size := by omega
  obtain ⟨a2, c2, rfl, _⟩ := rows1 R2
  obtain ⟨a3, c3, rfl, _⟩ := rows1 R3
  obtain ⟨F, hF⟩ : ∃ F, F = evF ⟨kd, ky, sl, gn, gd, rq, bk, wt⟩ 0 0 (gdI gd) := ⟨_, rfl⟩
  have HFE := Lib.hid hF
  simp only at R1
  rw [← hF] at R1
  have HIn' : Hid (∀ f ∈ F, 0 ≤ f.val ∧ f.val < 4294967296) := by rw [hF]; exact HIn.out
  rw [← hF] at hlen
  obtain ⟨a1, c1, rfl, p1⟩ := rows1 R1
  have P1 := Lib.hid p1
  have d0 := blk_cell x0.out 0
  simp at d0
  clear hb1 R1 R2 R3 p1 HIn hF HC BC XC
  go_wp2_with fail
  go_loopw [9, 10] (fun b i wr => ∃ (k : Nat) (ab : Option Addr) (cb : Nat), k ≤ F.length ∧ b = .slice ab ((encV (F.map FD.val) k).length + 1) cb ∧ i = .int .i64 k ∧ Below w1.heap.size w1 wr ∧ wr.ownsRow w1.heap.size 5 1 (.slice ab ((encV (F.map FD.val) k).length + 1) cb) ((encV (F.map FD.val) k).length + 1) (flatB (kd :: encV (F.map FD.val) k))) (fun _ i _ => F.length - (intOf i).toNat)
  case atStart => exact ⟨0, _, _, Nat.zero_le _, rfl, rfl, (Below.refl _ _).alloc (Nat.le_refl _) _, own_lit (n := 1) (sz := 1) (cs := [.int .u8 kd]) (Nat.le_refl _) (heap_at _ rfl) (by unfold maxLen; omega) rfl⟩
  case round =>
    obtain ⟨k, ab, cb, hk, rfl, rfl, hb, hown⟩ := hrel
    have HB := Lib.hid hb
    have HO := Lib.hid hown
    have hL : (encV (F.map FD.val) k).length ≤ 15 := Nat.le_trans (encV_len _ (by intro v hv; obtain ⟨f, hf, rfl⟩ := List.mem_map.1 hv; have := HIn'.out f hf; omega) k) (by omega)
    have hsz := hb.size
    clear hown
    rcases (show k < F.length ∨ F.length = k by omega) with hlt | heq
    · have hlt' : (k : Int) < (F.length : Int) := by omega
      have p0 : (0 : Int) ≤ (k : Int) := by omega
      obtain ⟨b1, o1, rfl, hb1, q1⟩ := P1.out (by intro h; rw [h] at hlt; simp at hlt)
      obtain ⟨f, hf⟩ : ∃ f, f = F.getD k FD.zero := ⟨_, rfl⟩
      have hmem : f ∈ F := by rw [hf]; simp only [List.getD, List.getElem?_eq_getElem hlt, Option.getD_some]; exact List.getElem_mem _
      have a1 : wr.cell? ⟨b1, o1 + k, none⟩ = some (.int .i64 f.val) := by rw [hb.cell (p := ⟨b1, o1 + k, none⟩) hb1, q1 k hlt, hf]
      have hr := HIn'.out f hmem
      have HSn := Lib.hid (encV_snoc hlt hf)
      clear hf q1 hmem hb
      obtain ⟨fa, lo, hi, vl⟩ := f
      simp only at hr a1
      obtain ⟨n, rfl⟩ : ∃ n : Nat, vl = (n : Int) := ⟨vl.toNat, by omega⟩
      have HN : Hid (n < 34359738368) := by show n < _; omega
      clear hr
      go_wp2_with (go_at_call 34; refine (ref_numB n _ HN.out).mono ?_)
      rintro e w2 ⟨v2, rfl, hown2, hb2⟩
      obtain ⟨an, capn, rfl, hn1, _⟩ := owns_shape hown2
      have hp := encN_pos n
      cases an with
      | none => exact absurd (hn1 rfl).1 (by omega)
      | some an =>
      have OW := Lib.hid (own_keep HO.out hb2)
      have ON := Lib.hid (own_news hown2 rfl)
      have hL2 := encN_len 4 n (by simpa using HN.out)
      have HB1 := Lib.hid (HB.out.trans (hb2.mono HB.out.size))
      have hsz1 : w1.heap.size ≤ w2.heap.size := HB1.out.size
      clear hown2 hb2
      go_wp2_with (at_builtin; go_loud (refine wpList_append_own _ rfl _ _ 27 rfl w1.heap.size 5 i0 (.int .u8 0) 1 1 Try.underlying27 ji ji0 ji1 ji2 rfl (by decide) _ ((encV (F.map FD.val) k).length + 1) (flatB (kd :: encV (F.map FD.val) k)) rfl ?c5 an (encN n).length capn (flatB (encN n)) rfl ?c7 ?c6 ?c1 ?c2 ?c3 ?c4 ?_))
      case c5 => exact OW.out
      case c6 => exact ON.out
      case c7 => simp [flatB]
      case c1 => intro u hu; simp only [flatB, List.mem_map] at hu; obtain ⟨x, _, rfl⟩ := hu; rfl
      case c2 => unfold maxLen; omega
      case c3 => omega
      case c4 => exact hsz1
      intro v' w3 hown' hgrow _
      have hB1 := grown_below (Below.refl _ _) hsz1 OW.out hgrow
      obtain ⟨a', cap', rfl, _, _⟩ := owns_shape hown'
      have HB2 := Lib.hid (HB1.out.trans hB1)
      have HLn : Hid ((encV (F.map FD.val) k).length + 1 + (encN n).length = (encV (F.map FD.val) (k + 1)).length + 1) := by
        show _ = _
        have e := HSn.out
        simp only [Int.toNat_natCast] at e
        rw [e, List.length_append]; omega
      have HO2 : Hid (w3.ownsRow w1.heap.size 5 1 (.slice a' ((encV (F.map FD.val) k).length + 1 + (encN n).length) cap') ((encV (F.map FD.val) (k + 1)).length + 1) (flatB (kd :: encV (F.map FD.val) (k + 1)))) := by
        show World.ownsRow _ _ _ _ _ _ _
        have e := HSn.out
        simp only [Int.toNat_natCast] at e
        have := hown'
        rw [← flatB_app, List.cons_append, ← e] at this
        have hln := HLn.out
        rw [← hln]
        exact this
      clear hown' hgrow hB1
      go_wp2
      go_roundw
      case rel =>
        have hln := HLn.out
        have ho := HO2.out
        rw [hln] at ho
        refine ⟨k + 1, a', cap', by omega, ?_, by go_num, HB2.out, ho⟩
        simpa using hln
      case measure => simp [intOf]; omega
    · have hge : ¬ (k : Int) < (F.length : Int) := by omega
      have HBw := Lib.hid (B1.out.trans (hb.mono (by omega)))
      have HR : Hid (RowAt wr 1 (.slice ab ((encV (F.map FD.val) k).length + 1) cb) (byts (encE ⟨kd, ky, sl, gn, gd, rq, bk, wt⟩))) := by
        have := HO.out
        have e : kd :: encV (F.map FD.val) k = encE ⟨kd, ky, sl, gn, gd, rq, bk, wt⟩ := by
          unfold encE
          rw [encV_all _ (by simpa using heq), HFE.out]
        rw [e] at this
        exact own_byts this (by rw [← e]; rfl)
      clear hb
      go_wp2
      refine bodyPost_ret (v := .tuple #[.slice ab ((encV (F.map FD.val) k).length + 1) cb, .int .i64 0]) ?_ rfl ⟨_, rfl, by rw [if_pos rfl]; exact HR.out, HBw.out⟩
      simp [results, Try.results12, go_sem, *]

theorem prog_Encode (kd ky sl gn : Int) (gd : Bool) (rq bk wt : Int) (code : Int) (w : World) (h : EvCode ⟨kd, ky, sl, gn, gd, rq, bk, wt⟩ code) :
    Calls Try.prog 11 #[.agg #[.int .i64 kd, .int .i64 ky, .int .i64 sl, .int .i64 gn, .bool gd, .int .i64 rq, .int .i64 bk, .int .i64 wt]] w (EncPost w ⟨kd, ky, sl, gn, gd, rq, bk, wt⟩ code) := by
  by_cases hc : code = 0
  · subst hc
    cases gd with
    | true => exact prog_Encode_true kd ky sl gn rq bk wt w h
    | false => exact prog_Encode_false kd ky sl gn rq bk wt w h
  · exact prog_Encode_bad kd ky sl gn gd rq bk wt code w h hc
theorem ref_EventBytes (kd ky sl gn : Int) (gd : Bool) (rq bk wt : Int) (code : Int) (w : World) (h : EvCode ⟨kd, ky, sl, gn, gd, rq, bk, wt⟩ code) :
    Calls Try.prog 12 #[.agg #[.int .i64 kd, .int .i64 ky, .int .i64 sl, .int .i64 gn, .bool gd, .int .i64 rq, .int .i64 bk, .int .i64 wt]] w (EncPost w ⟨kd, ky, sl, gn, gd, rq, bk, wt⟩ code) := by
  by_cases hc : code = 0
  · subst hc; exact ref_EventBytes_ok kd ky sl gn gd rq bk wt w h
  · exact ref_EventBytes_bad kd ky sl gn gd rq bk wt code w h hc

set_option maxHeartbeats 4000000 in
set_option maxRecDepth 100000 in
theorem walk_WireEncodes (v0 : Value) (W : World) (o0 : Is_Event W v0) :
    Calls Try.prog 4 #[v0] W fun e w' => e = .returned (.bool true) ∧ Below W.heap.size W w' := by
  obtain ⟨kd, ky, sl, gn, gd, rq, bk, wt, rfl, _⟩ := o0
  obtain ⟨code, h⟩ := EvCode_total ⟨kd, ky, sl, gn, gd, rq, bk, wt⟩
  have H := Lib.hid h
  clear h
  obtain ⟨L, hL⟩ : ∃ L, L = (if code = 0 then encE ⟨kd, ky, sl, gn, gd, rq, bk, wt⟩ else []) := ⟨_, rfl⟩
  have HL := Lib.hid hL
  clear hL
  go_enter Try.func4, Try.ntmps4
  go_wp2_with (go_at_call 11; refine (prog_Encode kd ky sl gn gd rq bk wt code _ H.out).mono ?_)
  rintro e w1 ⟨v1, rfl, R1, hb1⟩
  have B1 := Lib.hid (((Below.refl W.heap.size W).alloc (Nat.le_refl _) (.cells #[.int .i64 kd, .int .i64 ky, .int .i64 sl, .int .i64 gn, .bool gd, .int .i64 rq, .int .i64 bk, .int .i64 wt] 23)).trans (hb1.mono (by first | omega | (simp; done) | (simp; omega))))
  have x0 := blk_below hb1 (heap_at (w := W) (.cells #[.int .i64 kd, .int .i64 ky, .int .i64 sl, .int .i64 gn, .bool gd, .int .i64 rq, .int .i64 bk, .int .i64 wt] 23) rfl) (by first | omega | (simp; done) | (simp; omega))
  have hs1 := hb1.size
  simp at hs1
  have d0 := blk_cell x0 0
  have d1 := blk_cell x0 1
  have d2 := blk_cell x0 2
  have d3 := blk_cell x0 3
  have d4 := blk_cell x0 4
  have d5 := blk_cell x0 5
  have d6 := blk_cell x0 6
  have d7 := blk_cell x0 7
  simp at d0 d1 d2 d3 d4 d5 d6 d7
  rw [← HL.out] at R1
  have RA := Lib.hid R1
  obtain ⟨a1, c1, rfl, _⟩ := RowAt_shape R1
  have m1 : W.heap.size < w1.heap.size := by omega
  clear hb1 R1 x0
  go_wp2_with (go_at_call 12; refine (ref_EventBytes kd ky sl gn gd rq bk wt code _ H.out).mono ?_)
  rintro e w2 ⟨v2, rfl, R2, hb2⟩
  have B2 := Lib.hid (B1.out.trans (hb2.mono (by omega)))
  have RA2 := Lib.hid (RowAt_below RA.out hb2)
  rw [← HL.out] at R2
  have RB := Lib.hid R2
  obtain ⟨a2, c2, rfl, _⟩ := RowAt_shape R2
  clear hb2 R2
  go_wp2_with (go_at_call 13; refine (sameBytes_yes _ _ _ _ RA2.out RB.out).mono ?_; rintro e w3 ⟨rfl, hb3⟩; have B3 := B2.out.trans (hb3.mono (by have := B2.out.size; omega)))
  all_goals first | (go_ret; exact ⟨rfl, B3⟩) | (exfalso; first | omega | (simp at *; omega) | (simp at *; done))
end Go.Proofs.Ytjfnnbbnkcdbcaa
