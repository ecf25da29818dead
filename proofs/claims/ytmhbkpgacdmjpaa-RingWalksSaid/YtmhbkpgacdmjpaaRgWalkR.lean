/- usherref.Walked. -/
import Derived.Test.YtmhbkpgacdmjpaaRgWalkL
import Derived.Test.YtmhbkpgacdmjpaaRgW
namespace Go.Proofs.Ytmhbkpgacdmjpaa
open Go.RowKit
theorem info_rbool : (Try.prog.info? 4).map (fun i => (i.zero, i.size, i.bytes)) = some (some (.bool false), 1, 1) := by kernel_rfl
def WalkPost (w : World) (L : List Int) (c : Int) (e : Ending) (w' : World) : Prop := ∃ v, e = .returned (.tuple #[v, .int .i64 c]) ∧ RowNew w.heap.size w' 1 v (L.map fun x => [Value.int .i64 x]) ∧ Below w.heap.size w w'
theorem WalkPost.nil {w w' : World} {c : Int} (hb : Below w.heap.size w w') : WalkPost w [] c (.returned (.tuple #[.slice none 0 0, .int .i64 c])) w' := ⟨_, rfl, RowNew_nil _ _ _, hb⟩
theorem WalkPost.own {w w' : World} {B n : Nat} {c : Int} {v : Value} {L : List Int} (hown : w'.ownsRow B 3 1 v n (L.map (Value.int .i64))) (hn : L.length = n) (hB : w.heap.size ≤ B) (hb : Below w.heap.size w w') : WalkPost w L c (.returned (.tuple #[v, .int .i64 c])) w' := by
  refine ⟨v, rfl, RowNew_mono (RowNew_of_owns (e := 3) (L := L.map fun x => [Value.int .i64 x]) ?_ ((List.length_map _).trans hn) ?_) hB, hb⟩
  · rw [show (L.map fun x => [Value.int .i64 x]).flatten = L.map (Value.int .i64) from ?_]
    · exact hown
    · clear hown hn
      induction L with
      | nil => rfl
      | cons x L ih => simp only [List.map_cons, List.flatten_cons] at ih ⊢; rw [ih]; rfl
  · intro c hc
    simp only [List.mem_map] at hc
    obtain ⟨x, _, rfl⟩ := hc
    rfl
/-- Who has come. -/
def seenL (out : List Int) : List Bool := (List.range 12).map fun b : Nat => decide ((b : Int) ∈ out)
theorem seenL_get (out : List Int) {m : Nat} (h : m < 12) : (seenL out)[m]? = some (decide ((m : Int) ∈ out)) := by simp [seenL, h]
theorem seenL_len (out : List Int) : (seenL out).length = 12 := by simp [seenL]
theorem seenL_add (out : List Int) {m : Nat} (h : m < 12) : seenL (out ++ [(m : Int)]) = (seenL out).set m true := by
  apply List.ext_getElem?
  intro j
  rw [List.getElem?_set]
  by_cases hj : j < 12
  · rw [seenL_get _ hj]
    by_cases hmj : m = j
    · subst hmj
      rw [if_pos rfl, if_pos (by rw [seenL_len]; exact hj)]; simp
    · rw [if_neg hmj, seenL_get _ hj]
      have : ¬ (j : Int) = (m : Int) := by omega
      simp [this]
  · rw [if_neg (by omega), List.getElem?_eq_none (by rw [seenL_len]; omega), List.getElem?_eq_none (by rw [seenL_len]; omega)]
theorem seenL_0 : (seenL []).map Value.bool = List.replicate 12 (.bool false) := by simp [seenL]; rfl
theorem made_bool12 : (madeCells #[Value.bool false] 12).toList = List.replicate 12 (.bool false) := (madeCells_toList #[Value.bool false] 12 (by decide)).trans rfl
def pT (a : Int) (t : Nat) (s : Sp) : Bool := if t = 0 then decide (a ≤ s.hash) else decide (s.hash < a)
def accT (X : List Sp) (a : Int) : Nat → List Sp
  | 0 => []
  | t + 1 => accT X a t ++ X.filter (pT a t)
theorem accT_2 (X : List Sp) (a : Int) : walkL (accT X a 2) = walkAt X a := by
  unfold walkAt accT accT accT
  rfl
theorem accT_len (X : List Sp) (a : Int) (t : Nat) : (accT X a t).length ≤ t * X.length := by
  induction t with
  | zero => simp [accT]
  | succ t ih =>
    rw [accT, List.length_append, Nat.add_mul]
    have := List.length_filter_le (pT a t) X
    omega
theorem acc_yes {X : List Sp} {a : Int} {t k : Nat} {s : Sp} (hs : s = X.getD k Sp.zero) (hk : k < X.length) (h : pT a t s = true) (A : List Sp) : A ++ (X.take (k + 1)).filter (pT a t) = (A ++ (X.take k).filter (pT a t)) ++ [s] := by
  rw [List.take_succ_eq_append_getElem hk, List.filter_append]
  have e : X[k] = s := by rw [hs]; simp [List.getD, hk]
  simp [e, h]
theorem acc_no {X : List Sp} {a : Int} {t k : Nat} {s : Sp} (hs : s = X.getD k Sp.zero) (hk : k < X.length) (h : pT a t s = false) (A : List Sp) : A ++ (X.take (k + 1)).filter (pT a t) = A ++ (X.take k).filter (pT a t) := by
  rw [List.take_succ_eq_append_getElem hk, List.filter_append]
  have e : X[k] = s := by rw [hs]; simp [List.getD, hk]
  simp [e, h]
theorem own_low {wr w' : World} {B S n c m : Nat} {t : TypeId} {cs : List Value} (h : wr.ownsRow S t m (.slice (some ⟨S, 0, none⟩) n c) n cs) (hb : Below B wr w') (hS : S < B) : w'.ownsRow S t m (.slice (some ⟨S, 0, none⟩) n c) n cs := by
  obtain ⟨h1, h2 | ⟨g, cap, cur, h3, h4, h5, h6⟩⟩ := h
  · exact ⟨h1, Or.inl h2⟩
  · refine ⟨h1, Or.inr ⟨g, cap, cur, h3, h4, (hb.block _ ?_).trans h5, h6⟩⟩
    injection h3 with e1 _ _
    injection e1 with e1
    injection e1 with e1
    omega
/-- What holds at the heads of the loops: L has come. -/
def WkRel (w wr : World) (s o sn : Value) (S : Nat) (L : List Sp) : Prop := Below w.heap.size w wr ∧ w.heap.size < S ∧ wr.cell? ⟨w.heap.size, 0, none⟩ = some s ∧ sn = .slice (some ⟨S, 0, none⟩) 12 12 ∧ wr.ownsRow S 4 1 sn 12 ((seenL (walkL L)).map Value.bool) ∧ wr.ownsRow (S + 1) 3 1 o (walkL L).length ((walkL L).map (Value.int .i64))

set_option maxHeartbeats 4000000 in
set_option maxRecDepth 100000 in
theorem ref_RgWalk (v : Value) (X : List Sp) (w : World) (key : Int) (L : List Int) (c : Int) (r : RowAt w 2 v (X.map Sp.cells)) (ha : WalkAns X key L c) : Calls Try.prog 16 #[.agg #[v], .int .i64 key] w (WalkPost w L c) := by
  obtain ⟨i0, hi, hi0, hi1, hi2⟩ := info_parts info_rint
  obtain ⟨j0, hj, hj0, hj1, hj2⟩ := info_parts info_rbool
  have R := Lib.hid r
  obtain ⟨a, cp, rfl, _, m1, _, p1⟩ := RowAt_fn Sp.zero r
  have P1 := Lib.hid p1
  have HA := Lib.hid ha
  clear r ha p1 m1
  go_enter Try.func16, Try.ntmps16
  go_wp2_with fail
  refine (ref_RingWeights _ X _ (RowAt_alloc R.out _)).mono ?_
  rintro e w1 ⟨vw, rfl, hv, hb⟩
  have HB := Lib.hid (((Below.refl w.heap.size w).alloc (Nat.le_refl _) _).trans (hb.mono (by simp)))
  have hz1 := hb.size
  simp at hz1
  have k0 : w.heap.size < w1.heap.size := by omega
  have g0 : w1.cell? ⟨w.heap.size, 0, none⟩ = some (.slice a X.length cp) := by rw [hb.cell (p := ⟨w.heap.size, 0, none⟩) (by first | omega | (simp; done) | (simp; omega))]; go_simp
  have HV := Lib.hid hv
  clear hb hv
  rcases HA.out with ⟨hm, rfl, rfl⟩ | ⟨hm, hs, rfl, rfl⟩ | ⟨K, hm, rfl, hK, rfl, rfl⟩
  · rcases HV.out with ⟨h, _⟩ | ⟨_, rfl⟩
    · exact absurd h hm
    clear hm HA HV
    go_wp2
    all_goals (go_ret2; exact WalkPost.nil HB.out)
  · rcases HV.out with ⟨_, g, rfl, _⟩ | ⟨h, _⟩
    rotate_left
    · exact absurd hm h
    clear hm HA HV
    go_wp2_with fail
    refine (ref_KeyAt_bad key _ (by omega)).mono ?_
    rintro e w2 ⟨rfl, hb2⟩
    have HB2 := Lib.hid (HB.out.trans (hb2.mono HB.out.size))
    clear hb2
    go_wp2
    all_goals (go_ret2; exact WalkPost.nil HB2.out)
  · rcases HV.out with ⟨_, g, rfl, _⟩ | ⟨h, _⟩
    rotate_left
    · exact absurd hm h
    have hlX := hm.len
    have HM := Lib.hid hm
    clear hm HA HV
    go_wp2_with fail
    refine (ref_KeyAt_ok K _ hK).mono ?_
    rintro e w2 ⟨rfl, hb2⟩
    have hz2 := hb2.size
    have HB2 := Lib.hid (HB.out.trans (hb2.mono HB.out.size))
    have g0 := cell_below hb2 g0 k0
    clear hb2 HB
    obtain ⟨at_, hat⟩ : ∃ a : Nat, a = mix4 (K % 256) (K / 256 % 256) (K / 65536 % 256) (K / 16777216) := ⟨_, rfl⟩
    rw [← hat]
    have HAT := Lib.hid (show keyH K = (at_ : Int) by rw [hat]; rfl)
    clear hat
    go_wp2_with ((at_make; go_loud (refine wpList_make_full _ rfl _ _ 59 rfl w2.heap.size 4 j0 (.bool false) 1 Try.underlying59 hj hj0 hj1 .i64 .i64 12 12 12 rfl rfl rfl rfl ?c1 ?c2 ?c3 ?_)))
    case c1 => rw [hj2]; omega
    case c2 => unfold maxLen; omega
    case c3 => simp
    intro w3 hown hgrow
    rw [show (madeCells #[.bool false] (12 * 1)).toList = (seenL (walkL [])).map Value.bool from made_bool12.trans seenL_0.symm] at hown
    have B0 : Below w2.heap.size w2 w3 := (Below.refl w2.heap.size _).grown hgrow (Nat.le_refl _) (fun k hk => by cases hk)
    have HB3 := Lib.hid (HB2.out.trans (B0.mono HB2.out.size))
    have g0 := cell_below B0 g0 (by omega)
    have HO := Lib.hid hown
    have hz3 := B0.size
    have hk2 : w.heap.size < w2.heap.size := by omega
    clear hown hgrow B0 HB2
    obtain ⟨S, hS⟩ : ∃ S, S = w2.heap.size := ⟨_, rfl⟩
    rw [← hS] at HO hk2 hz3 ⊢
    clear hS
    go_wp2_with fail
    go_loopw [10, 11] (fun o t wr => ∃ n : Nat, n ≤ 2 ∧ t = .int .i64 n ∧ S < wr.heap.size ∧ WkRel w wr (.slice a X.length cp) o (.slice (some ⟨S, 0, none⟩) 12 12) S (accT X at_ n)) (fun _ t _ => 2 - (intOf t).toNat)
    case atStart => exact ⟨0, Nat.zero_le _, rfl, (HO.out.lt _ rfl).2, HB3.out, hk2, g0, rfl, HO.out, World.ownsRow_nil _ _ _ _⟩
    case round =>
      clear HB3 g0 HO hz3
      obtain ⟨n, hn, rfl, hz, hb, _, s0, _, ho1, ho2⟩ := hrel
      obtain ⟨oa, oc, rfl, _⟩ := owns_shape ho2
      have HB := Lib.hid hb
      have H1 := Lib.hid ho1
      have H2 := Lib.hid ho2
      clear hb ho1 ho2
      rcases (show n = 0 ∨ n = 1 ∨ n = 2 by omega) with rfl | rfl | rfl
      rotate_right
      · go_wp2
        all_goals (go_ret2; rw [HAT.out, ← accT_2]; exact WalkPost.own H2.out rfl (by omega) HB.out)
      · rw [show ((0 : Nat) : Int) = 0 from rfl]
        have e0 : accT X at_ 0 ++ (X.take 0).filter (pT at_ 0) = accT X at_ 0 := by simp
        go_wp2_with fail
        go_loopw [10, 12] (fun o i wr => ∃ k : Nat, k ≤ X.length ∧ i = .int .i64 k ∧ S < wr.heap.size ∧ WkRel w wr (.slice a X.length cp) o (.slice (some ⟨S, 0, none⟩) 12 12) S (accT X at_ 0 ++ (X.take k).filter (pT at_ 0))) (fun _ i _ => X.length - (intOf i).toNat)
        case atStart => exact ⟨0, Nat.zero_le _, rfl, hz, by rw [e0]; exact ⟨HB.out, hk2, s0, rfl, H1.out, H2.out⟩⟩
        case round =>
          clear HB H1 H2 s0 hz e0
          obtain ⟨k, hk, rfl, hz, hb, _, s0, _, ho1, ho2⟩ := hrel
          obtain ⟨oa, oc, rfl, _⟩ := owns_shape ho2
          have HB := Lib.hid hb
          have H1 := Lib.hid ho1
          have H2 := Lib.hid ho2
          have hlw := walkL_len (accT X at_ 0 ++ (X.take k).filter (pT at_ 0))
          rw [List.length_append] at hlw
          have hla := accT_len X at_ 0
          have hlf := List.length_filter_le (pT at_ 0) (X.take k)
          rw [List.length_take] at hlf
          have hlw : (walkL (accT X at_ 0 ++ (X.take k).filter (pT at_ 0))).length ≤ 2000 := by omega
          clear hla hlf ho1 ho2
          rcases (show k < X.length ∨ X.length = k by omega) with hlt | heq
          · have hlt' : (k : Int) < (X.length : Int) := by omega
            have p0 : (0 : Int) ≤ (k : Int) := by omega
            obtain ⟨b1, o1, rfl, hb1, q1⟩ := P1.out (by intro h; rw [h] at hlt; simp at hlt)
            have a0 := q1 k 0 hlt (by omega)
            have a1 := q1 k 1 hlt (by omega)
            obtain ⟨s, hs⟩ : ∃ s, s = X.getD k Sp.zero := ⟨_, rfl⟩
            have hrg : 0 ≤ s.backend ∧ s.backend ≤ 11 := by rw [hs]; exact HM.out.1 _ (getD_mem X _ hlt)
            rw [← hs] at a0 a1
            have HS := Lib.hid hs
            obtain ⟨h0, m⟩ := s
            simp only [Sp.cells, List.getElem?_cons_zero, List.getElem?_cons_succ, Nat.add_zero] at a0 a1 hrg
            have a0 := cell_below hb a0 hb1
            have a1 := cell_below hb a1 hb1
            obtain ⟨m, rfl⟩ := Int.eq_ofNat_of_zero_le hrg.1
            have hm12 : m < 12 := by omega
            have hm12' : (m : Int) < 12 := by omega
            clear hs q1 hb hrg
            rcases (show (at_ : Int) ≤ h0 ∨ ¬ (at_ : Int) ≤ h0 by omega) with hh | hh
            · skip
              have HY := Lib.hid (acc_yes (t := 0) (a := (at_ : Int)) HS.out hlt (by simp only [pT]; simp; omega) (accT X at_ 0))
              obtain ⟨sb, hsb⟩ : ∃ sb, sb = decide ((m : Int) ∈ walkL (accT X at_ 0 ++ (X.take k).filter (pT at_ 0))) := ⟨_, rfl⟩
              have e1 : wr.cell? ⟨S, m, none⟩ = some (.bool sb) := by rw [H1.out.cellAt m (by omega), List.getElem?_map, seenL_get _ hm12, hsb]; rfl
              have e2 : wr.frozen? ⟨S, m, none⟩ = false := H1.out.frozenAt m
              have HSB := Lib.hid hsb
              clear hsb
              cases sb with
              | true =>
                have HW := Lib.hid (show walkL (accT X at_ 0 ++ (X.take (k + 1)).filter (pT at_ 0)) = walkL (accT X at_ 0 ++ (X.take k).filter (pT at_ 0)) by rw [HY.out, walkL_snoc]; unfold wkStep; rw [if_pos (by simpa using HSB.out.symm)])
                go_wp2
                go_roundw
                case measure => simp [intOf]; omega
                case rel => exact ⟨k + 1, by omega, by go_num, by simp; omega, HB.out.alloc (by omega) _, hk2, cell_alloc _ s0, rfl, by rw [HW.out]; exact H1.out.alloc _, by rw [HW.out]; exact H2.out.alloc _⟩
              | false =>
                have HW := Lib.hid (show walkL (accT X at_ 0 ++ (X.take (k + 1)).filter (pT at_ 0)) = walkL (accT X at_ 0 ++ (X.take k).filter (pT at_ 0)) ++ [(m : Int)] by rw [HY.out, walkL_snoc]; unfold wkStep; rw [if_neg (by simpa using HSB.out.symm)])
                obtain ⟨Lk, hLk⟩ : ∃ Lk, Lk = walkL (accT X at_ 0 ++ (X.take k).filter (pT at_ 0)) := ⟨_, rfl⟩
                rw [← hLk] at H1 H2 HW hlw ⊢
                have B5 := Lib.hid ((HB.out.setCell (p := ⟨S, m, none⟩) (by simp; omega) (.bool true)).alloc (by simp; have := HB.out.size; omega) (.cells #[.int .i64 h0, .int .i64 (m : Int)] 45))
                have O5 := Lib.hid (((H1.out.stored m (.bool true)).1).alloc (.cells #[.int .i64 h0, .int .i64 (m : Int)] 45))
                have Q5 := Lib.hid ((own_set_ne (p := ⟨S, m, none⟩) H2.out (by show S < S + 1; omega) (.bool true)).alloc (.cells #[.int .i64 h0, .int .i64 (m : Int)] 45))
                have s5 := cell_alloc (.cells #[.int .i64 h0, .int .i64 (m : Int)] 45) (cell_keep_set (p := ⟨S, m, none⟩) (u := .bool true) s0 (by show w.heap.size ≠ S; omega))
                clear hLk HY HSB HB H1 H2
                go_wp2_with (at_builtin; go_loud (refine wpList_append_own _ rfl _ _ 35 rfl (S + 1) 3 i0 (.int .i64 0) 1 8 Try.underlying35 hi hi0 hi1 hi2 rfl (by decide) _ _ _ rfl (Q5.out.alloc _) ⟨wr.heap.size + 1, 0, none⟩ 1 1 [.int .i64 (m : Int)] rfl rfl (news_lit (by simp) [.int .i64 (m : Int)] 3) ?c1 ?c2 ?c3 ?c4 ?_))
                case c1 => first | rfl | (intro u hu; simp at hu; subst hu; rfl)
                case c2 => unfold maxLen; omega
                case c3 => omega
                case c4 => first | omega | (simp; done) | (simp; omega)
                intro v' w6 hown' hgrow _
                have hb6 := grown_below (B := S + 1) ((Below.refl _ ((wr.setCell ⟨S, m, none⟩ (.bool true)).alloc (.cells #[.int .i64 h0, .int .i64 (m : Int)] 45))).alloc (Nat.le_refl _) _) (by simp; omega) Q5.out hgrow
                have hz6 := hb6.size
                simp at hz6
                obtain ⟨a6, c6, rfl, _⟩ := owns_shape hown'
                have HO6 := Lib.hid hown'
                have HP6 := Lib.hid (own_low O5.out hb6 (by show S < S + 1; omega))
                have HB6 := Lib.hid (B5.out.trans (hb6.mono (by omega)))
                have s6 := cell_below hb6 s5 (by omega)
                clear hown' hgrow hb6 Q5 O5 B5 s5
                go_wp2
                go_roundw
                case measure => simp [intOf]; omega
                case rel =>
                  refine ⟨k + 1, by omega, by go_num, by omega, HB6.out, hk2, s6, rfl, ?_, ?_⟩
                  · rw [HW.out, seenL_add _ hm12, List.map_set]; exact HP6.out
                  · rw [HW.out, List.length_append, List.map_append]; exact HO6.out
            · skip
              have HN := Lib.hid (acc_no (t := 0) (a := (at_ : Int)) HS.out hlt (by simp only [pT]; simp; omega) (accT X at_ 0))
              go_wp2
              go_roundw
              case measure => simp [intOf]; omega
              case rel => exact ⟨k + 1, by omega, by go_num, by simp; omega, HB.out.alloc (by omega) _, hk2, cell_alloc _ s0, rfl, by rw [HN.out]; exact H1.out.alloc _, by rw [HN.out]; exact H2.out.alloc _⟩
          · have hge : ¬ (k : Int) < (X.length : Int) := by omega
            have e1 := Lib.hid (show accT X at_ 0 ++ (X.take k).filter (pT at_ 0) = accT X at_ (0 + 1) by rw [List.take_of_length_le (by omega)]; rfl)
            clear hb heq
            go_wp2
            go_roundw
            case measure => simp [intOf]
            case rel => exact ⟨0 + 1, by omega, by go_num, hz, by rw [← e1.out]; exact ⟨HB.out, hk2, s0, rfl, H1.out, H2.out⟩⟩
      · rw [show ((1 : Nat) : Int) = 1 from rfl]
        have e0 : accT X at_ 1 ++ (X.take 0).filter (pT at_ 1) = accT X at_ 1 := by simp
        go_wp2_with fail
        go_loopw [10, 12] (fun o i wr => ∃ k : Nat, k ≤ X.length ∧ i = .int .i64 k ∧ S < wr.heap.size ∧ WkRel w wr (.slice a X.length cp) o (.slice (some ⟨S, 0, none⟩) 12 12) S (accT X at_ 1 ++ (X.take k).filter (pT at_ 1))) (fun _ i _ => X.length - (intOf i).toNat)
        case atStart => exact ⟨0, Nat.zero_le _, rfl, hz, by rw [e0]; exact ⟨HB.out, hk2, s0, rfl, H1.out, H2.out⟩⟩
        case round =>
          clear HB H1 H2 s0 hz e0
          obtain ⟨k, hk, rfl, hz, hb, _, s0, _, ho1, ho2⟩ := hrel
          obtain ⟨oa, oc, rfl, _⟩ := owns_shape ho2
          have HB := Lib.hid hb
          have H1 := Lib.hid ho1
          have H2 := Lib.hid ho2
          have hlw := walkL_len (accT X at_ 1 ++ (X.take k).filter (pT at_ 1))
          rw [List.length_append] at hlw
          have hla := accT_len X at_ 1
          have hlf := List.length_filter_le (pT at_ 1) (X.take k)
          rw [List.length_take] at hlf
          have hlw : (walkL (accT X at_ 1 ++ (X.take k).filter (pT at_ 1))).length ≤ 2000 := by omega
          clear hla hlf ho1 ho2
          rcases (show k < X.length ∨ X.length = k by omega) with hlt | heq
          · have hlt' : (k : Int) < (X.length : Int) := by omega
            have p0 : (0 : Int) ≤ (k : Int) := by omega
            obtain ⟨b1, o1, rfl, hb1, q1⟩ := P1.out (by intro h; rw [h] at hlt; simp at hlt)
            have a0 := q1 k 0 hlt (by omega)
            have a1 := q1 k 1 hlt (by omega)
            obtain ⟨s, hs⟩ : ∃ s, s = X.getD k Sp.zero := ⟨_, rfl⟩
            have hrg : 0 ≤ s.backend ∧ s.backend ≤ 11 := by rw [hs]; exact HM.out.1 _ (getD_mem X _ hlt)
            rw [← hs] at a0 a1
            have HS := Lib.hid hs
            obtain ⟨h0, m⟩ := s
            simp only [Sp.cells, List.getElem?_cons_zero, List.getElem?_cons_succ, Nat.add_zero] at a0 a1 hrg
            have a0 := cell_below hb a0 hb1
            have a1 := cell_below hb a1 hb1
            obtain ⟨m, rfl⟩ := Int.eq_ofNat_of_zero_le hrg.1
            have hm12 : m < 12 := by omega
            have hm12' : (m : Int) < 12 := by omega
            clear hs q1 hb hrg
            rcases (show (at_ : Int) ≤ h0 ∨ ¬ (at_ : Int) ≤ h0 by omega) with hh | hh
            · skip
              have HN := Lib.hid (acc_no (t := 1) (a := (at_ : Int)) HS.out hlt (by simp only [pT]; simp; omega) (accT X at_ 1))
              go_wp2
              go_roundw
              case measure => simp [intOf]; omega
              case rel => exact ⟨k + 1, by omega, by go_num, by simp; omega, HB.out.alloc (by omega) _, hk2, cell_alloc _ s0, rfl, by rw [HN.out]; exact H1.out.alloc _, by rw [HN.out]; exact H2.out.alloc _⟩
            · skip
              have HY := Lib.hid (acc_yes (t := 1) (a := (at_ : Int)) HS.out hlt (by simp only [pT]; simp; omega) (accT X at_ 1))
              obtain ⟨sb, hsb⟩ : ∃ sb, sb = decide ((m : Int) ∈ walkL (accT X at_ 1 ++ (X.take k).filter (pT at_ 1))) := ⟨_, rfl⟩
              have e1 : wr.cell? ⟨S, m, none⟩ = some (.bool sb) := by rw [H1.out.cellAt m (by omega), List.getElem?_map, seenL_get _ hm12, hsb]; rfl
              have e2 : wr.frozen? ⟨S, m, none⟩ = false := H1.out.frozenAt m
              have HSB := Lib.hid hsb
              clear hsb
              cases sb with
              | true =>
                have HW := Lib.hid (show walkL (accT X at_ 1 ++ (X.take (k + 1)).filter (pT at_ 1)) = walkL (accT X at_ 1 ++ (X.take k).filter (pT at_ 1)) by rw [HY.out, walkL_snoc]; unfold wkStep; rw [if_pos (by simpa using HSB.out.symm)])
                go_wp2
                go_roundw
                case measure => simp [intOf]; omega
                case rel => exact ⟨k + 1, by omega, by go_num, by simp; omega, HB.out.alloc (by omega) _, hk2, cell_alloc _ s0, rfl, by rw [HW.out]; exact H1.out.alloc _, by rw [HW.out]; exact H2.out.alloc _⟩
              | false =>
                have HW := Lib.hid (show walkL (accT X at_ 1 ++ (X.take (k + 1)).filter (pT at_ 1)) = walkL (accT X at_ 1 ++ (X.take k).filter (pT at_ 1)) ++ [(m : Int)] by rw [HY.out, walkL_snoc]; unfold wkStep; rw [if_neg (by simpa using HSB.out.symm)])
                obtain ⟨Lk, hLk⟩ : ∃ Lk, Lk = walkL (accT X at_ 1 ++ (X.take k).filter (pT at_ 1)) := ⟨_, rfl⟩
                rw [← hLk] at H1 H2 HW hlw ⊢
                have B5 := Lib.hid ((HB.out.setCell (p := ⟨S, m, none⟩) (by simp; omega) (.bool true)).alloc (by simp; have := HB.out.size; omega) (.cells #[.int .i64 h0, .int .i64 (m : Int)] 45))
                have O5 := Lib.hid (((H1.out.stored m (.bool true)).1).alloc (.cells #[.int .i64 h0, .int .i64 (m : Int)] 45))
                have Q5 := Lib.hid ((own_set_ne (p := ⟨S, m, none⟩) H2.out (by show S < S + 1; omega) (.bool true)).alloc (.cells #[.int .i64 h0, .int .i64 (m : Int)] 45))
                have s5 := cell_alloc (.cells #[.int .i64 h0, .int .i64 (m : Int)] 45) (cell_keep_set (p := ⟨S, m, none⟩) (u := .bool true) s0 (by show w.heap.size ≠ S; omega))
                clear hLk HY HSB HB H1 H2
                go_wp2_with (at_builtin; go_loud (refine wpList_append_own _ rfl _ _ 35 rfl (S + 1) 3 i0 (.int .i64 0) 1 8 Try.underlying35 hi hi0 hi1 hi2 rfl (by decide) _ _ _ rfl (Q5.out.alloc _) ⟨wr.heap.size + 1, 0, none⟩ 1 1 [.int .i64 (m : Int)] rfl rfl (news_lit (by simp) [.int .i64 (m : Int)] 3) ?c1 ?c2 ?c3 ?c4 ?_))
                case c1 => first | rfl | (intro u hu; simp at hu; subst hu; rfl)
                case c2 => unfold maxLen; omega
                case c3 => omega
                case c4 => first | omega | (simp; done) | (simp; omega)
                intro v' w6 hown' hgrow _
                have hb6 := grown_below (B := S + 1) ((Below.refl _ ((wr.setCell ⟨S, m, none⟩ (.bool true)).alloc (.cells #[.int .i64 h0, .int .i64 (m : Int)] 45))).alloc (Nat.le_refl _) _) (by simp; omega) Q5.out hgrow
                have hz6 := hb6.size
                simp at hz6
                obtain ⟨a6, c6, rfl, _⟩ := owns_shape hown'
                have HO6 := Lib.hid hown'
                have HP6 := Lib.hid (own_low O5.out hb6 (by show S < S + 1; omega))
                have HB6 := Lib.hid (B5.out.trans (hb6.mono (by omega)))
                have s6 := cell_below hb6 s5 (by omega)
                clear hown' hgrow hb6 Q5 O5 B5 s5
                go_wp2
                go_roundw
                case measure => simp [intOf]; omega
                case rel =>
                  refine ⟨k + 1, by omega, by go_num, by omega, HB6.out, hk2, s6, rfl, ?_, ?_⟩
                  · rw [HW.out, seenL_add _ hm12, List.map_set]; exact HP6.out
                  · rw [HW.out, List.length_append, List.map_append]; exact HO6.out
          · have hge : ¬ (k : Int) < (X.length : Int) := by omega
            have e1 := Lib.hid (show accT X at_ 1 ++ (X.take k).filter (pT at_ 1) = accT X at_ (1 + 1) by rw [List.take_of_length_le (by omega)]; rfl)
            clear hb heq
            go_wp2
            go_roundw
            case measure => simp [intOf]
            case rel => exact ⟨1 + 1, by omega, by go_num, hz, by rw [← e1.out]; exact ⟨HB.out, hk2, s0, rfl, H1.out, H2.out⟩⟩
end Go.Proofs.Ytmhbkpgacdmjpaa
