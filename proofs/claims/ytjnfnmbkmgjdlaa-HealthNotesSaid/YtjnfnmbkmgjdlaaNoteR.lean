/- usherref.Noted: its contract. -/
import Derived.Test.YtjnfnmbkmgjdlaaNoteP
namespace Go.Proofs.Ytjnfnmbkmgjdlaa
open Go.RowKit

set_option maxHeartbeats 4000000 in
set_option maxRecDepth 100000 in
theorem ref_Note_bad (a b c : Int) (M : List Bool) (out : Bool) (u t : Int) (failed : Bool) (now : Int) (may : Bool) (code : Int) (v : Value) (w : World) (r : RowAt w 1 v (bcells M)) (hc : HtCode a b c M.length out u t now code) (h0 : code ≠ 0) :
    Calls Try.prog 17 #[.agg #[.int .i64 a, .int .i64 b, .int .i64 c], .agg #[v, .bool out, .int .i64 u, .int .i64 t], .bool failed, .int .i64 now, .bool may] w (HPost w [] false 0 0 false code) := by
  have HC := Lib.hid hc
  obtain ⟨ad, cp, rfl, _⟩ := bshape r
  clear r hc
  have e1 : (code != 0) = true := by simpa using h0
  clear h0
  go_enter Try.func17, Try.ntmps17
  go_wp2_with (go_at_call 33; refine (ref_hfault _ _ _ _ _ _ _ _ _ _ _ _ HC.out).mono ?_; rintro e w1 ⟨rfl, hb1⟩; obtain ⟨hc1, hf1⟩ := bcell hb1; have hz1 := blt hb1; have hy1 := hb1.size; (try simp at hy1))
  refine bodyPost_ret (v := .tuple #[.agg #[.slice none 0 0, .bool false, .int .i64 0, .int .i64 0], .bool false, .int .i64 code]) ?_ rfl ⟨_, rfl, RowAt_nil _ _, (by repeat (first | (with_reducible exact Below.refl _ _) | (with_reducible assumption) | (with_reducible refine Below.drew ?_) | (with_reducible refine Below_drewN ?_) | (with_reducible refine Below.alloc ?_ (by first | omega | (simp; done) | (simp; omega)) _) | (with_reducible refine Below.setCell ?_ (by first | omega | (simp; done) | (simp; omega)) _) | (with_reducible refine Below.trans ?_ (Below.mono (by assumption) (by first | omega | (simp; done) | (simp; omega))))))⟩
  simp [results, Try.results17, go_sem, *]

theorem bcells_take_snoc {M : List Bool} {k : Nat} (hk : k < M.length) : (bcells (M.take (k + 1))).flatten = (bcells (M.take k)).flatten ++ [Value.bool (M.getD k false)] := by
  rw [List.take_succ_eq_append_getElem hk, bcells_snoc]; simp [List.getD, hk]
/-- What of the marks is kept behind k places. -/
def keptL (A : List Bool) (s k : Nat) : List Bool := (A.take k).drop s
theorem keptL_skip {A : List Bool} {s k : Nat} (h : k < s) : keptL A s (k + 1) = keptL A s k := by
  unfold keptL
  rw [List.drop_of_length_le (by simp; omega), List.drop_of_length_le (by simp; omega)]
theorem keptL_add {A : List Bool} {s k : Nat} (h : s ≤ k) (hk : k < A.length) : keptL A s (k + 1) = keptL A s k ++ [A.getD k false] := by
  unfold keptL
  rw [List.take_succ_eq_append_getElem hk, List.drop_append_of_le_length (by simp; omega)]
  simp [List.getD, hk]
theorem keptL_len (A : List Bool) (s k : Nat) : (keptL A s k).length ≤ k := by unfold keptL; simp; omega
theorem nfail_add (M : List Bool) (x : Bool) : nfail (M ++ [x]) = nfail M + if x then 1 else 0 := by
  unfold nfail; rw [List.countP_append, List.countP_singleton]; cases x <;> rfl

def ALRel (w1 wr : World) (B k : Nat) (M : List Bool) (o : Value) : Prop := Below w1.heap.size w1 wr ∧ ∃ (a : Option Addr) (cap : Nat), o = .slice a k cap ∧ wr.ownsRow B 4 1 (.slice a k cap) k (bcells (M.take k)).flatten
def MKRel (w1 wr : World) (B : Nat) (L : List Bool) (o : Value) : Prop := Below w1.heap.size w1 wr ∧ ∃ (a : Option Addr) (cap : Nat), o = .slice a L.length cap ∧ wr.ownsRow B 4 1 (.slice a L.length cap) L.length (bcells L).flatten

set_option maxHeartbeats 4000000 in
set_option maxRecDepth 100000 in
theorem ref_Note_ok (a b c : Int) (M : List Bool) (out : Bool) (u : Int) (T : Nat) (failed : Bool) (now : Int) (may : Bool) (M' : List Bool) (out' : Bool) (u' t' : Int) (came : Bool) (v : Value) (w : World) (r : RowAt w 1 v (bcells M)) (hc : HtCode a b c M.length out u T now 0) (h : NoteAns a b c M out u T failed now may M' out' u' t' came 0) :
    Calls Try.prog 17 #[.agg #[.int .i64 a, .int .i64 b, .int .i64 c], .agg #[v, .bool out, .int .i64 u, .int .i64 T], .bool failed, .int .i64 now, .bool may] w (HPost w M' out' u' t' came 0) := by
  obtain ⟨i0, hi, hi0, hi1, hi2⟩ := info_parts info_bool
  obtain ⟨hw, n1, n2, h3⟩ := HtCode_ok hc
  obtain ⟨f1, f2, f3, f4, f5, f6⟩ := hw
  obtain ⟨k1, k2, k3, k4, k5, k6⟩ := h3
  clear k6
  have R := Lib.hid r
  have HC := Lib.hid hc
  have HA := Lib.hid h
  obtain ⟨ad, cp, rfl, l, m, n, p⟩ := RowAt_fn (f := fun b => [Value.bool b]) false r
  have P := Lib.hid p
  clear r hc h p l m n
  have hM : M.length ≤ 16 := by omega
  go_enter Try.func17, Try.ntmps17
  go_wp2_with (go_at_call 33; refine (ref_hfault _ _ _ _ _ _ _ _ _ _ _ _ HC.out).mono ?_; rintro e w1 ⟨rfl, hb1⟩; obtain ⟨hc1, hf1⟩ := bcell hb1; have hz1 := blt hb1; have hy1 := hb1.size; (try simp at hy1))
  (try have kw1_0 : w.heap.size < w1.heap.size := by omega); (try have kw1_1 : w.heap.size + 1 < w1.heap.size := by omega); (try have kw1_2 : w.heap.size + 1 + 1 < w1.heap.size := by omega)
  have BX := Lib.hid ((by repeat (first | (with_reducible exact Below.refl _ _) | (with_reducible assumption) | (with_reducible refine Below.drew ?_) | (with_reducible refine Below_drewN ?_) | (with_reducible refine Below.alloc ?_ (by first | omega | (simp; done) | (simp; omega)) _) | (with_reducible refine Below.setCell ?_ (by first | omega | (simp; done) | (simp; omega)) _) | (with_reducible refine Below.trans ?_ (Below.mono (by assumption) (by first | omega | (simp; done) | (simp; omega)))))) : Below w.heap.size w w1)
  obtain ⟨B, hB⟩ : ∃ B, B = w1.heap.size := ⟨_, rfl⟩
  have hBs := Lib.hid hB
  clear hB
  have g0 : w1.heap[w.heap.size]? = some (.cells #[.int .i64 a, .int .i64 b, .int .i64 c] 37 (0, 0)) := blk_below hb1 (by rw [Below.heap_alloc _ _ _ (by first | omega | (simp; done) | (simp; omega)), Below.heap_alloc _ _ _ (by first | omega | (simp; done) | (simp; omega))]; exact heap_at _ rfl) (by first | omega | (simp; done) | (simp; omega))
  have g1 : w1.heap[w.heap.size + 1]? = some (.cells #[.slice ad M.length cp, .bool out, .int .i64 u, .int .i64 T] 40 (0, 0)) := blk_below hb1 (by rw [Below.heap_alloc _ _ _ (by first | omega | (simp; done) | (simp; omega))]; exact heap_at (w := World.alloc _ _) _ (by simp)) (by first | omega | (simp; done) | (simp; omega))
  have g2 : w1.heap[w.heap.size + 1 + 1]? = some (.cells #[.slice none 0 0, .bool false, .int .i64 0, .int .i64 0] 40 (0, 0)) := blk_below hb1 (heap_at (w := World.alloc _ _) _ (by simp)) (by first | omega | (simp; done) | (simp; omega))
  have e10 : w1.cell? ⟨w.heap.size + 1, 0, none⟩ = some (.slice ad M.length cp) := blk_cell g1 0
  have E1 := Lib.hid (And.intro g0 (And.intro g1 g2))
  clear hb1 g0 g1 g2
  go_loopw [14, 15] (fun o i wr => ∃ k : Nat, k ≤ M.length ∧ i = .int .i64 k ∧ ALRel w1 wr B k M o) (fun _ i _ => M.length - (intOf i).toNat)
  case atStart => exact ⟨0, Nat.zero_le _, rfl, Below.refl _ _, none, 0, rfl, World.ownsRow_nil _ _ _ _⟩
  case round =>
    obtain ⟨k, hk, rfl, hb, aa, ca, rfl, hown⟩ := hrel
    have HB := Lib.hid hb
    have HO := Lib.hid hown
    have x10 := cell_below' hb e10
    have hsz := hb.size
    clear hc1 hf1 hz1 hown e10
    rcases (show k < M.length ∨ M.length = k by omega) with hlt | heq
    · have hlt' : (k : Int) < (M.length : Int) := by omega
      obtain ⟨b0, o0, rfl, hb0, q⟩ := P.out (by intro h; rw [h] at hlt; simp at hlt)
      obtain ⟨x, hx⟩ : ∃ x, x = M.getD k false := ⟨_, rfl⟩
      have a0 : wr.cell? ⟨b0, o0 + k, none⟩ = some (.bool x) := by
        have h1 := q k 0 hlt (by omega)
        rw [Nat.mul_one, Nat.add_zero] at h1
        rw [cell_below' hb (cell_below BX.out (h1.trans rfl) hb0), hx]
      have HX : Hid ((bcells (M.take (k + 1))).flatten = (bcells (M.take k)).flatten ++ [Value.bool x]) := by rw [hx]; exact bcells_take_snoc hlt
      clear hx q hb
      go_wp2_with (at_builtin; go_loud (refine wpList_append_own _ rfl _ _ 38 rfl B 4 i0 (.bool false) 1 1 Try.underlying38 hi hi0 hi1 hi2 rfl (by decide) _ k _ rfl (HO.out.alloc _) ⟨wr.heap.size, 0, none⟩ 1 1 [.bool x] rfl rfl (news_one [.bool x] 4) ?c1 ?c2 ?c3 ?c4 ?_))
      case c1 => first | rfl | (intro u hu; simp at hu; subst hu; rfl)
      case c2 => unfold maxLen; omega
      case c3 => omega
      case c4 => have := hBs.out; simp; omega
      intro v' w2 hown' hgrow _
      obtain ⟨a', cap', rfl, _, _⟩ := owns_shape hown'
      have S : Hid (ALRel w1 w2 B (k + 1) M (.slice a' (k + 1) cap')) := by
        have G := grown_below ((Below.refl wr.heap.size wr).alloc (Nat.le_refl _) _) (by have := hBs.out; omega) HO.out hgrow
        exact ⟨HB.out.trans (G.mono (by have := hBs.out; omega)), a', cap', rfl, by rw [HX.out]; exact hown'⟩
      clear hown' hgrow
      go_wp2
      go_roundw
      case rel => exact ⟨k + 1, by omega, by go_num, S.out⟩
      case measure => simp [intOf]; omega
    · have hge : ¬ (k : Int) < (M.length : Int) := by omega
      have hkM : Hid (M.take k = M) := List.take_of_length_le (by omega)
      have hkl := Lib.hid heq
      clear heq hb
      go_wp2_with (at_builtin; go_loud (refine wpList_append_own _ rfl _ _ 38 rfl B 4 i0 (.bool false) 1 1 Try.underlying38 hi hi0 hi1 hi2 rfl (by decide) _ k _ rfl (HO.out.alloc _) ⟨wr.heap.size, 0, none⟩ 1 1 [.bool failed] rfl rfl (news_one [.bool failed] 4) ?c1 ?c2 ?c3 ?c4 ?_))
      case c1 => first | rfl | (intro u hu; simp at hu; subst hu; rfl)
      case c2 => unfold maxLen; omega
      case c3 => omega
      case c4 => have := hBs.out; simp; omega
      intro v' w2 hown' hgrow _
      obtain ⟨aA, cA, rfl, _, _⟩ := owns_shape hown'
      obtain ⟨A, hA⟩ : ∃ A, A = M ++ [failed] := ⟨_, rfl⟩
      have hAl : A.length = k + 1 := by have := hkl.out; rw [hA]; simp; exact this
      have G : Hid (Below w1.heap.size w1 w2) := by
        have G := grown_below ((Below.refl wr.heap.size wr).alloc (Nat.le_refl _) _) (by have := hBs.out; omega) HO.out hgrow
        exact HB.out.trans (G.mono (by have := hBs.out; omega))
      have RA : Hid (RowAt w2 1 (.slice aA (k + 1) cA) (bcells A)) := by
        refine RowAt_of_owns (e := 4) (base := B) (n := k + 1) ?_ (by simp [bcells, hAl]) (bcells_len A)
        rw [hA, bcells_snoc]; have h := hown'; rw [hkM.out] at h; exact h
      have HAA := Lib.hid hA
      have hAl' := Lib.hid hAl
      have Y1 : Hid (_ ∧ _ ∧ _) := ⟨blk_below G.out E1.out.1 kw1_0, blk_below G.out E1.out.2.1 kw1_1, blk_below G.out E1.out.2.2 kw1_2⟩
      clear hown' hgrow hA hAl HO HB
      obtain ⟨B2, hB2⟩ : ∃ B, B = w2.heap.size := ⟨_, rfl⟩
      have hB2' := Lib.hid hB2
      clear hB2
      obtain ⟨s, hs⟩ : ∃ s : Nat, (s : Int) = k + 1 - a ∨ (s = 0 ∧ (k : Int) + 1 - a ≤ 0) := ⟨((k : Int) + 1 - a).toNat, by omega⟩
      have hsL : Hid (marksL M failed a = keptL A s (k + 1)) := by
        have hk' := hkl.out
        unfold marksL keptL
        rw [← HAA.out, List.take_of_length_le (by rw [hAl'.out]; omega), show (M.length + 1 : Nat) - a.toNat = s by omega]; rfl
      have hka : (k : Int) ≤ a := by have := hkl.out; omega
      have hk16 : k ≤ 16 := by omega
      go_wp2_with fail
      go_loopw [16, 17, 18] (fun o n i wr => ∃ j : Nat, j ≤ k + 1 ∧ i = .int .i64 j ∧ n = .int .i64 (nfail (keptL A s j)) ∧ MKRel w2 wr B2 (keptL A s j) o) (fun _ _ i _ => k + 1 - (intOf i).toNat)
      case atStart => exact ⟨0, Nat.zero_le _, rfl, by simp [keptL, nfail], Below.refl _ _, none, 0, by simp [keptL], by simpa [keptL, bcells] using World.ownsRow_nil _ _ _ _⟩
      case round =>
        obtain ⟨j, hj, rfl, rfl, hb, am, cm, rfl, hown⟩ := hrel
        have HB := Lib.hid hb
        have HO := Lib.hid hown
        have hsz := hb.size
        have hlen := keptL_len A s j
        have hnf := nfail_le (keptL A s j)
        have sz2a : B2 ≤ w2.heap.size := by have := hB2'.out; omega
        have sz2b : w2.heap.size ≤ B2 := by have := hB2'.out; omega
        have sz3 := G.out.size
        have h0 := blk_below hb Y1.out.1 (by omega)
        have z00 := blk_cell h0 0
        simp at z00
        rcases (show j < k + 1 ∨ k + 1 = j by omega) with hlt | heq
        · have hlt' : (j : Int) < (k : Int) + 1 := by omega
          rcases (show a < (k : Int) + 1 - j ∨ (k : Int) + 1 - j ≤ a by omega) with hskip | hadd
          · have hS : Hid (keptL A s (j + 1) = keptL A s j) := keptL_skip (by omega)
            clear hb hown
            go_wp2
            go_roundw
            case rel => exact ⟨j + 1, by omega, by go_num, by rw [hS.out], by rw [hS.out]; exact ⟨HB.out, am, cm, rfl, HO.out⟩⟩
            case measure => simp [intOf]; omega
          · obtain ⟨x, hx⟩ : ∃ x, x = A.getD j false := ⟨_, rfl⟩
            have hS : Hid (keptL A s (j + 1) = keptL A s j ++ [x]) := by rw [hx]; exact keptL_add (by omega) (by have := hAl'.out; omega)
            obtain ⟨aA', cA', he, lA, mA, nA, pA⟩ := RowAt_fn (f := fun b => [Value.bool b]) false RA.out
            obtain ⟨b0, o0, hab, hb0, q⟩ := pA (by intro h; have := hAl'.out; rw [h] at this; simp at this)
            simp only [Value.slice.injEq] at he
            obtain ⟨rfl, e22, e33⟩ := he
            clear e22 e33
            obtain rfl := hab
            have a0 : wr.cell? ⟨b0, o0 + j, none⟩ = some (.bool x) := by
              have h1 := q j 0 (by have := hAl'.out; omega) (by omega)
              rw [Nat.mul_one, Nat.add_zero] at h1
              rw [cell_below' hb (h1.trans rfl), hx]
            have lb0 : b0 < wr.heap.size := cell_lt a0
            have HX : Hid ((bcells (keptL A s j ++ [x])).flatten = (bcells (keptL A s j)).flatten ++ [Value.bool x]) := bcells_snoc _ _
            have HN : Hid ((nfail (keptL A s j ++ [x]) : Int) = nfail (keptL A s j) + if x then 1 else 0) := by rw [nfail_add]; cases x <;> simp [Hid]
            clear hx q hb hown lA mA nA pA
            cases x with
            | true =>
              go_wp2_with (at_builtin; go_loud (refine wpList_append_own _ rfl _ _ 38 rfl B2 4 i0 (.bool false) 1 1 Try.underlying38 hi hi0 hi1 hi2 rfl (by decide) _ (keptL A s j).length _ rfl (HO.out.alloc _) ⟨wr.heap.size, 0, none⟩ 1 1 [.bool true] rfl rfl (news_one [.bool true] 4) ?c1 ?c2 ?c3 ?c4 ?_))
              case c1 => first | rfl | (intro u hu; simp at hu; subst hu; rfl)
              case c2 => unfold maxLen; omega
              case c3 => omega
              case c4 => have := hB2'.out; simp; omega
              intro v' w3 hown' hgrow _
              obtain ⟨a', cap', rfl, _, _⟩ := owns_shape hown'
              have GW := grown_below ((Below.refl wr.heap.size wr).alloc (Nat.le_refl _) _) (by have := hB2'.out; omega) HO.out hgrow
              have a1 : w3.cell? ⟨b0, o0 + j, none⟩ = some (.bool true) := cell_below GW a0 (by omega)
              have S : Hid (MKRel w2 w3 B2 (keptL A s (j + 1)) (.slice a' ((keptL A s j).length + 1) cap')) := by
                refine ⟨HB.out.trans (GW.mono (by omega)), a', cap', ?_, ?_⟩
                · rw [hS.out]; simp
                · rw [hS.out, HX.out]; simpa using hown'
              have lb3 : b0 < w3.heap.size := cell_lt a1
              clear hown' hgrow GW a0
              go_wp2
              go_roundw
              case rel => exact ⟨j + 1, by omega, by go_num, by rw [hS.out, HN.out]; simp, S.out⟩
              case measure => simp [intOf]; omega
            | false =>
              go_wp2_with (at_builtin; go_loud (refine wpList_append_own _ rfl _ _ 38 rfl B2 4 i0 (.bool false) 1 1 Try.underlying38 hi hi0 hi1 hi2 rfl (by decide) _ (keptL A s j).length _ rfl (HO.out.alloc _) ⟨wr.heap.size, 0, none⟩ 1 1 [.bool false] rfl rfl (news_one [.bool false] 4) ?c1 ?c2 ?c3 ?c4 ?_))
              case c1 => first | rfl | (intro u hu; simp at hu; subst hu; rfl)
              case c2 => unfold maxLen; omega
              case c3 => omega
              case c4 => have := hB2'.out; simp; omega
              intro v' w3 hown' hgrow _
              obtain ⟨a', cap', rfl, _, _⟩ := owns_shape hown'
              have GW := grown_below ((Below.refl wr.heap.size wr).alloc (Nat.le_refl _) _) (by have := hB2'.out; omega) HO.out hgrow
              have a1 : w3.cell? ⟨b0, o0 + j, none⟩ = some (.bool false) := cell_below GW a0 (by omega)
              have S : Hid (MKRel w2 w3 B2 (keptL A s (j + 1)) (.slice a' ((keptL A s j).length + 1) cap')) := by
                refine ⟨HB.out.trans (GW.mono (by omega)), a', cap', ?_, ?_⟩
                · rw [hS.out]; simp
                · rw [hS.out, HX.out]; simpa using hown'
              have lb3 : b0 < w3.heap.size := cell_lt a1
              clear hown' hgrow GW a0
              go_wp2
              go_roundw
              case rel => exact ⟨j + 1, by omega, by go_num, by rw [hS.out, HN.out]; simp, S.out⟩
              case measure => simp [intOf]; omega
        · have hge : ¬ (j : Int) < (k : Int) + 1 := by omega
          have h1 := blk_below hb Y1.out.2.1 (by omega)
          have h2 := blk_below hb Y1.out.2.2 (by omega)
          have z01 := blk_cell h0 1
          have z02 := blk_cell h0 2
          have z11 := blk_cell h1 1
          have z12 := blk_cell h1 2
          have z13 := blk_cell h1 3
          have x20 := blk_cell h2 0
          have x21 := blk_cell h2 1
          have x22 := blk_cell h2 2
          have x23 := blk_cell h2 3
          have y20 := blk_free h2 0
          have y21 := blk_free h2 1
          have y22 := blk_free h2 2
          have y23 := blk_free h2 3
          simp at z01 z02 z11 z12 z13 x20 x21 x22 x23
          obtain ⟨L, hL⟩ : ∃ L, L = keptL A s j := ⟨_, rfl⟩
          have hLm : Hid (marksL M failed a = L) := by rw [hL, ← heq]; exact hsL.out
          rw [← hL] at HO hnf hlen ⊢
          have RL : Hid (RowNew B2 wr 1 (.slice am L.length cm) (bcells L)) := RowNew_of_owns HO.out (by simp [bcells]) (bcells_len L)
          have BW : Hid (Below w.heap.size w wr) := BX.out.trans ((G.out.trans (HB.out.mono G.out.size)).mono BX.out.size)
          obtain ⟨HA1, HA2⟩ := HA.out
          rw [hLm.out] at HA2
          clear HA1 HA hb hown hL hLm heq h0 h1 h2 hsL
          rcases HA2 with ⟨h, _⟩ | ⟨_, rfl, rfl, hbb, rfl, rfl, rfl, rfl, rfl⟩ | ⟨_, hkk, rfl, rfl, rfl, hT, rfl⟩
          · exact absurd rfl h
          · have hv0 : 0 ≤ holdV c T ∧ holdV c T ≤ 500 := by
              have q0 : 0 ≤ c * 2 ^ T := Int.mul_nonneg (by omega) (Int.pow_nonneg (by omega))
              simp only [holdV, Int.toNat_natCast]; omega
            obtain ⟨hv1, hv2⟩ := hv0
            rcases (show (T : Int) + 1 ≤ 10 ∨ 10 < (T : Int) + 1 by omega) with ht | ht
            · have HT : Hid (min ((T : Int) + 1) 10 = (T : Int) + 1) := by simp only [Hid]; omega
              go_wp2_with (go_at_call 34; refine (ref_HoldOf c T _ f5 f6 (by omega)).mono ?_; rintro e w' ⟨rfl, rfl⟩)
              refine bodyPost_ret (v := .tuple #[.agg #[.slice none 0 0, .bool true, .int .i64 (now + holdV c T), .int .i64 ((T : Int) + 1)], .bool true, .int .i64 0]) ?_ rfl ?_
              · simp [results, Try.results17, go_sem, *]
              · rw [HT.out]
                exact ⟨_, rfl, RowAt_nil _ _, (by repeat (first | (with_reducible exact BW.out) | (with_reducible refine Below.setCell ?_ (by first | omega | (simp; done) | (simp; omega)) _)))⟩
            · have HT : Hid (min ((T : Int) + 1) 10 = 10) := by simp only [Hid]; omega
              go_wp2_with (go_at_call 34; refine (ref_HoldOf c T _ f5 f6 (by omega)).mono ?_; rintro e w' ⟨rfl, rfl⟩)
              refine bodyPost_ret (v := .tuple #[.agg #[.slice none 0 0, .bool true, .int .i64 (now + holdV c T), .int .i64 10], .bool true, .int .i64 0]) ?_ rfl ?_
              · simp [results, Try.results17, go_sem, *]
              · rw [HT.out]
                exact ⟨_, rfl, RowAt_nil _ _, (by repeat (first | (with_reducible exact BW.out) | (with_reducible refine Below.setCell ?_ (by first | omega | (simp; done) | (simp; omega)) _)))⟩
          · obtain rfl : t' = T := hT
            rcases hkk with rfl | ⟨rfl, rfl⟩ | ⟨rfl, rfl, hbb⟩
            · go_wp2
              refine bodyPost_ret (v := .tuple #[.agg #[.slice am M'.length cm, .bool true, .int .i64 u', .int .i64 T], .bool false, .int .i64 0]) ?_ rfl ⟨_, rfl, ?_, (by repeat (first | (with_reducible exact BW.out) | (with_reducible refine Below.setCell ?_ (by first | omega | (simp; done) | (simp; omega)) _)))⟩
              · simp [results, Try.results17, go_sem, *]
              · refine RowNew_at (B := w.heap.size) ?_
                exact (by refine RowNew_mono (B := B2) ?_ (by first | omega | (simp; done) | (simp; omega)); repeat (first | (with_reducible exact RL.out) | (with_reducible refine RowNew_setCell ?_ (by first | omega | (simp; done) | (simp; omega)) _) | (with_reducible refine RowNew_alloc ?_ _) | (with_reducible refine RowNew_drewN ?_ _)))
            · go_wp2
              refine bodyPost_ret (v := .tuple #[.agg #[.slice am M'.length cm, .bool false, .int .i64 u', .int .i64 T], .bool false, .int .i64 0]) ?_ rfl ⟨_, rfl, ?_, (by repeat (first | (with_reducible exact BW.out) | (with_reducible refine Below.setCell ?_ (by first | omega | (simp; done) | (simp; omega)) _)))⟩
              · simp [results, Try.results17, go_sem, *]
              · refine RowNew_at (B := w.heap.size) ?_
                exact (by refine RowNew_mono (B := B2) ?_ (by first | omega | (simp; done) | (simp; omega)); repeat (first | (with_reducible exact RL.out) | (with_reducible refine RowNew_setCell ?_ (by first | omega | (simp; done) | (simp; omega)) _) | (with_reducible refine RowNew_alloc ?_ _) | (with_reducible refine RowNew_drewN ?_ _)))
            · have hd : decide (b ≤ (nfail M' : Int)) = false := by simp; omega
              go_wp2
              refine bodyPost_ret (v := .tuple #[.agg #[.slice am M'.length cm, .bool false, .int .i64 u', .int .i64 T], .bool false, .int .i64 0]) ?_ rfl ⟨_, rfl, ?_, (by repeat (first | (with_reducible exact BW.out) | (with_reducible refine Below.setCell ?_ (by first | omega | (simp; done) | (simp; omega)) _)))⟩
              · simp [results, Try.results17, go_sem, *]
              · refine RowNew_at (B := w.heap.size) ?_
                exact (by refine RowNew_mono (B := B2) ?_ (by first | omega | (simp; done) | (simp; omega)); repeat (first | (with_reducible exact RL.out) | (with_reducible refine RowNew_setCell ?_ (by first | omega | (simp; done) | (simp; omega)) _) | (with_reducible refine RowNew_alloc ?_ _) | (with_reducible refine RowNew_drewN ?_ _)))
end Go.Proofs.Ytjnfnmbkmgjdlaa
