/- bound.Caps: its contract. -/
import Derived.Test.YtjfnnbbnkcdbcaaCaps
namespace Go.Proofs.Ytjfnnbbnkcdbcaa
open Go.RowKit

theorem info_capint : (Try.prog.info? 3).map (fun i => (i.zero, i.size, i.bytes)) = some (some (.int .i64 0), 1, 8) := by kernel_rfl
/-- The weights' sum. -/
def wsum (L : List Ld) : Int := (L.map (·.weight)).sum
/-- P7.3 of one. -/
def capAt (num den flows total : Int) (x : Ld) : Int := if 0 < x.weight then capOf num den flows x.weight total else 0
/-- P7.3: the caps. -/
def capsL (L : List Ld) (num den flows : Int) : List Int := L.map (capAt num den flows (wsum L))
theorem wsum_snoc {L : List Ld} {k : Nat} (hk : k < L.length) : wsum (L.take (k + 1)) = wsum (L.take k) + (L.getD k Ld.zero).weight := by
  unfold wsum
  rw [List.take_succ_eq_append_getElem hk, List.map_append, List.sum_append]
  simp [List.getD, hk]
theorem wsum_bd {L : List Ld} (h : LdsMay L) : ∀ {k : Nat}, k ≤ L.length → 0 ≤ wsum (L.take k) ∧ wsum (L.take k) ≤ 8 * k
  | 0, _ => by simp [wsum]
  | k + 1, hk => by
    have := wsum_bd h (k := k) (by omega)
    have h2 := h.2 k (by omega)
    unfold LdAt at h2
    rw [wsum_snoc (by omega)]; omega
theorem wsum_mono {L : List Ld} (h : LdsMay L) : ∀ {m k : Nat}, k ≤ m → m ≤ L.length → wsum (L.take k) ≤ wsum (L.take m)
  | 0, k, hk, _ => by rw [show k = 0 by omega]; exact Int.le_refl _
  | m + 1, k, hk, hm => by
    rcases (show k = m + 1 ∨ k ≤ m by omega) with rfl | hk
    · exact Int.le_refl _
    · have := wsum_mono h hk (by omega : m ≤ L.length)
      have h2 := h.2 m (by omega)
      unfold LdAt at h2
      rw [wsum_snoc (by omega)]; omega
theorem wsum_ge {L : List Ld} (h : LdsMay L) {k : Nat} (hk : k < L.length) : (L.getD k Ld.zero).weight ≤ wsum L := by
  have h1 := wsum_mono h (by omega : k + 1 ≤ L.length) (Nat.le_refl _)
  rw [wsum_snoc hk, List.take_of_length_le (Nat.le_refl _)] at h1
  have := (wsum_bd h (by omega : k ≤ L.length)).1
  omega
theorem wsum_96 {L : List Ld} (h : LdsMay L) : wsum L ≤ 96 := by
  have h1 := (wsum_bd h (Nat.le_refl _)).2
  rw [List.take_of_length_le (Nat.le_refl _)] at h1
  have := h.1
  omega
theorem capOf_bd {num den flows weight total : Int} (h : CapMay num den flows weight total) : 0 ≤ capOf num den flows weight total ∧ capOf num den flows weight total ≤ 82000 := by
  obtain ⟨h1, h2, h3, h4, h5, h6, h7, h8⟩ := h
  obtain ⟨a1, a2⟩ := mul_bd2 (a := num) (d := flows + 1) (A := 20) (D := 41) (by omega) (by omega) (by omega) (by omega)
  obtain ⟨b1, b2⟩ := mul_bd2 (a := num * (flows + 1)) (d := weight) (A := 820) (D := 96) (by omega) (by omega) (by omega) (by omega)
  obtain ⟨c1, c2⟩ := mul_bd2 (a := den) (d := total) (A := 20) (D := 96) (by omega) (by omega) (by omega) (by omega)
  have hD : 1 ≤ den * total := Int.mul_pos (by omega) (by omega)
  unfold capOf
  refine ⟨Int.ediv_nonneg (by omega) (by omega), ?_⟩
  have : (num * (flows + 1) * weight + den * total - 1) / (den * total) ≤ num * (flows + 1) * weight + den * total - 1 := Int.ediv_le_self _ (by omega)
  omega
def CapsPost (w : World) (Y : List Int) (code : Int) (e : Ending) (w' : World) : Prop := ∃ v, e = .returned (.tuple #[v, .int .i64 code]) ∧ RowNew w.heap.size w' 1 v (Y.map fun x => [Value.int .i64 x]) ∧ Below w.heap.size w w'
/-- P7.1: may the factor and the flows be? -/
def FacMay (num den flows : Int) : Prop := 1 ≤ den ∧ den ≤ num ∧ num ≤ 20 ∧ 0 ≤ flows ∧ flows ≤ 40
/-- The answer of Caps. -/
def CapsAns (L : List Ld) (num den flows : Int) (Y : List Int) (code : Int) : Prop := (¬ LdsMay L ∧ Y = [] ∧ code = 6) ∨ (LdsMay L ∧ ¬ FacMay num den flows ∧ Y = [] ∧ code = 2) ∨ (LdsMay L ∧ FacMay num den flows ∧ Y = capsL L num den flows ∧ code = 0)
theorem CapsAns_total (L : List Ld) (num den flows : Int) : ∃ Y code, CapsAns L num den flows Y code := by
  by_cases h : LdsMay L
  · by_cases h2 : FacMay num den flows
    · exact ⟨_, _, Or.inr (Or.inr ⟨h, h2, rfl, rfl⟩)⟩
    · exact ⟨_, _, Or.inr (Or.inl ⟨h, h2, rfl, rfl⟩)⟩
  · exact ⟨_, _, Or.inl ⟨h, rfl, rfl⟩⟩
theorem intrel (l : List Int) : ∀ c ∈ l.map (fun x => [Value.int .i64 x]), c.length = 1 := by
  intro c hc
  simp only [List.mem_map] at hc
  obtain ⟨x, _, rfl⟩ := hc
  rfl
theorem int_flat (l : List Int) : (l.map fun x => [Value.int .i64 x]).flatten = l.map (Value.int .i64) := by
  induction l with
  | nil => rfl
  | cons x l ih => simp only [List.map_cons, List.flatten_cons]; rw [ih]; rfl
theorem not_FacMay {num den flows : Int} (h : ¬ FacMay num den flows) : den < 1 ∨ (1 ≤ den ∧ num < den) ∨ (1 ≤ den ∧ den ≤ num ∧ 20 < num) ∨ (1 ≤ den ∧ den ≤ num ∧ num ≤ 20 ∧ flows < 0) ∨ (1 ≤ den ∧ den ≤ num ∧ num ≤ 20 ∧ 0 ≤ flows ∧ 40 < flows) := by
  unfold FacMay at h; omega

set_option maxHeartbeats 4000000 in
set_option maxRecDepth 100000 in
theorem prog_Caps_bad (v : Value) (L : List Ld) (num den flows : Int) (w : World) (hv : RowAt w 3 v (L.map Ld.cells)) (h : ¬ LdsMay L) : Calls Try.prog 37 #[v, .int .i64 num, .int .i64 den, .int .i64 flows] w (CapsPost w [] 6) := by
  have H := Lib.hid h
  have R := Lib.hid hv
  obtain ⟨a, c, rfl, _⟩ := RowAt_shape hv
  clear h hv
  go_enter Try.func37, Try.ntmps37
  go_wp2_with (go_at_call 60; refine (prog_may _ L false _ R.out (Or.inr ⟨H.out, rfl⟩)).mono ?_; rintro e w1 ⟨rfl, hb1⟩; obtain ⟨hc1, hf1⟩ := bcell hb1; have hz1 := blt hb1; have hy1 := hb1.size; (try simp at hy1))
  refine bodyPost_ret (v := .tuple #[.slice none 0 0, .int .i64 6]) ?_ rfl ⟨_, rfl, RowNew_nil _ _ _, hb1⟩
  simp [results, Try.results37, go_sem]
set_option maxHeartbeats 4000000 in
set_option maxRecDepth 100000 in
theorem prog_Caps_range (v : Value) (L : List Ld) (num den flows : Int) (w : World) (hv : RowAt w 3 v (L.map Ld.cells)) (h : LdsMay L) (h2 : ¬ FacMay num den flows) : Calls Try.prog 37 #[v, .int .i64 num, .int .i64 den, .int .i64 flows] w (CapsPost w [] 2) := by
  have H := Lib.hid h
  have R := Lib.hid hv
  obtain ⟨a, c, rfl, _⟩ := RowAt_shape hv
  clear h hv
  rcases not_FacMay h2 with h3 | ⟨h3, h4⟩ | ⟨h3, h4, h5⟩ | ⟨h3, h4, h5, h6⟩ | ⟨h3, h4, h5, h6, h7⟩
  all_goals
    clear h2
    go_enter Try.func37, Try.ntmps37
    go_wp2_with (first | (go_at_call 60; refine (prog_may _ L true _ R.out (Or.inl ⟨H.out, rfl⟩)).mono ?_; rintro e w1 ⟨rfl, hb1⟩; obtain ⟨hc1, hf1⟩ := bcell hb1; have hz1 := blt hb1; have hy1 := hb1.size; (try simp at hy1)) | go_in)
    refine bodyPost_ret (v := .tuple #[.slice none 0 0, .int .i64 2]) ?_ rfl ⟨_, rfl, RowNew_nil _ _ _, hb1⟩
    simp [results, Try.results37, go_sem]

/-- What holds at the head of Caps' second loop. -/
def CpRel (w wr : World) (L : List Ld) (num den flows : Int) (g k : Nat) : Prop := Below w.heap.size w wr ∧ w.heap.size ≤ g ∧ wr.ownsRow w.heap.size 3 1 (.slice (some ⟨g, 0, none⟩) L.length L.length) L.length (((capsL L num den flows).take k ++ List.replicate (L.length - k) 0).map (Value.int .i64))
theorem caps_step {L : List Ld} {num den flows : Int} {k : Nat} {s : Ld} (hk : k < L.length) (hs : s = L.getD k Ld.zero) :
    ((capsL L num den flows).take (k + 1) ++ List.replicate (L.length - (k + 1)) 0) = ((capsL L num den flows).take k ++ List.replicate (L.length - k) 0).set k (capAt num den flows (wsum L) s) := by
  have hl : (capsL L num den flows).length = L.length := by simp [capsL]
  have e : (capsL L num den flows).take k ++ List.replicate (L.length - k) (0 : Int) = (capsL L num den flows).take k ++ (0 :: List.replicate (L.length - (k + 1)) 0) := by
    rw [← List.replicate_succ, show L.length - (k + 1) + 1 = L.length - k by omega]
  rw [e, List.set_append_right _ _ (by simp [hl]; omega), List.length_take, hl, show k - min k L.length = 0 by omega, List.set_cons_zero, List.take_succ_eq_append_getElem (by omega)]
  simp [capsL, hs, List.getD, hk]

theorem set_same {α : Type} {l : List α} {k : Nat} {x : α} (h : l[k]? = some x) : l.set k x = l := by
  apply List.ext_getElem?
  intro j
  rw [List.getElem?_set]
  by_cases hj : k = j
  · subst hj
    have : k < l.length := by
      rcases Nat.lt_or_ge k l.length with h' | h'
      · exact h'
      · rw [List.getElem?_eq_none h'] at h; cases h
    rw [if_pos rfl, if_pos this, h]
  · rw [if_neg hj]
theorem caps_zero {L : List Ld} {num den flows : Int} {k : Nat} (hk : k < L.length) : ((capsL L num den flows).take k ++ List.replicate (L.length - k) 0)[k]? = some 0 := by
  have hl : (capsL L num den flows).length = L.length := by simp [capsL]
  rw [List.getElem?_append_right (by rw [List.length_take]; omega), List.length_take, hl, show k - min k L.length = 0 by omega, List.getElem?_replicate, if_pos (by omega)]
theorem caps_skip {L : List Ld} {num den flows : Int} {k : Nat} {s : Ld} (hk : k < L.length) (hs : s = L.getD k Ld.zero) (hw : ¬ 0 < s.weight) :
    ((capsL L num den flows).take (k + 1) ++ List.replicate (L.length - (k + 1)) 0) = ((capsL L num den flows).take k ++ List.replicate (L.length - k) 0) := by
  rw [caps_step hk hs]
  have : capAt num den flows (wsum L) s = 0 := by simp [capAt, hw]
  rw [this]
  exact set_same (caps_zero hk)

set_option maxHeartbeats 4000000 in
set_option maxRecDepth 100000 in
theorem prog_Caps_ok (v : Value) (L : List Ld) (num den flows : Int) (w : World) (hv : RowAt w 3 v (L.map Ld.cells)) (h : LdsMay L) (h2 : FacMay num den flows) : Calls Try.prog 37 #[v, .int .i64 num, .int .i64 den, .int .i64 flows] w (CapsPost w (capsL L num den flows) 0) := by
  obtain ⟨i0, hi, hi0, hi1, hi2⟩ := info_parts info_capint
  have H := Lib.hid h
  have R := Lib.hid hv
  obtain ⟨a, c, rfl, l, m, n, p⟩ := RowAt_fn Ld.zero hv
  have P := Lib.hid p
  have h12 : L.length ≤ 12 := h.1
  have hF := Lib.hid h2
  have h96 := wsum_96 h
  obtain ⟨d1, d2, d3, d4, d5⟩ := h2
  clear h hv p l m n
  go_enter Try.func37, Try.ntmps37
  go_wp2_with (first | (go_at_call 60; refine (prog_may _ L true _ R.out (Or.inl ⟨H.out, rfl⟩)).mono ?_; rintro e w1 ⟨rfl, hb1⟩; obtain ⟨hc1, hf1⟩ := bcell hb1; have hz1 := blt hb1; have hy1 := hb1.size; (try simp at hy1)) | go_in)
  go_loopw [10, 33] (fun t i wr => ∃ k : Nat, k ≤ L.length ∧ i = .int .i64 k ∧ t = .int .i64 (wsum (L.take k)) ∧ Below w.heap.size w wr) (fun _ i _ => L.length - (intOf i).toNat)
  case atStart => exact ⟨0, Nat.zero_le _, rfl, rfl, hb1⟩
  case round =>
    obtain ⟨k, hk, rfl, rfl, hb⟩ := hrel
    have HB := Lib.hid hb
    clear hc1 hf1 hz1 hb1
    have t1 := wsum_bd H.out hk
    rcases (show k < L.length ∨ L.length = k by omega) with hlt | heq
    · have hlt' : (k : Int) < (L.length : Int) := by omega
      obtain ⟨b0, o0, rfl, hb0, q⟩ := P.out (by intro h; rw [h] at hlt; simp at hlt)
      obtain ⟨s, hs⟩ : ∃ s, s = L.getD k Ld.zero := ⟨_, rfl⟩
      have hold : ∀ j, j < 3 → wr.cell? ⟨b0, o0 + k * 3 + j, none⟩ = s.cells[j]? := fun j hj => by
        rw [hb.cell (p := ⟨b0, o0 + k * 3 + j, none⟩) hb0, hs]; exact q k j hlt hj
      have a0 := hold 0 (by omega)
      have a1 := hold 1 (by omega)
      have a2 := hold 2 (by omega)
      have hat : LdAt L k := H.out.2 k hlt
      have hw := Lib.hid (wsum_snoc hlt)
      rw [← hs] at hw
      have w1' : 0 ≤ s.weight ∧ s.weight ≤ 8 := by unfold LdAt at hat; rw [← hs] at hat; exact ⟨hat.2.2.1, hat.2.2.2.1⟩
      obtain ⟨w1', w2'⟩ := w1'
      clear hold hs q hat hb
      obtain ⟨bk, wt, fl⟩ := s
      simp only [Ld.cells, List.getElem?_cons_zero, List.getElem?_cons_succ, Nat.add_zero] at a0 a1 a2 w1' w2'
      go_wp2
      go_roundw
      case rel => exact ⟨k + 1, by omega, by go_num, by rw [hw.out], HB.out.alloc HB.out.size _⟩
      case measure => simp [intOf]; omega
    · have hge : ¬ (k : Int) < (L.length : Int) := by omega
      obtain ⟨T, hT⟩ : ∃ T, T = wsum (L.take k) := ⟨_, rfl⟩
      have HT : Hid (T = wsum L) := by rw [hT, List.take_of_length_le (by omega)]; rfl
      rw [← hT] at t1 ⊢
      clear hb hT
      have heq' := Lib.hid heq
      clear heq
      go_wp2_with (at_make; go_loud (refine wpList_make_full _ rfl _ _ 65 rfl w.heap.size 3 i0 (.int .i64 0) 1 Try.underlying65 hi hi0 hi1 .i64 .i64 L.length L.length L.length rfl rfl rfl rfl ?c1 ?c2 ?c3 ?_))
      case c1 => try rw [hi2]
                 omega
      case c2 => unfold maxLen; omega
      case c3 => exact HB.out.size
      intro w2 hown hgrow
      have hm : (madeCells #[.int .i64 0] L.length).toList = (((capsL L num den flows).take 0 ++ List.replicate (L.length - 0) 0).map (Value.int .i64)) := by
        have h := madeCells_toList #[.int .i64 0] L.length (by decide)
        rw [show L.length * (#[Value.int IntKind.i64 0]).size = L.length by simp] at h
        rw [h]; simp
      rw [hm] at hown
      have B0 : Below wr.heap.size wr w2 := (Below.refl _ _).grown hgrow (by simp) (fun k hk => by cases hk)
      have HB2 := Lib.hid (HB.out.trans (B0.mono HB.out.size))
      have HO := Lib.hid hown
      obtain ⟨g, hg⟩ : ∃ g, g = wr.heap.size := ⟨_, rfl⟩
      have hg1 : w.heap.size ≤ g := by have := HB.out.size; omega
      rw [← hg] at HO ⊢
      clear hown hgrow B0 hg HB hm
      go_wp2_with fail
      go_loopw [47] (fun i wr => ∃ k : Nat, k ≤ L.length ∧ i = .int .i64 k ∧ CpRel w wr L num den flows g k) (fun i _ => L.length - (intOf i).toNat)
      case atStart => exact ⟨0, Nat.zero_le _, rfl, HB2.out, hg1, HO.out⟩
      case round =>
        obtain ⟨k, hk, rfl, hb, hg2, hown⟩ := hrel
        have HB3 := Lib.hid hb
        have HO3 := Lib.hid hown
        clear HB2 HO hown
        have gl : g < wr.heap.size := (HO3.out.lt _ rfl).2
        rcases (show k < L.length ∨ L.length = k by omega) with hlt | heq
        · have hlt' : (k : Int) < (L.length : Int) := by omega
          obtain ⟨b0, o0, rfl, hb0, q⟩ := P.out (by intro h; rw [h] at hlt; simp at hlt)
          obtain ⟨s, hs⟩ : ∃ s, s = L.getD k Ld.zero := ⟨_, rfl⟩
          have hold : ∀ j, j < 3 → wr.cell? ⟨b0, o0 + k * 3 + j, none⟩ = s.cells[j]? := fun j hj => by
            rw [hb.cell (p := ⟨b0, o0 + k * 3 + j, none⟩) hb0, hs]; exact q k j hlt hj
          have a0 := hold 0 (by omega)
          have a1 := hold 1 (by omega)
          have a2 := hold 2 (by omega)
          have hat : LdAt L k := H.out.2 k hlt
          have hge : s.weight ≤ T := by rw [HT.out, hs]; exact wsum_ge H.out hlt
          have hT96 : T ≤ 96 := by rw [HT.out]; exact h96
          have w1' : 0 ≤ s.weight ∧ s.weight ≤ 8 := by unfold LdAt at hat; rw [← hs] at hat; exact ⟨hat.2.2.1, hat.2.2.2.1⟩
          obtain ⟨w1', w2'⟩ := w1'
          have hSK := Lib.hid (fun hw => caps_skip (num := num) (den := den) (flows := flows) hlt hs hw)
          have hset : (((capsL L num den flows).take (k + 1) ++ List.replicate (L.length - (k + 1)) 0).map (Value.int .i64)) = (((capsL L num den flows).take k ++ List.replicate (L.length - k) 0).map (Value.int .i64)).set k (.int .i64 (capAt num den flows (wsum L) s)) := by rw [caps_step hlt hs, List.map_set]
          have e1 : wr.cell? ⟨g, k, none⟩ = some (.int .i64 0) := by rw [HO3.out.cellAt k (by omega), List.getElem?_map, caps_zero hlt]; rfl
          have e2 : wr.frozen? ⟨g, k, none⟩ = false := HO3.out.frozenAt k
          have HS := Lib.hid hset
          clear hold hs q hat hb hset
          obtain ⟨bk, wt, fl⟩ := s
          simp only [Ld.cells, List.getElem?_cons_zero, List.getElem?_cons_succ, Nat.add_zero] at a0 a1 a2 w1' w2' hge
          by_cases hw : 0 < wt
          · have hmay : CapMay num den flows wt T := ⟨d1, d2, d3, d4, d5, by omega, hge, hT96⟩
            have HM := Lib.hid hmay
            have HV : Hid (capOf num den flows wt T = capAt num den flows (wsum L) ⟨bk, wt, fl⟩) := by rw [HT.out]; simp [Hid, capAt, hw]
            clear hmay
            go_wp2_with (go_at_call 62; refine (prog_Cap _ _ _ _ _ _ HM.out).mono ?_; rintro e w' ⟨rfl, rfl⟩)
            go_roundw
            case rel => exact ⟨k + 1, by omega, by go_num, (HB3.out.setCell (by first | omega | (simp; done) | (simp; omega)) _).alloc (by simp; exact HB3.out.size) _, hg2, by rw [HS.out, ← HV.out]; exact (HO3.out.stored k _).1.alloc _⟩
            case measure => simp [intOf]; omega
          · have hd : decide (0 < wt) = false := by simpa using hw
            go_wp2
            go_roundw
            case rel => exact ⟨k + 1, by omega, by go_num, HB3.out.alloc HB3.out.size _, hg2, by rw [hSK.out hw]; exact HO3.out.alloc _⟩
            case measure => simp [intOf]; omega
        · have hge : ¬ (k : Int) < (L.length : Int) := by omega
          have hEQ := Lib.hid heq
          clear hb heq
          go_wp2
          refine bodyPost_ret (v := .tuple #[.slice (some ⟨g, 0, none⟩) L.length L.length, .int .i64 0]) ?_ rfl ⟨_, rfl, ?_, HB3.out⟩
          · simp [results, Try.results37, go_sem, *]
          · refine RowNew_of_owns (e := 3) (n := L.length) ?_ (by simp [capsL]) (intrel _)
            have h := HO3.out
            have e : (capsL L num den flows).take k ++ List.replicate (L.length - k) 0 = capsL L num den flows := by
              have := hEQ.out; rw [List.take_of_length_le (by simp [capsL]; omega), show L.length - k = 0 by omega]; simp
            rw [e] at h
            rw [int_flat]
            exact h
end Go.Proofs.Ytjfnnbbnkcdbcaa
