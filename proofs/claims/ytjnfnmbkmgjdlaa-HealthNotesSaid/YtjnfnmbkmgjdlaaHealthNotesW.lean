/- The walk of HealthNotes. -/
import Derived.Test.YtjnfnmbkmgjdlaaNoteR
import Derived.Test.YtjnfnmbkmgjdlaaSameHealth
namespace Go.Proofs.Ytjnfnmbkmgjdlaa
open Go.RowKit

set_option maxHeartbeats 4000000 in
set_option maxRecDepth 100000 in
theorem HealthNotes_w (a b c : Int) (M M' : List Bool) (out out' : Bool) (u t u' t' : Int) (failed : Bool) (now : Int) (may : Bool) (came : Bool) (code : Int) (s : Value) (W : World) (r : RowAt W 1 s (bcells M)) (hn : M.length ≤ 140737488351232)
    (h1 : ∀ (v : Value) (w : World), RowAt w 1 v (bcells M) → Calls Try.prog 16 #[.agg #[.int .i64 a, .int .i64 b, .int .i64 c], .agg #[v, .bool out, .int .i64 u, .int .i64 t], .bool failed, .int .i64 now, .bool may] w (HPost w M' out' u' t' came code))
    (h2 : ∀ (v : Value) (w : World), RowAt w 1 v (bcells M) → Calls Try.prog 17 #[.agg #[.int .i64 a, .int .i64 b, .int .i64 c], .agg #[v, .bool out, .int .i64 u, .int .i64 t], .bool failed, .int .i64 now, .bool may] w (HPost w M' out' u' t' came code)) :
    Calls Try.prog 5 #[.agg #[.int .i64 a, .int .i64 b, .int .i64 c], .agg #[s, .bool out, .int .i64 u, .int .i64 t], .bool failed, .int .i64 now, .bool may] W fun e w' => e = .returned (.bool true) ∧ Below W.heap.size W w' := by
  obtain ⟨ad, cp, rfl, _⟩ := bshape r
  have H1 := Lib.hid h1
  have H2 := Lib.hid h2
  have R := Lib.hid r
  have HN := Lib.hid hn
  clear h1 h2 r hn
  go_enter Try.func5, Try.ntmps5
  go_wp2_with fail
  refine (healths_copy _ M out u t _ (RowAt_alloc (RowAt_alloc R.out _) _) HN.out).mono ?_
  rintro e w1 ⟨v1, rfl, R1, hb1⟩
  obtain ⟨a1, c1, rfl, _⟩ := bshape R1
  have B1 := Lib.hid ((((Below.refl W.heap.size W).alloc (by first | omega | (simp; done) | (simp; omega)) _).alloc (by first | omega | (simp; done) | (simp; omega)) _).trans (hb1.mono (by first | omega | (simp; done) | (simp; omega))))
  have Rc := Lib.hid R1
  obtain ⟨hc1, hf1⟩ := bcell hb1
  have hz1 := blt hb1
  have s1 := hb1.size
  simp at s1
  (try have kw1_0 : W.heap.size < w1.heap.size := by omega); (try have kw1_1 : W.heap.size + 1 < w1.heap.size := by omega); (try have kw1_2 : W.heap.size + 1 + 1 < w1.heap.size := by omega)
  have n10 : W.heap.size + 1 < w1.heap.size + 1 := by omega
  have n11 : W.heap.size < w1.heap.size + 1 := by omega
  clear R1 hb1
  go_wp2_with fail
  refine (H1.out _ _ (by repeat (first | (exact Rc.out) | (with_reducible refine RowAt_alloc ?_ _) | (with_reducible refine RowAt_drewN ?_ _)))).mono ?_
  rintro e w2 ⟨v2, rfl, R2, hb2⟩
  obtain ⟨a2, c2, rfl, _⟩ := bshape R2
  have B2 := Lib.hid (show Below W.heap.size W w2 from (by refine Below.trans ?_ (Below.mono hb2 (by first | omega | (simp; done) | (simp; omega))); repeat (first | (with_reducible exact B1.out) | (with_reducible refine Below.drew ?_) | (with_reducible refine Below_drewN ?_) | (with_reducible refine Below.alloc ?_ (by first | omega | (simp; done) | (simp; omega)) _) | (with_reducible refine Below.setCell ?_ (by first | omega | (simp; done) | (simp; omega)) _))))
  have Ra := Lib.hid R2
  obtain ⟨hc2, hf2⟩ := bcell hb2
  have hz2 := blt hb2
  have s2 := hb2.size
  simp at s2
  (try have kw2_0 : W.heap.size < w2.heap.size := by omega); (try have kw2_1 : W.heap.size + 1 < w2.heap.size := by omega); (try have kw2_2 : W.heap.size + 1 + 1 < w2.heap.size := by omega)
  have m21 : w1.heap.size < w2.heap.size := by omega
  have m22 : w1.heap.size < w2.heap.size + 1 := by omega
  have n20 : W.heap.size + 1 < w2.heap.size + 1 := by omega
  have n21 : W.heap.size < w2.heap.size + 1 := by omega
  have Rc2 := Lib.hid ((by repeat (first | (exact Rc.out) | (with_reducible refine RowAt_alloc ?_ _) | (with_reducible refine RowAt_drewN ?_ _) | (refine RowAt_below ?_ ( hb2)))) : RowAt w2 1 (.slice a1 M.length c1) (bcells M))
  have Rt2 := Lib.hid (RowAt_below R.out B2.out)
  clear R2 hb2 Rc B1
  go_wp2_with fail
  refine (H2.out _ _ (by repeat (first | (exact Rt2.out) | (with_reducible refine RowAt_alloc ?_ _) | (with_reducible refine RowAt_drewN ?_ _)))).mono ?_
  rintro e w3 ⟨v3, rfl, R3, hb3⟩
  obtain ⟨a3, c3, rfl, _⟩ := bshape R3
  have B3 := Lib.hid (show Below W.heap.size W w3 from (by refine Below.trans ?_ (Below.mono hb3 (by first | omega | (simp; done) | (simp; omega))); repeat (first | (with_reducible exact B2.out) | (with_reducible refine Below.drew ?_) | (with_reducible refine Below_drewN ?_) | (with_reducible refine Below.alloc ?_ (by first | omega | (simp; done) | (simp; omega)) _) | (with_reducible refine Below.setCell ?_ (by first | omega | (simp; done) | (simp; omega)) _))))
  have Rb := Lib.hid R3
  obtain ⟨hc3, hf3⟩ := bcell hb3
  have hz3 := blt hb3
  have s3 := hb3.size
  simp at s3
  (try have kw3_0 : W.heap.size < w3.heap.size := by omega); (try have kw3_1 : W.heap.size + 1 < w3.heap.size := by omega); (try have kw3_2 : W.heap.size + 1 + 1 < w3.heap.size := by omega)
  have m31 : w1.heap.size < w3.heap.size := by omega
  have m32 : w2.heap.size < w3.heap.size := by omega
  have m33 : w1.heap.size < w3.heap.size + 1 := by omega
  have m34 : w2.heap.size < w3.heap.size + 1 := by omega
  have n30 : W.heap.size + 1 < w3.heap.size + 1 := by omega
  have n31 : W.heap.size < w3.heap.size + 1 := by omega
  have Ra3 := Lib.hid ((by repeat (first | (exact Ra.out) | (with_reducible refine RowAt_alloc ?_ _) | (with_reducible refine RowAt_drewN ?_ _) | (refine RowAt_below ?_ ( hb3)))) : RowAt w3 1 (.slice a2 M'.length c2) (bcells M'))
  have Rc3 := Lib.hid ((by repeat (first | (exact Rc2.out) | (with_reducible refine RowAt_alloc ?_ _) | (with_reducible refine RowAt_drewN ?_ _) | (refine RowAt_below ?_ ( hb3)))) : RowAt w3 1 (.slice a1 M.length c1) (bcells M))
  have Rt3 := Lib.hid (RowAt_below R.out B3.out)
  clear R3 hb3 Rc2 Rt2 B2 Ra
  go_wp2_with fail
  refine (sameHealth_yes _ _ M' _ _ _ _ (by repeat (first | (exact Ra3.out) | (with_reducible refine RowAt_alloc ?_ _) | (with_reducible refine RowAt_drewN ?_ _))) (by repeat (first | (exact Rb.out) | (with_reducible refine RowAt_alloc ?_ _) | (with_reducible refine RowAt_drewN ?_ _)))).mono ?_
  rintro e w4 ⟨rfl, hb4⟩
  have B4 := Lib.hid (show Below W.heap.size W w4 from (by refine Below.trans ?_ (Below.mono hb4 (by first | omega | (simp; done) | (simp; omega))); repeat (first | (with_reducible exact B3.out) | (with_reducible refine Below.drew ?_) | (with_reducible refine Below_drewN ?_) | (with_reducible refine Below.alloc ?_ (by first | omega | (simp; done) | (simp; omega)) _) | (with_reducible refine Below.setCell ?_ (by first | omega | (simp; done) | (simp; omega)) _))))
  obtain ⟨hc4, hf4⟩ := bcell hb4
  have hz4 := blt hb4
  have s4 := hb4.size
  simp at s4
  (try have kw4_0 : W.heap.size < w4.heap.size := by omega); (try have kw4_1 : W.heap.size + 1 < w4.heap.size := by omega); (try have kw4_2 : W.heap.size + 1 + 1 < w4.heap.size := by omega)
  have m41 : w1.heap.size < w4.heap.size := by omega
  have Rc4 := Lib.hid ((by repeat (first | (exact Rc3.out) | (with_reducible refine RowAt_alloc ?_ _) | (with_reducible refine RowAt_drewN ?_ _) | (refine RowAt_below ?_ ( hb4)))) : RowAt w4 1 (.slice a1 M.length c1) (bcells M))
  have Rt4 := Lib.hid (RowAt_below R.out B4.out)
  clear hb4 Ra3 Rb Rc3 Rt3 B3
  go_wp2_with fail
  refine (sameHealth_yes _ _ M _ _ _ _ (by repeat (first | (exact Rc4.out) | (with_reducible refine RowAt_alloc ?_ _) | (with_reducible refine RowAt_drewN ?_ _))) (by repeat (first | (exact Rt4.out) | (with_reducible refine RowAt_alloc ?_ _) | (with_reducible refine RowAt_drewN ?_ _)))).mono ?_
  rintro e w5 ⟨rfl, hb5⟩
  have B5 := Lib.hid ((by refine Below.trans ?_ (Below.mono hb5 (by first | omega | (simp; done) | (simp; omega))); repeat (first | (with_reducible exact B4.out) | (with_reducible refine Below.drew ?_) | (with_reducible refine Below_drewN ?_) | (with_reducible refine Below.alloc ?_ (by first | omega | (simp; done) | (simp; omega)) _) | (with_reducible refine Below.setCell ?_ (by first | omega | (simp; done) | (simp; omega)) _))) : Below W.heap.size W w5)
  clear hb5
  go_wp2
  all_goals first | (go_ret; exact ⟨rfl, B5.out⟩) | (exfalso; first | omega | (simp at *; omega) | (simp at *; done))

theorem prog_Note (a b c : Int) (M : List Bool) (out : Bool) (u t : Int) (failed : Bool) (now : Int) (may : Bool) (M' : List Bool) (out' : Bool) (u' t' : Int) (came : Bool) (code : Int) (v : Value) (w : World) (r : RowAt w 1 v (bcells M)) (h : NoteAns a b c M out u t failed now may M' out' u' t' came code) :
    Calls Try.prog 16 #[.agg #[.int .i64 a, .int .i64 b, .int .i64 c], .agg #[v, .bool out, .int .i64 u, .int .i64 t], .bool failed, .int .i64 now, .bool may] w (HPost w M' out' u' t' came code) := by
  by_cases h0 : code = 0
  · subst h0
    have h3 := (HtCode_ok h.1).2.2.2
    obtain ⟨T, rfl⟩ := Int.eq_ofNat_of_zero_le h3.2.1
    exact prog_Note_ok a b c M out u T failed now may M' out' u' t' came v w r h.1 h
  · rcases h with ⟨hc, ⟨_, rfl, rfl, rfl, rfl, rfl⟩ | ⟨h, _⟩ | ⟨h, _⟩⟩
    · exact prog_Note_bad a b c M out u t failed now may code v w r hc h0
    · exact absurd h h0
    · exact absurd h h0
theorem ref_Note (a b c : Int) (M : List Bool) (out : Bool) (u t : Int) (failed : Bool) (now : Int) (may : Bool) (M' : List Bool) (out' : Bool) (u' t' : Int) (came : Bool) (code : Int) (v : Value) (w : World) (r : RowAt w 1 v (bcells M)) (h : NoteAns a b c M out u t failed now may M' out' u' t' came code) :
    Calls Try.prog 17 #[.agg #[.int .i64 a, .int .i64 b, .int .i64 c], .agg #[v, .bool out, .int .i64 u, .int .i64 t], .bool failed, .int .i64 now, .bool may] w (HPost w M' out' u' t' came code) := by
  by_cases h0 : code = 0
  · subst h0
    have h3 := (HtCode_ok h.1).2.2.2
    obtain ⟨T, rfl⟩ := Int.eq_ofNat_of_zero_le h3.2.1
    exact ref_Note_ok a b c M out u T failed now may M' out' u' t' came v w r h.1 h
  · rcases h with ⟨hc, ⟨_, rfl, rfl, rfl, rfl, rfl⟩ | ⟨h, _⟩ | ⟨h, _⟩⟩
    · exact ref_Note_bad a b c M out u t failed now may code v w r hc h0
    · exact absurd h h0
    · exact absurd h h0
theorem walk_HealthNotes (v0 v1 v2 v3 v4 : Value) (W : World) (o0 : Is_Watch W v0) (o1 : Is_Health W v1) (o2 : Is_bool W v2) (o3 : Is_int W v3) (o4 : Is_bool W v4) :
    Calls Try.prog 5 #[v0, v1, v2, v3, v4] W fun e w' => e = .returned (.bool true) ∧ Below W.heap.size W w' := by
  obtain ⟨a, b, c, rfl, _, _, _⟩ := o0
  obtain ⟨m, M, out, u, t, rfl, r, hn, _, _⟩ := o1
  obtain ⟨failed, rfl⟩ := o2
  obtain ⟨now, rfl, _⟩ := o3
  obtain ⟨may, rfl⟩ := o4
  obtain ⟨M', out', u', t', came, code, h⟩ := NoteAns_total a b c M out u t failed now may
  exact HealthNotes_w a b c M M' out out' u t u' t' failed now may came code m W r hn (fun v w r => prog_Note a b c M out u t failed now may M' out' u' t' came code v w r h) (fun v w r => ref_Note a b c M out u t failed now may M' out' u' t' came code v w r h)
end Go.Proofs.Ytjnfnmbkmgjdlaa
