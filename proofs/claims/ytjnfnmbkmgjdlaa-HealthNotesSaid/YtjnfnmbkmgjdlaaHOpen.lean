/- api.Health as it comes in; health.open and usherref.healthFault: their contracts. -/
import Derived.Test.YtjnfnmbkmgjdlaaHealth
import Derived.Test.YtjnfnmbkmgjdlaaOwn
namespace Go.Proofs.Ytjnfnmbkmgjdlaa
open Go.ChangeShapes Go.WideShapes Go.ChangeAt Go.RowKit

def bcells (M : List Bool) : List (List Value) := M.map fun b => [Value.bool b]
theorem bool_of_flat {cs : List Value} (h : FlatC [none] cs) : ∃ x : Bool, cs = [Value.bool x] ∧ True := by
  obtain ⟨b, _, rfl, h1⟩ := FlatC_bool h
  obtain rfl := FlatC_nil h1
  exact ⟨b, rfl, trivial⟩
def Is_Health (W : World) (v : Value) : Prop := ∃ (m : Value) (M : List Bool) (out : Bool) (until_ times : Int), v = .agg #[m, .bool out, .int .i64 until_, .int .i64 times] ∧ RowAt W 1 m (bcells M) ∧ M.length ≤ 140737488351232 ∧ I64 until_ ∧ I64 times
section
variable {H : Type} {enc : TypeId × Value → H} {W : World} {base : Nat} {v : Value} {d : DataW H} {p : List MemPlace}
theorem opn_Health (hv : Value.okWide Try.prog W .any base 40 v) (h : DataW.Trod enc Try.prog W 0 (fun _ => true) true 40 v d p) (hz : ∀ y ∈ d.weights Try.prog 40, y ≤ reachBytes) : Is_Health W v := by
  obtain ⟨cs, rfl, hlen, n, hf⟩ := open_fields Try.underlying40 hv h hz
  rw [show Try.prog.cellsOf 40 = 4 from by kernel_rfl] at hlen
  obtain ⟨c0, c1, c2, c3, rfl⟩ : ∃ c0 c1 c2 c3, cs = [c0, c1, c2, c3] := by
    match cs, hlen with
    | [c0, c1, c2, c3], _ => exact ⟨c0, c1, c2, c3, rfl⟩
  obtain ⟨x0, h0, z0⟩ := hf 0 _ rfl
  obtain ⟨x1, h1, _⟩ := hf 1 _ rfl
  obtain ⟨x2, h2, _⟩ := hf 2 _ rfl
  obtain ⟨x3, h3, _⟩ := hf 3 _ rfl
  have h0 : DataW.trod enc Try.prog W 0 (fun _ => true) true n 38 ((([c0, c1, c2, c3] : List Value).drop 0).take (Try.prog.cellsOf 38)) = some x0 := h0
  have h1 : DataW.trod enc Try.prog W 0 (fun _ => true) true n 4 ((([c0, c1, c2, c3] : List Value).drop 1).take (Try.prog.cellsOf 4)) = some x1 := h1
  have h2 : DataW.trod enc Try.prog W 0 (fun _ => true) true n 3 ((([c0, c1, c2, c3] : List Value).drop 2).take (Try.prog.cellsOf 3)) = some x2 := h2
  have h3 : DataW.trod enc Try.prog W 0 (fun _ => true) true n 3 ((([c0, c1, c2, c3] : List Value).drop 3).take (Try.prog.cellsOf 3)) = some x3 := h3
  rw [show Try.prog.cellsOf 38 = 1 from by kernel_rfl] at h0
  rw [show Try.prog.cellsOf 4 = 1 from by kernel_rfl] at h1
  rw [show Try.prog.cellsOf 3 = 1 from by kernel_rfl] at h2 h3
  simp only [List.drop_succ_cons, List.drop_zero, List.take_succ_cons, List.take_zero] at h0 h1 h2 h3
  obtain ⟨s, L, hs, hL⟩ := open_slflat_cells 6 Try.underlying38 (by kernel_rfl : flatK Try.prog 6 4 = some [none]) (by kernel_rfl : Try.prog.cellsOf 4 = 1) h0 z0
  simp only [List.cons.injEq, and_true] at hs
  subst hs
  rw [show Try.prog.bytesOf 4 = 1 from by kernel_rfl] at hL
  obtain ⟨M, r1, _, r3⟩ := open_rows (f := fun b : Bool => [Value.bool b]) (by decide) (fun _ => bool_of_flat) hL
  have f1 := flat_of_trod 6 _ _ (by kernel_rfl : flatK Try.prog 6 4 = some [none]) _ _ _ h1
  have f2 := flat_of_trod 6 _ _ (by kernel_rfl : flatK Try.prog 6 3 = some [some .i64]) _ _ _ h2
  have f3 := flat_of_trod 6 _ _ (by kernel_rfl : flatK Try.prog 6 3 = some [some .i64]) _ _ _ h3
  obtain ⟨o, _, e1, g1⟩ := FlatC_bool f1
  obtain ⟨u, _, e2, w2, g2⟩ := FlatC_int f2
  obtain ⟨t, _, e3, w3, g3⟩ := FlatC_int f3
  simp only [List.cons.injEq] at e1 e2 e3
  obtain ⟨rfl, _⟩ := e1
  obtain ⟨rfl, _⟩ := e2
  obtain ⟨rfl, _⟩ := e3
  exact ⟨_, M, o, u, t, rfl, r1, by omega, I64_of_wf w2, I64_of_wf w3⟩
end

/-- P10.2: may a health be, in a watch's window? -/
def HtOk (a : Int) (n : Nat) (out : Bool) (u t : Int) : Prop := (n : Int) ≤ a ∧ 0 ≤ t ∧ t ≤ 10 ∧ 0 ≤ u ∧ u ≤ 1099511628276 ∧ (out = false → u = 0)
theorem not_HtOk {a : Int} {n : Nat} {out : Bool} {u t : Int} (h : ¬ HtOk a n out u t) : a < (n : Int) ∨ ((n : Int) ≤ a ∧ t < 0) ∨ ((n : Int) ≤ a ∧ 0 ≤ t ∧ 10 < t) ∨ ((n : Int) ≤ a ∧ 0 ≤ t ∧ t ≤ 10 ∧ u < 0) ∨ ((n : Int) ≤ a ∧ 0 ≤ t ∧ t ≤ 10 ∧ 0 ≤ u ∧ 1099511628276 < u) ∨ ((n : Int) ≤ a ∧ 0 ≤ t ∧ t ≤ 10 ∧ 0 < u ∧ u ≤ 1099511628276 ∧ out = false) := by
  unfold HtOk at h
  cases out with
  | true => simp at h ⊢; omega
  | false => simp at h ⊢; omega
/-- What open answers. -/
def HtCode (a b c : Int) (n : Nat) (out : Bool) (u t now : Int) (code : Int) : Prop := (¬ WatMay a b c ∧ code = 2) ∨ (WatMay a b c ∧ (now < 0 ∨ (0 ≤ now ∧ 1099511627776 < now)) ∧ code = 2) ∨ (WatMay a b c ∧ 0 ≤ now ∧ now ≤ 1099511627776 ∧ ¬ HtOk a n out u t ∧ code = 6) ∨ (WatMay a b c ∧ 0 ≤ now ∧ now ≤ 1099511627776 ∧ HtOk a n out u t ∧ code = 0)
theorem HtCode_total (a b c : Int) (n : Nat) (out : Bool) (u t now : Int) : ∃ code, HtCode a b c n out u t now code := by
  by_cases h : WatMay a b c
  · by_cases h2 : now < 0 ∨ (0 ≤ now ∧ 1099511627776 < now)
    · exact ⟨_, Or.inr (Or.inl ⟨h, h2, rfl⟩)⟩
    · by_cases h3 : HtOk a n out u t
      · exact ⟨_, Or.inr (Or.inr (Or.inr ⟨h, by omega, by omega, h3, rfl⟩))⟩
      · exact ⟨_, Or.inr (Or.inr (Or.inl ⟨h, by omega, by omega, h3, rfl⟩))⟩
  · exact ⟨_, Or.inl ⟨h, rfl⟩⟩
theorem HtCode_codes {a b c : Int} {n : Nat} {out : Bool} {u t now code : Int} (h : HtCode a b c n out u t now code) : code = 2 ∨ code = 6 ∨ code = 0 := by
  rcases h with ⟨_, h⟩ | ⟨_, _, h⟩ | ⟨_, _, _, _, h⟩ | ⟨_, _, _, _, h⟩ <;> omega

set_option maxHeartbeats 4000000 in
set_option maxRecDepth 100000 in
theorem prog_hopen (a b c : Int) (m : Option Addr) (n cap : Nat) (out : Bool) (u t now code : Int) (w : World) (h : HtCode a b c n out u t now code) : Calls Try.prog 30 #[.agg #[.int .i64 a, .int .i64 b, .int .i64 c], .agg #[.slice m n cap, .bool out, .int .i64 u, .int .i64 t], .int .i64 now] w fun e w' => e = .returned (.int .i64 code) ∧ Below w.heap.size w w' := by
  rcases h with ⟨h, rfl⟩ | ⟨h, h2, rfl⟩ | ⟨h, h2, h3, h4, rfl⟩ | ⟨h, h2, h3, h4, rfl⟩
  · have H := Lib.hid h
    clear h
    go_enter Try.func30, Try.ntmps30
    go_wp2_with (go_at_call 43; refine (prog_HCheck_bad _ _ _ _ H.out).mono ?_; rintro e w1 ⟨rfl, hb1⟩; obtain ⟨hc1, hf1⟩ := bcell hb1; have hz1 := blt hb1; have hy1 := hb1.size; (try simp at hy1))
    all_goals first | (go_ret; exact ⟨rfl, (by repeat (first | (with_reducible exact Below.refl _ _) | (with_reducible assumption) | (with_reducible refine Below.drew ?_) | (with_reducible refine Below_drewN ?_) | (with_reducible refine Below.alloc ?_ (by first | omega | (simp; done) | (simp; omega)) _) | (with_reducible refine Below.setCell ?_ (by first | omega | (simp; done) | (simp; omega)) _) | (with_reducible refine Below.trans ?_ (Below.mono (by assumption) (by first | omega | (simp; done) | (simp; omega))))))⟩) | (exfalso; first | omega | (simp at *; omega) | (simp at *; done))
  · have H := Lib.hid h
    clear h
    rcases h2 with h2 | ⟨h2, h3⟩
    all_goals
      go_enter Try.func30, Try.ntmps30
      go_wp2_with (first | (go_at_call 43; refine (prog_HCheck_ok _ _ _ _ H.out).mono ?_; rintro e w1 ⟨rfl, hb1⟩; obtain ⟨hc1, hf1⟩ := bcell hb1; have hz1 := blt hb1; have hy1 := hb1.size; (try simp at hy1)))
      all_goals first | (go_ret; exact ⟨rfl, (by repeat (first | (with_reducible exact Below.refl _ _) | (with_reducible assumption) | (with_reducible refine Below.drew ?_) | (with_reducible refine Below_drewN ?_) | (with_reducible refine Below.alloc ?_ (by first | omega | (simp; done) | (simp; omega)) _) | (with_reducible refine Below.setCell ?_ (by first | omega | (simp; done) | (simp; omega)) _) | (with_reducible refine Below.trans ?_ (Below.mono (by assumption) (by first | omega | (simp; done) | (simp; omega))))))⟩) | (exfalso; first | omega | (simp at *; omega) | (simp at *; done))
  · have H := Lib.hid h
    clear h
    rcases not_HtOk h4 with k1 | ⟨k1, k2⟩ | ⟨k1, k2, k3⟩ | ⟨k1, k2, k3, k4⟩ | ⟨k1, k2, k3, k4, k5⟩ | ⟨k1, k2, k3, k4, k5, rfl⟩
    · clear h4
      go_enter Try.func30, Try.ntmps30
      go_wp2_with (first | (go_at_call 43; refine (prog_HCheck_ok _ _ _ _ H.out).mono ?_; rintro e w1 ⟨rfl, hb1⟩; obtain ⟨hc1, hf1⟩ := bcell hb1; have hz1 := blt hb1; have hy1 := hb1.size; (try simp at hy1)))
      all_goals first | (go_ret; exact ⟨rfl, (by repeat (first | (with_reducible exact Below.refl _ _) | (with_reducible assumption) | (with_reducible refine Below.drew ?_) | (with_reducible refine Below_drewN ?_) | (with_reducible refine Below.alloc ?_ (by first | omega | (simp; done) | (simp; omega)) _) | (with_reducible refine Below.setCell ?_ (by first | omega | (simp; done) | (simp; omega)) _) | (with_reducible refine Below.trans ?_ (Below.mono (by assumption) (by first | omega | (simp; done) | (simp; omega))))))⟩) | (exfalso; first | omega | (simp at *; omega) | (simp at *; done))
    · clear h4
      go_enter Try.func30, Try.ntmps30
      go_wp2_with (first | (go_at_call 43; refine (prog_HCheck_ok _ _ _ _ H.out).mono ?_; rintro e w1 ⟨rfl, hb1⟩; obtain ⟨hc1, hf1⟩ := bcell hb1; have hz1 := blt hb1; have hy1 := hb1.size; (try simp at hy1)))
      all_goals first | (go_ret; exact ⟨rfl, (by repeat (first | (with_reducible exact Below.refl _ _) | (with_reducible assumption) | (with_reducible refine Below.drew ?_) | (with_reducible refine Below_drewN ?_) | (with_reducible refine Below.alloc ?_ (by first | omega | (simp; done) | (simp; omega)) _) | (with_reducible refine Below.setCell ?_ (by first | omega | (simp; done) | (simp; omega)) _) | (with_reducible refine Below.trans ?_ (Below.mono (by assumption) (by first | omega | (simp; done) | (simp; omega))))))⟩) | (exfalso; first | omega | (simp at *; omega) | (simp at *; done))
    · clear h4
      go_enter Try.func30, Try.ntmps30
      go_wp2_with (first | (go_at_call 43; refine (prog_HCheck_ok _ _ _ _ H.out).mono ?_; rintro e w1 ⟨rfl, hb1⟩; obtain ⟨hc1, hf1⟩ := bcell hb1; have hz1 := blt hb1; have hy1 := hb1.size; (try simp at hy1)))
      all_goals first | (go_ret; exact ⟨rfl, (by repeat (first | (with_reducible exact Below.refl _ _) | (with_reducible assumption) | (with_reducible refine Below.drew ?_) | (with_reducible refine Below_drewN ?_) | (with_reducible refine Below.alloc ?_ (by first | omega | (simp; done) | (simp; omega)) _) | (with_reducible refine Below.setCell ?_ (by first | omega | (simp; done) | (simp; omega)) _) | (with_reducible refine Below.trans ?_ (Below.mono (by assumption) (by first | omega | (simp; done) | (simp; omega))))))⟩) | (exfalso; first | omega | (simp at *; omega) | (simp at *; done))
    · clear h4
      go_enter Try.func30, Try.ntmps30
      go_wp2_with (first | (go_at_call 43; refine (prog_HCheck_ok _ _ _ _ H.out).mono ?_; rintro e w1 ⟨rfl, hb1⟩; obtain ⟨hc1, hf1⟩ := bcell hb1; have hz1 := blt hb1; have hy1 := hb1.size; (try simp at hy1)))
      all_goals first | (go_ret; exact ⟨rfl, (by repeat (first | (with_reducible exact Below.refl _ _) | (with_reducible assumption) | (with_reducible refine Below.drew ?_) | (with_reducible refine Below_drewN ?_) | (with_reducible refine Below.alloc ?_ (by first | omega | (simp; done) | (simp; omega)) _) | (with_reducible refine Below.setCell ?_ (by first | omega | (simp; done) | (simp; omega)) _) | (with_reducible refine Below.trans ?_ (Below.mono (by assumption) (by first | omega | (simp; done) | (simp; omega))))))⟩) | (exfalso; first | omega | (simp at *; omega) | (simp at *; done))
    · clear h4
      go_enter Try.func30, Try.ntmps30
      go_wp2_with (first | (go_at_call 43; refine (prog_HCheck_ok _ _ _ _ H.out).mono ?_; rintro e w1 ⟨rfl, hb1⟩; obtain ⟨hc1, hf1⟩ := bcell hb1; have hz1 := blt hb1; have hy1 := hb1.size; (try simp at hy1)))
      all_goals first | (go_ret; exact ⟨rfl, (by repeat (first | (with_reducible exact Below.refl _ _) | (with_reducible assumption) | (with_reducible refine Below.drew ?_) | (with_reducible refine Below_drewN ?_) | (with_reducible refine Below.alloc ?_ (by first | omega | (simp; done) | (simp; omega)) _) | (with_reducible refine Below.setCell ?_ (by first | omega | (simp; done) | (simp; omega)) _) | (with_reducible refine Below.trans ?_ (Below.mono (by assumption) (by first | omega | (simp; done) | (simp; omega))))))⟩) | (exfalso; first | omega | (simp at *; omega) | (simp at *; done))
    · clear h4
      have e1 : (u == 0) = false := by simp; omega
      have e2 : (u != 0) = true := by simp; omega
      have e3 : 0 ≤ u := by omega
      go_enter Try.func30, Try.ntmps30
      go_wp2_with (first | (go_at_call 43; refine (prog_HCheck_ok _ _ _ _ H.out).mono ?_; rintro e w1 ⟨rfl, hb1⟩; obtain ⟨hc1, hf1⟩ := bcell hb1; have hz1 := blt hb1; have hy1 := hb1.size; (try simp at hy1)))
      all_goals first | (go_ret; exact ⟨rfl, (by repeat (first | (with_reducible exact Below.refl _ _) | (with_reducible assumption) | (with_reducible refine Below.drew ?_) | (with_reducible refine Below_drewN ?_) | (with_reducible refine Below.alloc ?_ (by first | omega | (simp; done) | (simp; omega)) _) | (with_reducible refine Below.setCell ?_ (by first | omega | (simp; done) | (simp; omega)) _) | (with_reducible refine Below.trans ?_ (Below.mono (by assumption) (by first | omega | (simp; done) | (simp; omega))))))⟩) | (exfalso; first | omega | (simp at *; omega) | (simp at *; done))
  · have H := Lib.hid h
    obtain ⟨k1, k2, k3, k4, k5, k6⟩ := h4
    clear h
    cases out with
    | true =>
      clear k6
      go_enter Try.func30, Try.ntmps30
      go_wp2_with (first | (go_at_call 43; refine (prog_HCheck_ok _ _ _ _ H.out).mono ?_; rintro e w1 ⟨rfl, hb1⟩; obtain ⟨hc1, hf1⟩ := bcell hb1; have hz1 := blt hb1; have hy1 := hb1.size; (try simp at hy1)))
      all_goals first | (go_ret; exact ⟨rfl, (by repeat (first | (with_reducible exact Below.refl _ _) | (with_reducible assumption) | (with_reducible refine Below.drew ?_) | (with_reducible refine Below_drewN ?_) | (with_reducible refine Below.alloc ?_ (by first | omega | (simp; done) | (simp; omega)) _) | (with_reducible refine Below.setCell ?_ (by first | omega | (simp; done) | (simp; omega)) _) | (with_reducible refine Below.trans ?_ (Below.mono (by assumption) (by first | omega | (simp; done) | (simp; omega))))))⟩) | (exfalso; first | omega | (simp at *; omega) | (simp at *; done))
    | false =>
      obtain rfl : u = 0 := k6 rfl
      clear k6
      go_enter Try.func30, Try.ntmps30
      go_wp2_with (first | (go_at_call 43; refine (prog_HCheck_ok _ _ _ _ H.out).mono ?_; rintro e w1 ⟨rfl, hb1⟩; obtain ⟨hc1, hf1⟩ := bcell hb1; have hz1 := blt hb1; have hy1 := hb1.size; (try simp at hy1)))
      all_goals first | (go_ret; exact ⟨rfl, (by repeat (first | (with_reducible exact Below.refl _ _) | (with_reducible assumption) | (with_reducible refine Below.drew ?_) | (with_reducible refine Below_drewN ?_) | (with_reducible refine Below.alloc ?_ (by first | omega | (simp; done) | (simp; omega)) _) | (with_reducible refine Below.setCell ?_ (by first | omega | (simp; done) | (simp; omega)) _) | (with_reducible refine Below.trans ?_ (Below.mono (by assumption) (by first | omega | (simp; done) | (simp; omega))))))⟩) | (exfalso; first | omega | (simp at *; omega) | (simp at *; done))

set_option maxHeartbeats 4000000 in
set_option maxRecDepth 100000 in
theorem ref_hfault (a b c : Int) (m : Option Addr) (n cap : Nat) (out : Bool) (u t now code : Int) (w : World) (h : HtCode a b c n out u t now code) : Calls Try.prog 33 #[.agg #[.int .i64 a, .int .i64 b, .int .i64 c], .agg #[.slice m n cap, .bool out, .int .i64 u, .int .i64 t], .int .i64 now] w fun e w' => e = .returned (.int .i64 code) ∧ Below w.heap.size w w' := by
  rcases h with ⟨h, rfl⟩ | ⟨h, h2, rfl⟩ | ⟨h, h2, h3, h4, rfl⟩ | ⟨h, h2, h3, h4, rfl⟩
  · have H := Lib.hid h
    clear h
    go_enter Try.func33, Try.ntmps33
    go_wp2_with (go_at_call 44; refine (ref_WatchFault_bad _ _ _ _ H.out).mono ?_; rintro e w1 ⟨rfl, hb1⟩; obtain ⟨hc1, hf1⟩ := bcell hb1; have hz1 := blt hb1; have hy1 := hb1.size; (try simp at hy1))
    all_goals first | (go_ret; exact ⟨rfl, (by repeat (first | (with_reducible exact Below.refl _ _) | (with_reducible assumption) | (with_reducible refine Below.drew ?_) | (with_reducible refine Below_drewN ?_) | (with_reducible refine Below.alloc ?_ (by first | omega | (simp; done) | (simp; omega)) _) | (with_reducible refine Below.setCell ?_ (by first | omega | (simp; done) | (simp; omega)) _) | (with_reducible refine Below.trans ?_ (Below.mono (by assumption) (by first | omega | (simp; done) | (simp; omega))))))⟩) | (exfalso; first | omega | (simp at *; omega) | (simp at *; done))
  · have H := Lib.hid h
    clear h
    rcases h2 with h2 | ⟨h2, h3⟩
    all_goals
      go_enter Try.func33, Try.ntmps33
      go_wp2_with (first | (go_at_call 44; refine (ref_WatchFault_ok _ _ _ _ H.out).mono ?_; rintro e w1 ⟨rfl, hb1⟩; obtain ⟨hc1, hf1⟩ := bcell hb1; have hz1 := blt hb1; have hy1 := hb1.size; (try simp at hy1)) | (go_at_call 28; first | (refine (In_yes _ _ _ _ (by omega) (by omega)).mono ?_; rintro e w' ⟨rfl, rfl⟩) | (refine (In_no _ _ _ _ (by omega)).mono ?_; rintro e w' ⟨rfl, rfl⟩)))
      all_goals first | (go_ret; exact ⟨rfl, (by repeat (first | (with_reducible exact Below.refl _ _) | (with_reducible assumption) | (with_reducible refine Below.drew ?_) | (with_reducible refine Below_drewN ?_) | (with_reducible refine Below.alloc ?_ (by first | omega | (simp; done) | (simp; omega)) _) | (with_reducible refine Below.setCell ?_ (by first | omega | (simp; done) | (simp; omega)) _) | (with_reducible refine Below.trans ?_ (Below.mono (by assumption) (by first | omega | (simp; done) | (simp; omega))))))⟩) | (exfalso; first | omega | (simp at *; omega) | (simp at *; done))
  · have H := Lib.hid h
    clear h
    rcases not_HtOk h4 with k1 | ⟨k1, k2⟩ | ⟨k1, k2, k3⟩ | ⟨k1, k2, k3, k4⟩ | ⟨k1, k2, k3, k4, k5⟩ | ⟨k1, k2, k3, k4, k5, rfl⟩
    · clear h4
      go_enter Try.func33, Try.ntmps33
      go_wp2_with (first | (go_at_call 44; refine (ref_WatchFault_ok _ _ _ _ H.out).mono ?_; rintro e w1 ⟨rfl, hb1⟩; obtain ⟨hc1, hf1⟩ := bcell hb1; have hz1 := blt hb1; have hy1 := hb1.size; (try simp at hy1)) | (go_at_call 28; first | (refine (In_yes _ _ _ _ (by omega) (by omega)).mono ?_; rintro e w' ⟨rfl, rfl⟩) | (refine (In_no _ _ _ _ (by omega)).mono ?_; rintro e w' ⟨rfl, rfl⟩)))
      all_goals first | (go_ret; exact ⟨rfl, (by repeat (first | (with_reducible exact Below.refl _ _) | (with_reducible assumption) | (with_reducible refine Below.drew ?_) | (with_reducible refine Below_drewN ?_) | (with_reducible refine Below.alloc ?_ (by first | omega | (simp; done) | (simp; omega)) _) | (with_reducible refine Below.setCell ?_ (by first | omega | (simp; done) | (simp; omega)) _) | (with_reducible refine Below.trans ?_ (Below.mono (by assumption) (by first | omega | (simp; done) | (simp; omega))))))⟩) | (exfalso; first | omega | (simp at *; omega) | (simp at *; done))
    · clear h4
      go_enter Try.func33, Try.ntmps33
      go_wp2_with (first | (go_at_call 44; refine (ref_WatchFault_ok _ _ _ _ H.out).mono ?_; rintro e w1 ⟨rfl, hb1⟩; obtain ⟨hc1, hf1⟩ := bcell hb1; have hz1 := blt hb1; have hy1 := hb1.size; (try simp at hy1)) | (go_at_call 28; first | (refine (In_yes _ _ _ _ (by omega) (by omega)).mono ?_; rintro e w' ⟨rfl, rfl⟩) | (refine (In_no _ _ _ _ (by omega)).mono ?_; rintro e w' ⟨rfl, rfl⟩)))
      all_goals first | (go_ret; exact ⟨rfl, (by repeat (first | (with_reducible exact Below.refl _ _) | (with_reducible assumption) | (with_reducible refine Below.drew ?_) | (with_reducible refine Below_drewN ?_) | (with_reducible refine Below.alloc ?_ (by first | omega | (simp; done) | (simp; omega)) _) | (with_reducible refine Below.setCell ?_ (by first | omega | (simp; done) | (simp; omega)) _) | (with_reducible refine Below.trans ?_ (Below.mono (by assumption) (by first | omega | (simp; done) | (simp; omega))))))⟩) | (exfalso; first | omega | (simp at *; omega) | (simp at *; done))
    · clear h4
      go_enter Try.func33, Try.ntmps33
      go_wp2_with (first | (go_at_call 44; refine (ref_WatchFault_ok _ _ _ _ H.out).mono ?_; rintro e w1 ⟨rfl, hb1⟩; obtain ⟨hc1, hf1⟩ := bcell hb1; have hz1 := blt hb1; have hy1 := hb1.size; (try simp at hy1)) | (go_at_call 28; first | (refine (In_yes _ _ _ _ (by omega) (by omega)).mono ?_; rintro e w' ⟨rfl, rfl⟩) | (refine (In_no _ _ _ _ (by omega)).mono ?_; rintro e w' ⟨rfl, rfl⟩)))
      all_goals first | (go_ret; exact ⟨rfl, (by repeat (first | (with_reducible exact Below.refl _ _) | (with_reducible assumption) | (with_reducible refine Below.drew ?_) | (with_reducible refine Below_drewN ?_) | (with_reducible refine Below.alloc ?_ (by first | omega | (simp; done) | (simp; omega)) _) | (with_reducible refine Below.setCell ?_ (by first | omega | (simp; done) | (simp; omega)) _) | (with_reducible refine Below.trans ?_ (Below.mono (by assumption) (by first | omega | (simp; done) | (simp; omega))))))⟩) | (exfalso; first | omega | (simp at *; omega) | (simp at *; done))
    · clear h4
      go_enter Try.func33, Try.ntmps33
      go_wp2_with (first | (go_at_call 44; refine (ref_WatchFault_ok _ _ _ _ H.out).mono ?_; rintro e w1 ⟨rfl, hb1⟩; obtain ⟨hc1, hf1⟩ := bcell hb1; have hz1 := blt hb1; have hy1 := hb1.size; (try simp at hy1)) | (go_at_call 28; first | (refine (In_yes _ _ _ _ (by omega) (by omega)).mono ?_; rintro e w' ⟨rfl, rfl⟩) | (refine (In_no _ _ _ _ (by omega)).mono ?_; rintro e w' ⟨rfl, rfl⟩)))
      all_goals first | (go_ret; exact ⟨rfl, (by repeat (first | (with_reducible exact Below.refl _ _) | (with_reducible assumption) | (with_reducible refine Below.drew ?_) | (with_reducible refine Below_drewN ?_) | (with_reducible refine Below.alloc ?_ (by first | omega | (simp; done) | (simp; omega)) _) | (with_reducible refine Below.setCell ?_ (by first | omega | (simp; done) | (simp; omega)) _) | (with_reducible refine Below.trans ?_ (Below.mono (by assumption) (by first | omega | (simp; done) | (simp; omega))))))⟩) | (exfalso; first | omega | (simp at *; omega) | (simp at *; done))
    · clear h4
      go_enter Try.func33, Try.ntmps33
      go_wp2_with (first | (go_at_call 44; refine (ref_WatchFault_ok _ _ _ _ H.out).mono ?_; rintro e w1 ⟨rfl, hb1⟩; obtain ⟨hc1, hf1⟩ := bcell hb1; have hz1 := blt hb1; have hy1 := hb1.size; (try simp at hy1)) | (go_at_call 28; first | (refine (In_yes _ _ _ _ (by omega) (by omega)).mono ?_; rintro e w' ⟨rfl, rfl⟩) | (refine (In_no _ _ _ _ (by omega)).mono ?_; rintro e w' ⟨rfl, rfl⟩)))
      all_goals first | (go_ret; exact ⟨rfl, (by repeat (first | (with_reducible exact Below.refl _ _) | (with_reducible assumption) | (with_reducible refine Below.drew ?_) | (with_reducible refine Below_drewN ?_) | (with_reducible refine Below.alloc ?_ (by first | omega | (simp; done) | (simp; omega)) _) | (with_reducible refine Below.setCell ?_ (by first | omega | (simp; done) | (simp; omega)) _) | (with_reducible refine Below.trans ?_ (Below.mono (by assumption) (by first | omega | (simp; done) | (simp; omega))))))⟩) | (exfalso; first | omega | (simp at *; omega) | (simp at *; done))
    · clear h4
      have e1 : (u == 0) = false := by simp; omega
      have e2 : (u != 0) = true := by simp; omega
      have e3 : 0 ≤ u := by omega
      go_enter Try.func33, Try.ntmps33
      go_wp2_with (first | (go_at_call 44; refine (ref_WatchFault_ok _ _ _ _ H.out).mono ?_; rintro e w1 ⟨rfl, hb1⟩; obtain ⟨hc1, hf1⟩ := bcell hb1; have hz1 := blt hb1; have hy1 := hb1.size; (try simp at hy1)) | (go_at_call 28; first | (refine (In_yes _ _ _ _ (by omega) (by omega)).mono ?_; rintro e w' ⟨rfl, rfl⟩) | (refine (In_no _ _ _ _ (by omega)).mono ?_; rintro e w' ⟨rfl, rfl⟩)))
      all_goals first | (go_ret; exact ⟨rfl, (by repeat (first | (with_reducible exact Below.refl _ _) | (with_reducible assumption) | (with_reducible refine Below.drew ?_) | (with_reducible refine Below_drewN ?_) | (with_reducible refine Below.alloc ?_ (by first | omega | (simp; done) | (simp; omega)) _) | (with_reducible refine Below.setCell ?_ (by first | omega | (simp; done) | (simp; omega)) _) | (with_reducible refine Below.trans ?_ (Below.mono (by assumption) (by first | omega | (simp; done) | (simp; omega))))))⟩) | (exfalso; first | omega | (simp at *; omega) | (simp at *; done))
  · have H := Lib.hid h
    obtain ⟨k1, k2, k3, k4, k5, k6⟩ := h4
    clear h
    cases out with
    | true =>
      clear k6
      go_enter Try.func33, Try.ntmps33
      go_wp2_with (first | (go_at_call 44; refine (ref_WatchFault_ok _ _ _ _ H.out).mono ?_; rintro e w1 ⟨rfl, hb1⟩; obtain ⟨hc1, hf1⟩ := bcell hb1; have hz1 := blt hb1; have hy1 := hb1.size; (try simp at hy1)) | (go_at_call 28; first | (refine (In_yes _ _ _ _ (by omega) (by omega)).mono ?_; rintro e w' ⟨rfl, rfl⟩) | (refine (In_no _ _ _ _ (by omega)).mono ?_; rintro e w' ⟨rfl, rfl⟩)))
      all_goals first | (go_ret; exact ⟨rfl, (by repeat (first | (with_reducible exact Below.refl _ _) | (with_reducible assumption) | (with_reducible refine Below.drew ?_) | (with_reducible refine Below_drewN ?_) | (with_reducible refine Below.alloc ?_ (by first | omega | (simp; done) | (simp; omega)) _) | (with_reducible refine Below.setCell ?_ (by first | omega | (simp; done) | (simp; omega)) _) | (with_reducible refine Below.trans ?_ (Below.mono (by assumption) (by first | omega | (simp; done) | (simp; omega))))))⟩) | (exfalso; first | omega | (simp at *; omega) | (simp at *; done))
    | false =>
      obtain rfl : u = 0 := k6 rfl
      clear k6
      go_enter Try.func33, Try.ntmps33
      go_wp2_with (first | (go_at_call 44; refine (ref_WatchFault_ok _ _ _ _ H.out).mono ?_; rintro e w1 ⟨rfl, hb1⟩; obtain ⟨hc1, hf1⟩ := bcell hb1; have hz1 := blt hb1; have hy1 := hb1.size; (try simp at hy1)) | (go_at_call 28; first | (refine (In_yes _ _ _ _ (by omega) (by omega)).mono ?_; rintro e w' ⟨rfl, rfl⟩) | (refine (In_no _ _ _ _ (by omega)).mono ?_; rintro e w' ⟨rfl, rfl⟩)))
      all_goals first | (go_ret; exact ⟨rfl, (by repeat (first | (with_reducible exact Below.refl _ _) | (with_reducible assumption) | (with_reducible refine Below.drew ?_) | (with_reducible refine Below_drewN ?_) | (with_reducible refine Below.alloc ?_ (by first | omega | (simp; done) | (simp; omega)) _) | (with_reducible refine Below.setCell ?_ (by first | omega | (simp; done) | (simp; omega)) _) | (with_reducible refine Below.trans ?_ (Below.mono (by assumption) (by first | omega | (simp; done) | (simp; omega))))))⟩) | (exfalso; first | omega | (simp at *; omega) | (simp at *; done))
end Go.Proofs.Ytjnfnmbkmgjdlaa
