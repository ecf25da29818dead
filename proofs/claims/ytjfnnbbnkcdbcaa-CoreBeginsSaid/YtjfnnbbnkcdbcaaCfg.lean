/- core.Check and usherref.ConfigFault: their contracts. -/
import Derived.Test.YtjfnnbbnkcdbcaaCapsP
import Derived.Test.YtjfnnbbnkcdbcaaBucket
import Derived.Test.YtjfnnbbnkcdbcaaHealth
namespace Go.Proofs.Ytjfnnbbnkcdbcaa
open Go.RowKit

/-- api.Config -/
structure Cf where
  flows : Int
  num : Int
  den : Int
  tries : Int
  warm : Int
  drain : Int
  idle : Int
  connect : Int
  retries : Int
  most : Int
  bn : Int
  bd : Int
  bb : Int
  ww : Int
  wf : Int
  wh : Int
  deriving DecidableEq
def Cf.cells (x : Cf) : List Value := [.int .i64 x.flows, .int .i64 x.num, .int .i64 x.den, .int .i64 x.tries, .int .i64 x.warm, .int .i64 x.drain, .int .i64 x.idle, .int .i64 x.connect, .int .i64 x.retries, .int .i64 x.most, .int .i64 x.bn, .int .i64 x.bd, .int .i64 x.bb, .int .i64 x.ww, .int .i64 x.wf, .int .i64 x.wh]
def Cf.agg (x : Cf) : Value := .agg #[.int .i64 x.flows, .int .i64 x.num, .int .i64 x.den, .int .i64 x.tries, .int .i64 x.warm, .int .i64 x.drain, .int .i64 x.idle, .int .i64 x.connect, .int .i64 x.retries, .int .i64 x.most, .int .i64 x.bn, .int .i64 x.bd, .int .i64 x.bb, .int .i64 x.ww, .int .i64 x.wf, .int .i64 x.wh]
def Cf.zero : Cf := ⟨0, 0, 0, 0, 0, 0, 0, 0, 0, 0, 0, 0, 0, 0, 0, 0⟩
/-- The numbers' bounds but the budget's and the watch's. -/
def CfBase (x : Cf) : Prop := (0 ≤ x.warm ∧ x.warm ≤ 500 ∧ 1 ≤ x.drain ∧ x.drain ≤ 500 ∧ 1 ≤ x.idle ∧ x.idle ≤ 500 ∧ 1 ≤ x.connect ∧ x.connect ≤ 500) ∧ (1 ≤ x.den ∧ x.den ≤ x.num ∧ x.num ≤ 20) ∧ (1 ≤ x.flows ∧ x.flows ≤ 40 ∧ 0 ≤ x.tries ∧ x.tries ≤ 12 ∧ 0 ≤ x.retries ∧ x.retries ≤ 20 ∧ 0 ≤ x.most ∧ x.most ≤ 100)
/-- P12.1: may a config be? -/
def CfMay (x : Cf) : Prop := CfBase x ∧ BudMay x.bn x.bd x.bb ∧ WatMay x.ww x.wf x.wh
theorem within_yes (n lo hi : Int) (w : World) (h1 : lo ≤ n) (h2 : n ≤ hi) : Calls Try.prog 36 #[.int .i64 n, .int .i64 lo, .int .i64 hi] w fun e w' => e = .returned (.bool true) ∧ w = w' := by
  go_enter Try.func36, Try.ntmps36
  go_wp2
  all_goals first | (go_ret; exact ⟨rfl, rfl⟩) | (exfalso; first | omega | (simp at *; omega) | (simp at *; done))
theorem within_no (n lo hi : Int) (w : World) (h : n < lo ∨ hi < n) : Calls Try.prog 36 #[.int .i64 n, .int .i64 lo, .int .i64 hi] w fun e w' => e = .returned (.bool false) ∧ w = w' := by
  by_cases h1 : lo ≤ n
  · have h2 : hi < n := by omega
    clear h
    have h3 : decide (n ≤ hi) = false := by simp; omega
    go_enter Try.func36, Try.ntmps36
    go_wp2
    all_goals first | (go_ret; exact ⟨rfl, rfl⟩) | (exfalso; first | omega | (simp at *; omega) | (simp at *; done))
  · have h3 : decide (lo ≤ n) = false := by simp; omega
    clear h
    go_enter Try.func36, Try.ntmps36
    go_wp2
    all_goals first | (go_ret; exact ⟨rfl, rfl⟩) | (exfalso; first | omega | (simp at *; omega) | (simp at *; done))
theorem LdsMay_nil : LdsMay [] := ⟨by simp, fun i hi => by simp at hi⟩
def CnPost (w : World) (code : Int) (e : Ending) (w' : World) : Prop := ∃ v, e = .returned (.tuple #[v, .int .i64 code]) ∧ Below w.heap.size w w'
def FacCd (num den cd : Int) : Prop := (FacMay num den 0 ∧ cd = 0) ∨ (¬ FacMay num den 0 ∧ cd = 2)
theorem prog_Caps_nil (num den code : Int) (w : World) (h : FacCd num den code) : Calls Try.prog 37 #[.slice none 0 0, .int .i64 num, .int .i64 den, .int .i64 0] w (CnPost w code) := by
  rcases h with ⟨h, rfl⟩ | ⟨h, rfl⟩
  · exact (prog_Caps_ok _ [] num den 0 w (RowAt_nil w 3) LdsMay_nil h).mono fun e w' ⟨v, he, _, hb⟩ => ⟨v, he, hb⟩
  · exact (prog_Caps_range _ [] num den 0 w (RowAt_nil w 3) LdsMay_nil h).mono fun e w' ⟨v, he, _, hb⟩ => ⟨v, he, hb⟩

set_option maxHeartbeats 8000000 in
set_option maxRecDepth 100000 in
theorem prog_CCheck_bad (flows num den tries warm drain idle connect retries most bn bd bb ww wf wh : Int) (w : World) (h : ¬ CfMay ⟨flows, num, den, tries, warm, drain, idle, connect, retries, most, bn, bd, bb, ww, wf, wh⟩) : Calls Try.prog 17 #[.agg #[.int .i64 flows, .int .i64 num, .int .i64 den, .int .i64 tries, .int .i64 warm, .int .i64 drain, .int .i64 idle, .int .i64 connect, .int .i64 retries, .int .i64 most, .int .i64 bn, .int .i64 bd, .int .i64 bb, .int .i64 ww, .int .i64 wf, .int .i64 wh]] w fun e w' => e = .returned (.int .i64 2) ∧ Below w.heap.size w w' := by
  obtain ⟨cd, hF⟩ : ∃ cd, FacCd num den cd := by
    by_cases h : FacMay num den 0
    · exact ⟨0, Or.inl ⟨h, rfl⟩⟩
    · exact ⟨2, Or.inr ⟨h, rfl⟩⟩
  have HF := Lib.hid hF
  rcases (show ((warm < 0)) ∨ ((0 ≤ warm) ∧ (500 < warm)) ∨ ((0 ≤ warm) ∧ (warm ≤ 500) ∧ (drain < 1)) ∨ ((0 ≤ warm) ∧ (warm ≤ 500) ∧ (1 ≤ drain) ∧ (500 < drain)) ∨ ((0 ≤ warm) ∧ (warm ≤ 500) ∧ (1 ≤ drain) ∧ (drain ≤ 500) ∧ (idle < 1)) ∨ ((0 ≤ warm) ∧ (warm ≤ 500) ∧ (1 ≤ drain) ∧ (drain ≤ 500) ∧ (1 ≤ idle) ∧ (500 < idle)) ∨ ((0 ≤ warm) ∧ (warm ≤ 500) ∧ (1 ≤ drain) ∧ (drain ≤ 500) ∧ (1 ≤ idle) ∧ (idle ≤ 500) ∧ (connect < 1)) ∨ ((0 ≤ warm) ∧ (warm ≤ 500) ∧ (1 ≤ drain) ∧ (drain ≤ 500) ∧ (1 ≤ idle) ∧ (idle ≤ 500) ∧ (1 ≤ connect) ∧ (500 < connect)) ∨ ((0 ≤ warm) ∧ (warm ≤ 500) ∧ (1 ≤ drain) ∧ (drain ≤ 500) ∧ (1 ≤ idle) ∧ (idle ≤ 500) ∧ (1 ≤ connect) ∧ (connect ≤ 500)) by (rcases (show (warm < 0) ∨ (0 ≤ warm) by omega) with hx0 | hx0; exact Or.inl hx0; (rcases (show (500 < warm) ∨ (warm ≤ 500) by omega) with hx1 | hx1; exact Or.inr (Or.inl ⟨hx0, hx1⟩); (rcases (show (drain < 1) ∨ (1 ≤ drain) by omega) with hx2 | hx2; exact Or.inr (Or.inr (Or.inl ⟨hx0, hx1, hx2⟩)); (rcases (show (500 < drain) ∨ (drain ≤ 500) by omega) with hx3 | hx3; exact Or.inr (Or.inr (Or.inr (Or.inl ⟨hx0, hx1, hx2, hx3⟩))); (rcases (show (idle < 1) ∨ (1 ≤ idle) by omega) with hx4 | hx4; exact Or.inr (Or.inr (Or.inr (Or.inr (Or.inl ⟨hx0, hx1, hx2, hx3, hx4⟩)))); (rcases (show (500 < idle) ∨ (idle ≤ 500) by omega) with hx5 | hx5; exact Or.inr (Or.inr (Or.inr (Or.inr (Or.inr (Or.inl ⟨hx0, hx1, hx2, hx3, hx4, hx5⟩))))); (rcases (show (connect < 1) ∨ (1 ≤ connect) by omega) with hx6 | hx6; exact Or.inr (Or.inr (Or.inr (Or.inr (Or.inr (Or.inr (Or.inl ⟨hx0, hx1, hx2, hx3, hx4, hx5, hx6⟩)))))); (rcases (show (500 < connect) ∨ (connect ≤ 500) by omega) with hx7 | hx7; exact Or.inr (Or.inr (Or.inr (Or.inr (Or.inr (Or.inr (Or.inr (Or.inl ⟨hx0, hx1, hx2, hx3, hx4, hx5, hx6, hx7⟩))))))); exact Or.inr (Or.inr (Or.inr (Or.inr (Or.inr (Or.inr (Or.inr (Or.inr (⟨hx0, hx1, hx2, hx3, hx4, hx5, hx6, hx7⟩))))))))))))))))) with hs0 | ⟨hs0, hs1⟩ | ⟨hs0, hs1, hs2⟩ | ⟨hs0, hs1, hs2, hs3⟩ | ⟨hs0, hs1, hs2, hs3, hs4⟩ | ⟨hs0, hs1, hs2, hs3, hs4, hs5⟩ | ⟨hs0, hs1, hs2, hs3, hs4, hs5, hs6⟩ | ⟨hs0, hs1, hs2, hs3, hs4, hs5, hs6, hs7⟩ | ⟨hs0, hs1, hs2, hs3, hs4, hs5, hs6, hs7⟩
  rotate_right
  · by_cases hfac : FacMay num den 0
    · obtain rfl : cd = 0 := by rcases hF with ⟨_, h⟩ | ⟨h, _⟩; exact h; exact absurd hfac h
      obtain ⟨d1, d2, d3, _, _⟩ := hfac
      rcases (show ((flows < 1)) ∨ ((1 ≤ flows) ∧ (40 < flows)) ∨ ((1 ≤ flows) ∧ (flows ≤ 40) ∧ (tries < 0)) ∨ ((1 ≤ flows) ∧ (flows ≤ 40) ∧ (0 ≤ tries) ∧ (12 < tries)) ∨ ((1 ≤ flows) ∧ (flows ≤ 40) ∧ (0 ≤ tries) ∧ (tries ≤ 12) ∧ (retries < 0)) ∨ ((1 ≤ flows) ∧ (flows ≤ 40) ∧ (0 ≤ tries) ∧ (tries ≤ 12) ∧ (0 ≤ retries) ∧ (20 < retries)) ∨ ((1 ≤ flows) ∧ (flows ≤ 40) ∧ (0 ≤ tries) ∧ (tries ≤ 12) ∧ (0 ≤ retries) ∧ (retries ≤ 20) ∧ (most < 0)) ∨ ((1 ≤ flows) ∧ (flows ≤ 40) ∧ (0 ≤ tries) ∧ (tries ≤ 12) ∧ (0 ≤ retries) ∧ (retries ≤ 20) ∧ (0 ≤ most) ∧ (100 < most)) ∨ ((1 ≤ flows) ∧ (flows ≤ 40) ∧ (0 ≤ tries) ∧ (tries ≤ 12) ∧ (0 ≤ retries) ∧ (retries ≤ 20) ∧ (0 ≤ most) ∧ (most ≤ 100)) by (rcases (show (flows < 1) ∨ (1 ≤ flows) by omega) with hx0 | hx0; exact Or.inl hx0; (rcases (show (40 < flows) ∨ (flows ≤ 40) by omega) with hx1 | hx1; exact Or.inr (Or.inl ⟨hx0, hx1⟩); (rcases (show (tries < 0) ∨ (0 ≤ tries) by omega) with hx2 | hx2; exact Or.inr (Or.inr (Or.inl ⟨hx0, hx1, hx2⟩)); (rcases (show (12 < tries) ∨ (tries ≤ 12) by omega) with hx3 | hx3; exact Or.inr (Or.inr (Or.inr (Or.inl ⟨hx0, hx1, hx2, hx3⟩))); (rcases (show (retries < 0) ∨ (0 ≤ retries) by omega) with hx4 | hx4; exact Or.inr (Or.inr (Or.inr (Or.inr (Or.inl ⟨hx0, hx1, hx2, hx3, hx4⟩)))); (rcases (show (20 < retries) ∨ (retries ≤ 20) by omega) with hx5 | hx5; exact Or.inr (Or.inr (Or.inr (Or.inr (Or.inr (Or.inl ⟨hx0, hx1, hx2, hx3, hx4, hx5⟩))))); (rcases (show (most < 0) ∨ (0 ≤ most) by omega) with hx6 | hx6; exact Or.inr (Or.inr (Or.inr (Or.inr (Or.inr (Or.inr (Or.inl ⟨hx0, hx1, hx2, hx3, hx4, hx5, hx6⟩)))))); (rcases (show (100 < most) ∨ (most ≤ 100) by omega) with hx7 | hx7; exact Or.inr (Or.inr (Or.inr (Or.inr (Or.inr (Or.inr (Or.inr (Or.inl ⟨hx0, hx1, hx2, hx3, hx4, hx5, hx6, hx7⟩))))))); exact Or.inr (Or.inr (Or.inr (Or.inr (Or.inr (Or.inr (Or.inr (Or.inr (⟨hx0, hx1, hx2, hx3, hx4, hx5, hx6, hx7⟩))))))))))))))))) with ht0 | ⟨ht0, ht1⟩ | ⟨ht0, ht1, ht2⟩ | ⟨ht0, ht1, ht2, ht3⟩ | ⟨ht0, ht1, ht2, ht3, ht4⟩ | ⟨ht0, ht1, ht2, ht3, ht4, ht5⟩ | ⟨ht0, ht1, ht2, ht3, ht4, ht5, ht6⟩ | ⟨ht0, ht1, ht2, ht3, ht4, ht5, ht6, ht7⟩ | ⟨ht0, ht1, ht2, ht3, ht4, ht5, ht6, ht7⟩
      rotate_right
      · by_cases hbud : BudMay bn bd bb
        · have hwat : ¬ WatMay ww wf wh := fun hw => h ⟨⟨⟨hs0, hs1, hs2, hs3, hs4, hs5, hs6, hs7⟩, ⟨d1, d2, d3⟩, ⟨ht0, ht1, ht2, ht3, ht4, ht5, ht6, ht7⟩⟩, hbud, hw⟩
          have HB := Lib.hid hbud
          have HW := Lib.hid hwat
          clear h hF hbud hwat
          go_enter Try.func17, Try.ntmps17
          go_wp2_with (first | (go_at_call 36; first | (refine (within_yes _ _ _ _ (by omega) (by omega)).mono ?_; rintro e w' ⟨rfl, rfl⟩) | (refine (within_no _ _ _ _ (by omega)).mono ?_; rintro e w' ⟨rfl, rfl⟩)) | (go_at_call 37; refine (prog_Caps_nil num den _ _ HF.out).mono ?_; rintro e w1 ⟨v1, rfl, hb1⟩; obtain ⟨hc1, hf1⟩ := bcell hb1; have hz1 := blt hb1; have hy1 := hb1.size; (try simp at hy1)) | (go_at_call 38; refine (prog_Check_ok _ _ _ _ HB.out).mono ?_; rintro e w2 ⟨rfl, hb2⟩; obtain ⟨hc2, hf2⟩ := bcell hb2; have hz2 := blt hb2; have hy2 := hb2.size; (try simp at hy2)) | (go_at_call 39; refine (prog_HCheck_bad _ _ _ _ HW.out).mono ?_; rintro e w3 ⟨rfl, hb3⟩; obtain ⟨hc3, hf3⟩ := bcell hb3; have hz3 := blt hb3; have hy3 := hb3.size; (try simp at hy3)))
          all_goals first | (go_ret; exact ⟨rfl, (by repeat (first | (with_reducible exact Below.refl _ _) | (with_reducible assumption) | (with_reducible refine Below.drew ?_) | (with_reducible refine Below_drewN ?_) | (with_reducible refine Below.alloc ?_ (by first | omega | (simp; done) | (simp; omega)) _) | (with_reducible refine Below.setCell ?_ (by first | omega | (simp; done) | (simp; omega)) _) | (with_reducible refine Below.trans ?_ (Below.mono (by assumption) (by first | omega | (simp; done) | (simp; omega))))))⟩) | (exfalso; first | omega | (simp at *; omega) | (simp at *; done))
        · have HB := Lib.hid hbud
          clear h hF hbud
          go_enter Try.func17, Try.ntmps17
          go_wp2_with (first | (go_at_call 36; first | (refine (within_yes _ _ _ _ (by omega) (by omega)).mono ?_; rintro e w' ⟨rfl, rfl⟩) | (refine (within_no _ _ _ _ (by omega)).mono ?_; rintro e w' ⟨rfl, rfl⟩)) | (go_at_call 37; refine (prog_Caps_nil num den _ _ HF.out).mono ?_; rintro e w1 ⟨v1, rfl, hb1⟩; obtain ⟨hc1, hf1⟩ := bcell hb1; have hz1 := blt hb1; have hy1 := hb1.size; (try simp at hy1)) | (go_at_call 38; refine (prog_Check_bad _ _ _ _ HB.out).mono ?_; rintro e w2 ⟨rfl, hb2⟩; obtain ⟨hc2, hf2⟩ := bcell hb2; have hz2 := blt hb2; have hy2 := hb2.size; (try simp at hy2)))
          all_goals first | (go_ret; exact ⟨rfl, (by repeat (first | (with_reducible exact Below.refl _ _) | (with_reducible assumption) | (with_reducible refine Below.drew ?_) | (with_reducible refine Below_drewN ?_) | (with_reducible refine Below.alloc ?_ (by first | omega | (simp; done) | (simp; omega)) _) | (with_reducible refine Below.setCell ?_ (by first | omega | (simp; done) | (simp; omega)) _) | (with_reducible refine Below.trans ?_ (Below.mono (by assumption) (by first | omega | (simp; done) | (simp; omega))))))⟩) | (exfalso; first | omega | (simp at *; omega) | (simp at *; done))
      all_goals
        clear h hF
        go_enter Try.func17, Try.ntmps17
        go_wp2_with (first | (go_at_call 36; first | (refine (within_yes _ _ _ _ (by omega) (by omega)).mono ?_; rintro e w' ⟨rfl, rfl⟩) | (refine (within_no _ _ _ _ (by omega)).mono ?_; rintro e w' ⟨rfl, rfl⟩)) | (go_at_call 37; refine (prog_Caps_nil num den _ _ HF.out).mono ?_; rintro e w1 ⟨v1, rfl, hb1⟩; obtain ⟨hc1, hf1⟩ := bcell hb1; have hz1 := blt hb1; have hy1 := hb1.size; (try simp at hy1)))
        all_goals first | (go_ret; exact ⟨rfl, (by repeat (first | (with_reducible exact Below.refl _ _) | (with_reducible assumption) | (with_reducible refine Below.drew ?_) | (with_reducible refine Below_drewN ?_) | (with_reducible refine Below.alloc ?_ (by first | omega | (simp; done) | (simp; omega)) _) | (with_reducible refine Below.setCell ?_ (by first | omega | (simp; done) | (simp; omega)) _) | (with_reducible refine Below.trans ?_ (Below.mono (by assumption) (by first | omega | (simp; done) | (simp; omega))))))⟩) | (exfalso; first | omega | (simp at *; omega) | (simp at *; done))
    · obtain rfl : cd = 2 := by rcases hF with ⟨h, _⟩ | ⟨_, h⟩; exact absurd h hfac; exact h
      clear h hF hfac
      go_enter Try.func17, Try.ntmps17
      go_wp2_with (first | (go_at_call 36; first | (refine (within_yes _ _ _ _ (by omega) (by omega)).mono ?_; rintro e w' ⟨rfl, rfl⟩) | (refine (within_no _ _ _ _ (by omega)).mono ?_; rintro e w' ⟨rfl, rfl⟩)) | (go_at_call 37; refine (prog_Caps_nil num den _ _ HF.out).mono ?_; rintro e w1 ⟨v1, rfl, hb1⟩; obtain ⟨hc1, hf1⟩ := bcell hb1; have hz1 := blt hb1; have hy1 := hb1.size; (try simp at hy1)))
      all_goals first | (go_ret; exact ⟨rfl, (by repeat (first | (with_reducible exact Below.refl _ _) | (with_reducible assumption) | (with_reducible refine Below.drew ?_) | (with_reducible refine Below_drewN ?_) | (with_reducible refine Below.alloc ?_ (by first | omega | (simp; done) | (simp; omega)) _) | (with_reducible refine Below.setCell ?_ (by first | omega | (simp; done) | (simp; omega)) _) | (with_reducible refine Below.trans ?_ (Below.mono (by assumption) (by first | omega | (simp; done) | (simp; omega))))))⟩) | (exfalso; first | omega | (simp at *; omega) | (simp at *; done))
  all_goals
    clear h hF
    go_enter Try.func17, Try.ntmps17
    go_wp2_with (first | (go_at_call 36; first | (refine (within_yes _ _ _ _ (by omega) (by omega)).mono ?_; rintro e w' ⟨rfl, rfl⟩) | (refine (within_no _ _ _ _ (by omega)).mono ?_; rintro e w' ⟨rfl, rfl⟩)) | (go_at_call 37; refine (prog_Caps_nil num den _ _ HF.out).mono ?_; rintro e w1 ⟨v1, rfl, hb1⟩; obtain ⟨hc1, hf1⟩ := bcell hb1; have hz1 := blt hb1; have hy1 := hb1.size; (try simp at hy1)))
    all_goals first | (go_ret; exact ⟨rfl, (by repeat (first | (with_reducible exact Below.refl _ _) | (with_reducible assumption) | (with_reducible refine Below.drew ?_) | (with_reducible refine Below_drewN ?_) | (with_reducible refine Below.alloc ?_ (by first | omega | (simp; done) | (simp; omega)) _) | (with_reducible refine Below.setCell ?_ (by first | omega | (simp; done) | (simp; omega)) _) | (with_reducible refine Below.trans ?_ (Below.mono (by assumption) (by first | omega | (simp; done) | (simp; omega))))))⟩) | (exfalso; first | omega | (simp at *; omega) | (simp at *; done))

set_option maxHeartbeats 8000000 in
set_option maxRecDepth 100000 in
theorem prog_CCheck_ok (flows num den tries warm drain idle connect retries most bn bd bb ww wf wh : Int) (w : World) (h : CfMay ⟨flows, num, den, tries, warm, drain, idle, connect, retries, most, bn, bd, bb, ww, wf, wh⟩) : Calls Try.prog 17 #[.agg #[.int .i64 flows, .int .i64 num, .int .i64 den, .int .i64 tries, .int .i64 warm, .int .i64 drain, .int .i64 idle, .int .i64 connect, .int .i64 retries, .int .i64 most, .int .i64 bn, .int .i64 bd, .int .i64 bb, .int .i64 ww, .int .i64 wf, .int .i64 wh]] w fun e w' => e = .returned (.int .i64 0) ∧ Below w.heap.size w w' := by
  obtain ⟨⟨⟨hs0, hs1, hs2, hs3, hs4, hs5, hs6, hs7⟩, ⟨d1, d2, d3⟩, ⟨ht0, ht1, ht2, ht3, ht4, ht5, ht6, ht7⟩⟩, hbud, hwat⟩ := h
  obtain ⟨cd, hcd⟩ : ∃ cd : Int, cd = 0 := ⟨_, rfl⟩
  have HF : Hid (FacCd num den cd) := Or.inl ⟨⟨d1, d2, d3, by omega, by omega⟩, hcd⟩
  subst hcd
  have HB := Lib.hid hbud
  have HW := Lib.hid hwat
  clear hbud hwat
  simp only at hs0 hs1 hs2 hs3 hs4 hs5 hs6 hs7 d1 d2 d3 ht0 ht1 ht2 ht3 ht4 ht5 ht6 ht7
  go_enter Try.func17, Try.ntmps17
  go_wp2_with (first | (go_at_call 36; first | (refine (within_yes _ _ _ _ (by omega) (by omega)).mono ?_; rintro e w' ⟨rfl, rfl⟩) | (refine (within_no _ _ _ _ (by omega)).mono ?_; rintro e w' ⟨rfl, rfl⟩)) | (go_at_call 37; refine (prog_Caps_nil num den 0 _ HF.out).mono ?_; rintro e w1 ⟨v1, rfl, hb1⟩; obtain ⟨hc1, hf1⟩ := bcell hb1; have hz1 := blt hb1; have hy1 := hb1.size; (try simp at hy1)) | (go_at_call 38; refine (prog_Check_ok _ _ _ _ HB.out).mono ?_; rintro e w2 ⟨rfl, hb2⟩; obtain ⟨hc2, hf2⟩ := bcell hb2; have hz2 := blt hb2; have hy2 := hb2.size; (try simp at hy2)) | (go_at_call 39; refine (prog_HCheck_ok _ _ _ _ HW.out).mono ?_; rintro e w3 ⟨rfl, hb3⟩; obtain ⟨hc3, hf3⟩ := bcell hb3; have hz3 := blt hb3; have hy3 := hb3.size; (try simp at hy3)))
  all_goals first | (go_ret; exact ⟨rfl, (by repeat (first | (with_reducible exact Below.refl _ _) | (with_reducible assumption) | (with_reducible refine Below.drew ?_) | (with_reducible refine Below_drewN ?_) | (with_reducible refine Below.alloc ?_ (by first | omega | (simp; done) | (simp; omega)) _) | (with_reducible refine Below.setCell ?_ (by first | omega | (simp; done) | (simp; omega)) _) | (with_reducible refine Below.trans ?_ (Below.mono (by assumption) (by first | omega | (simp; done) | (simp; omega))))))⟩) | (exfalso; first | omega | (simp at *; omega) | (simp at *; done))
end Go.Proofs.Ytjfnnbbnkcdbcaa
