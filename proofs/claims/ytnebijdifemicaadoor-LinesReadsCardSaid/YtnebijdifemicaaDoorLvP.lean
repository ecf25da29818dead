/- What usherref.lineEvent answers, in plain words. -/
import Derived.Test.YtnebijdifemicaaDoorWhl
import Derived.Test.YtnebijdifemicaaDoorWireE
namespace Go.Proofs.YtnebijdifemicaaDoor
open Go.RowKit
def evZ (kd : Int) : Ev := ⟨kd, 0, 0, 0, false, 0, 0, 0⟩
def evD (kd : Int) (acc : List Int) : Ev :=
  if kd = 1 then ⟨kd, acc.getD 0 0, 0, 0, false, 0, 0, 0⟩
  else if kd = 2 ∨ kd = 3 ∨ kd = 4 then ⟨kd, 0, acc.getD 0 0, acc.getD 1 0, false, 0, 0, 0⟩
  else if kd = 5 ∨ kd = 6 then ⟨kd, 0, 0, 0, false, acc.getD 0 0, acc.getD 1 0, acc.getD 2 0⟩
  else ⟨kd, 0, 0, 0, false, 0, 0, 0⟩
def goodD (kd : Int) (acc : List Int) : Int := if kd = 4 then acc.getD 2 0 else 0
def decX (kd : Int) (acc : List Int) : Ev := { evD kd acc with good := decide (goodD kd acc = 1) }
theorem decX_kind (kd : Int) (acc : List Int) : (decX kd acc).kind = kd := by
  unfold decX evD
  repeat' split
  all_goals rfl
/-- How many numbers a kind has. -/
def cnt (k : Int) : Nat := (evF (evZ k) 0 0 0).length
theorem decX_keep {kd : Int} (h : 1 ≤ kd ∧ kd ≤ 7) {acc : List Int} (ha : acc.length = cnt kd) (hg : kd = 4 → acc.getD 2 0 = 0 ∨ acc.getD 2 0 = 1) : vals (evF (decX kd acc) 0 0 (gdI (decX kd acc).good)) = acc.map (fun v => [Value.int .i64 v]) ∧ keepE (decX kd acc) = decX kd acc := by
  rcases (show kd = 1 ∨ kd = 2 ∨ kd = 3 ∨ kd = 4 ∨ kd = 5 ∨ kd = 6 ∨ kd = 7 by omega) with rfl | rfl | rfl | rfl | rfl | rfl | rfl
  · match acc, ha with
    | [a], _ => exact ⟨rfl, rfl⟩
  · match acc, ha with
    | [a, b], _ => exact ⟨rfl, rfl⟩
  · match acc, ha with
    | [a, b], _ => exact ⟨rfl, rfl⟩
  · match acc, ha, hg rfl with
    | [a, b, c], _, hc =>
      have hc : c = 0 ∨ c = 1 := hc
      rcases hc with rfl | rfl <;> exact ⟨rfl, rfl⟩
  · match acc, ha with
    | [a, b, c], _ => exact ⟨rfl, rfl⟩
  · match acc, ha with
    | [a, b], _ => exact ⟨rfl, rfl⟩
  · match acc, ha with
    | [], _ => exact ⟨rfl, rfl⟩
/-- What the piece i behind the word gives. -/
def lvV (k : Int) (i : Nat) (w : List UInt8) : Int := if k = 4 ∧ i = 2 then (if w = [103, 111, 111, 100] then 1 else if w = [98, 97, 100] then 0 else -1) else whlV w
/-- The event of a line without its end; Ev.zero: none. -/
def LvAns (s : List UInt8) (x : Ev) : Prop := (EvCode x 0 ∧ bodyB x = s) ∨ ((∀ f, EvCode f 0 → bodyB f ≠ s) ∧ x = Ev.zero)
theorem code0 {f : Ev} (h : EvCode f 0) : (1 ≤ f.kind ∧ f.kind ≤ 7) ∧ restE f = Ev.zero := by
  rcases h with ⟨_, h⟩ | ⟨_, _, h⟩ | ⟨_, _, _, h⟩ | ⟨h, _, h2, _⟩
  · omega
  · omega
  · omega
  · exact ⟨h, h2⟩
theorem word_inj {a b : Nat} (ha : 1 ≤ a ∧ a ≤ 7) (hb : 1 ≤ b ∧ b ≤ 7) (h : wordB a = wordB b) : a = b := by
  have h1 := kdUp_word ha
  rw [h, kdUp_word hb] at h1
  omega
theorem ws_of {f : Ev} {s : List UInt8} (hf : EvCode f 0) (h : bodyB f = s) : spl s = evWs f := by rw [← h]; exact spl_body hf
theorem ws_kind {f : Ev} {s : List UInt8} {k : Nat} (hf : EvCode f 0) (h : bodyB f = s) (hk : 1 ≤ k ∧ k ≤ 7) (hw : wordB k = (spl s).getD 0 []) : f.kind = k := by
  rw [ws_of hf h] at hw
  have hk1 := (code0 hf).1
  have := word_inj hk (b := f.kind.toNat) (by omega) hw
  omega
/-- An event's numbers. -/
def vsE (f : Ev) : List Int := (evF f 0 0 (gdI f.good)).map FD.val
theorem ws_vals {f : Ev} (hf : EvCode f 0) : (evWs f).length = cnt f.kind + 1 ∧ (vsE f).length = cnt f.kind ∧ f = decX f.kind (vsE f) ∧ ∀ i, i < cnt f.kind → lvV f.kind i ((evWs f).getD (i + 1) []) = (vsE f).getD i 0 ∧ 0 ≤ (vsE f).getD i 0 := by
  have hin := evNs_in hf
  obtain ⟨hk, hr⟩ := code0 hf
  obtain ⟨k, a1, a2, a3, a4, a5, a6, a7⟩ := f
  simp only at hk
  rcases (show k = 1 ∨ k = 2 ∨ k = 3 ∨ k = 4 ∨ k = 5 ∨ k = 6 ∨ k = 7 by omega) with rfl | rfl | rfl | rfl | rfl | rfl | rfl
  · have h0 := hin a1 (by simp [evNs])
    have g0 := whl_itoa h0
    simp [restE, Ev.zero] at hr
    refine ⟨rfl, rfl, by simp [decX, evD, goodD, vsE, evF]; simp_all, ?_⟩
    intro i hi
    match i, hi with
    | 0, _ => exact ⟨by simp [lvV, evWs, evNs, vsE, evF, g0], h0.1⟩
  · have h0 := hin a2 (by simp [evNs])
    have h1 := hin a3 (by simp [evNs])
    have g0 := whl_itoa h0
    have g1 := whl_itoa h1
    simp [restE, Ev.zero] at hr
    refine ⟨rfl, rfl, by simp [decX, evD, goodD, vsE, evF]; simp_all, ?_⟩
    intro i hi
    match i, hi with
    | 0, _ => exact ⟨by simp [lvV, evWs, evNs, vsE, evF, g0], h0.1⟩
    | 1, _ => exact ⟨by simp [lvV, evWs, evNs, vsE, evF, g1], h1.1⟩
  · have h0 := hin a2 (by simp [evNs])
    have h1 := hin a3 (by simp [evNs])
    have g0 := whl_itoa h0
    have g1 := whl_itoa h1
    simp [restE, Ev.zero] at hr
    refine ⟨rfl, rfl, by simp [decX, evD, goodD, vsE, evF]; simp_all, ?_⟩
    intro i hi
    match i, hi with
    | 0, _ => exact ⟨by simp [lvV, evWs, evNs, vsE, evF, g0], h0.1⟩
    | 1, _ => exact ⟨by simp [lvV, evWs, evNs, vsE, evF, g1], h1.1⟩
  · have h0 := hin a2 (by simp [evNs])
    have h1 := hin a3 (by simp [evNs])
    have g0 := whl_itoa h0
    have g1 := whl_itoa h1
    simp [restE, Ev.zero] at hr
    refine ⟨by cases a4 <;> rfl, rfl, by cases a4 <;> (simp [decX, evD, goodD, vsE, evF, gdI]; simp_all), ?_⟩
    intro i hi
    match i, hi with
    | 0, _ => exact ⟨by simp [lvV, evWs, evNs, vsE, evF, g0], h0.1⟩
    | 1, _ => exact ⟨by simp [lvV, evWs, evNs, vsE, evF, g1], h1.1⟩
    | 2, _ => cases a4 <;> exact ⟨by simp [lvV, evWs, evNs, vsE, evF, gdI], by simp [vsE, evF, gdI]⟩
  · have h0 := hin a5 (by simp [evNs])
    have h1 := hin a6 (by simp [evNs])
    have h2 := hin a7 (by simp [evNs])
    have g0 := whl_itoa h0
    have g1 := whl_itoa h1
    have g2 := whl_itoa h2
    simp [restE, Ev.zero] at hr
    refine ⟨rfl, rfl, by simp [decX, evD, goodD, vsE, evF]; simp_all, ?_⟩
    intro i hi
    match i, hi with
    | 0, _ => exact ⟨by simp [lvV, evWs, evNs, vsE, evF, g0], h0.1⟩
    | 1, _ => exact ⟨by simp [lvV, evWs, evNs, vsE, evF, g1], h1.1⟩
    | 2, _ => exact ⟨by simp [lvV, evWs, evNs, vsE, evF, g2], h2.1⟩
  · have h0 := hin a5 (by simp [evNs])
    have h1 := hin a6 (by simp [evNs])
    have g0 := whl_itoa h0
    have g1 := whl_itoa h1
    simp [restE, Ev.zero] at hr
    refine ⟨rfl, rfl, by simp [decX, evD, goodD, vsE, evF]; simp_all, ?_⟩
    intro i hi
    match i, hi with
    | 0, _ => exact ⟨by simp [lvV, evWs, evNs, vsE, evF, g0], h0.1⟩
    | 1, _ => exact ⟨by simp [lvV, evWs, evNs, vsE, evF, g1], h1.1⟩
  · simp [restE, Ev.zero] at hr
    refine ⟨rfl, rfl, by simp [decX, evD, goodD]; simp_all, ?_⟩
    intro i hi
    exact absurd hi (Nat.not_lt_zero _)
theorem lv_word {s : List UInt8} (h : ∀ j : Nat, 1 ≤ j → j ≤ 7 → wordB j ≠ (spl s).getD 0 []) : LvAns s Ev.zero := by
  refine Or.inr ⟨fun f hf hs => ?_, rfl⟩
  have hk := (code0 hf).1
  refine h f.kind.toNat (by omega) (by omega) ?_
  rw [ws_of hf hs]; rfl
theorem lv_cnt {s : List UInt8} {k : Nat} (hk : 1 ≤ k ∧ k ≤ 7) (hw : wordB k = (spl s).getD 0 []) (h : (spl s).length ≠ cnt k + 1) : LvAns s Ev.zero := by
  refine Or.inr ⟨fun f hf hs => h ?_, rfl⟩
  rw [ws_of hf hs, (ws_vals hf).1, ws_kind hf hs hk hw]
theorem lv_neg {s : List UInt8} {k i : Nat} (hk : 1 ≤ k ∧ k ≤ 7) (hw : wordB k = (spl s).getD 0 []) (hi : i < cnt k) (h : lvV k i ((spl s).getD (i + 1) []) < 0) : LvAns s Ev.zero := by
  refine Or.inr ⟨fun f hf hs => ?_, rfl⟩
  have e := ws_kind hf hs hk hw
  obtain ⟨h1, h2⟩ := (ws_vals hf).2.2.2 i (by rw [e]; exact hi)
  rw [ws_of hf hs, ← e, h1] at h
  omega
theorem jn_join : ∀ (ps : List (List UInt8)) (a : List UInt8), jn (a :: ps) = a ++ ps.flatMap fun p => 32 :: p
  | [], a => by simp [jn]
  | p :: ps, a => by
    show a ++ 32 :: jn (p :: ps) = _
    rw [jn_join ps p, List.flatMap_cons, List.cons_append]
theorem lv_piece {k : Int} {i : Nat} {w : List UInt8} (h : ¬ (k = 4 ∧ i = 2)) (h0 : 0 ≤ lvV k i w) : w = Lib.itoa (lvV k i w) := by
  unfold lvV at h0 ⊢
  rw [if_neg h] at h0 ⊢
  exact whl_some h0
theorem lv_good {w : List UInt8} (h0 : 0 ≤ lvV 4 2 w) : (lvV 4 2 w = 1 ∧ w = [103, 111, 111, 100]) ∨ (lvV 4 2 w = 0 ∧ w = [98, 97, 100]) := by
  have e : lvV 4 2 w = if w = [103, 111, 111, 100] then 1 else if w = [98, 97, 100] then 0 else -1 := by unfold lvV; rw [if_pos ⟨rfl, rfl⟩]
  rw [e] at h0 ⊢
  by_cases h1 : w = [103, 111, 111, 100]
  · exact Or.inl ⟨if_pos h1, h1⟩
  · rw [if_neg h1] at h0 ⊢
    by_cases h2 : w = [98, 97, 100]
    · exact Or.inr ⟨if_pos h2, h2⟩
    · rw [if_neg h2] at h0; omega
theorem body_of {k : Nat} (hk : 1 ≤ k ∧ k ≤ 7) {W : List (List UInt8)} {acc : List Int} (hw : wordB k = W.getD 0 []) (hl : W.length = cnt k + 1) (ha : acc.length = cnt k) (hv : ∀ i, i < cnt k → acc.getD i 0 = lvV k i (W.getD (i + 1) []) ∧ 0 ≤ acc.getD i 0) : W = evWs (decX k acc) := by
  rcases (show k = 1 ∨ k = 2 ∨ k = 3 ∨ k = 4 ∨ k = 5 ∨ k = 6 ∨ k = 7 by omega) with rfl | rfl | rfl | rfl | rfl | rfl | rfl
  · match W, hl, acc, ha, hw, hv with
    | [p, p0], _, [a], _, hw, hv =>
      have e0 : p0 = Lib.itoa a := by have h := hv 0 (by decide); simp at h; have h3 := lv_piece (k := 1) (i := 0) (w := p0) (by decide) (by omega); rw [← h.1] at h3; exact h3
      have e : p = wordB 1 := hw.symm
      rw [e, e0]; rfl
  · match W, hl, acc, ha, hw, hv with
    | [p, p0, p1], _, [a, b], _, hw, hv =>
      have e0 : p0 = Lib.itoa a := by have h := hv 0 (by decide); simp at h; have h3 := lv_piece (k := 2) (i := 0) (w := p0) (by decide) (by omega); rw [← h.1] at h3; exact h3
      have e1 : p1 = Lib.itoa b := by have h := hv 1 (by decide); simp at h; have h3 := lv_piece (k := 2) (i := 1) (w := p1) (by decide) (by omega); rw [← h.1] at h3; exact h3
      have e : p = wordB 2 := hw.symm
      rw [e, e0, e1]; rfl
  · match W, hl, acc, ha, hw, hv with
    | [p, p0, p1], _, [a, b], _, hw, hv =>
      have e0 : p0 = Lib.itoa a := by have h := hv 0 (by decide); simp at h; have h3 := lv_piece (k := 3) (i := 0) (w := p0) (by decide) (by omega); rw [← h.1] at h3; exact h3
      have e1 : p1 = Lib.itoa b := by have h := hv 1 (by decide); simp at h; have h3 := lv_piece (k := 3) (i := 1) (w := p1) (by decide) (by omega); rw [← h.1] at h3; exact h3
      have e : p = wordB 3 := hw.symm
      rw [e, e0, e1]; rfl
  · match W, hl, acc, ha, hw, hv with
    | [p, p0, p1, p2], _, [a, b, c], _, hw, hv =>
      have e0 : p0 = Lib.itoa a := by have h := hv 0 (by decide); simp at h; have h3 := lv_piece (k := 4) (i := 0) (w := p0) (by decide) (by omega); rw [← h.1] at h3; exact h3
      have e1 : p1 = Lib.itoa b := by have h := hv 1 (by decide); simp at h; have h3 := lv_piece (k := 4) (i := 1) (w := p1) (by decide) (by omega); rw [← h.1] at h3; exact h3
      have e2 : (c = 1 ∧ p2 = [103, 111, 111, 100]) ∨ (c = 0 ∧ p2 = [98, 97, 100]) := by have h := hv 2 (by decide); simp at h; have h3 := lv_good (w := p2) (by omega); rw [← h.1] at h3; exact h3
      have e : p = wordB 4 := hw.symm
      rcases e2 with ⟨rfl, rfl⟩ | ⟨rfl, rfl⟩
      · rw [e, e0, e1]; rfl
      · rw [e, e0, e1]; rfl
  · match W, hl, acc, ha, hw, hv with
    | [p, p0, p1, p2], _, [a, b, c], _, hw, hv =>
      have e0 : p0 = Lib.itoa a := by have h := hv 0 (by decide); simp at h; have h3 := lv_piece (k := 5) (i := 0) (w := p0) (by decide) (by omega); rw [← h.1] at h3; exact h3
      have e1 : p1 = Lib.itoa b := by have h := hv 1 (by decide); simp at h; have h3 := lv_piece (k := 5) (i := 1) (w := p1) (by decide) (by omega); rw [← h.1] at h3; exact h3
      have e2 : p2 = Lib.itoa c := by have h := hv 2 (by decide); simp at h; have h3 := lv_piece (k := 5) (i := 2) (w := p2) (by decide) (by omega); rw [← h.1] at h3; exact h3
      have e : p = wordB 5 := hw.symm
      rw [e, e0, e1, e2]; rfl
  · match W, hl, acc, ha, hw, hv with
    | [p, p0, p1], _, [a, b], _, hw, hv =>
      have e0 : p0 = Lib.itoa a := by have h := hv 0 (by decide); simp at h; have h3 := lv_piece (k := 6) (i := 0) (w := p0) (by decide) (by omega); rw [← h.1] at h3; exact h3
      have e1 : p1 = Lib.itoa b := by have h := hv 1 (by decide); simp at h; have h3 := lv_piece (k := 6) (i := 1) (w := p1) (by decide) (by omega); rw [← h.1] at h3; exact h3
      have e : p = wordB 6 := hw.symm
      rw [e, e0, e1]; rfl
  · match W, hl, acc, ha, hw with
    | [p], _, [], _, hw =>
      have e : p = wordB 7 := hw.symm
      rw [e]; rfl
theorem lv_fin {s : List UInt8} {k : Nat} {acc : List Int} {c : Int} (hk : 1 ≤ k ∧ k ≤ 7) (hw : wordB k = (spl s).getD 0 []) (hl : (spl s).length = cnt k + 1) (ha : acc.length = cnt k) (hv : ∀ i, i < cnt k → acc.getD i 0 = lvV k i ((spl s).getD (i + 1) []) ∧ 0 ≤ acc.getD i 0) (hc : EvCode (decX k acc) c) : LvAns s (if c = 0 then decX k acc else Ev.zero) := by
  have hb := body_of hk hw hl ha hv
  by_cases h0 : c = 0
  · rw [if_pos h0]
    subst h0
    refine Or.inl ⟨hc, ?_⟩
    rw [body_join, ← jn_spl s, hb]
    exact (jn_join _ _).symm
  · rw [if_neg h0]
    refine Or.inr ⟨fun f hf hs => ?_, rfl⟩
    have e := ws_kind hf hs hk hw
    obtain ⟨_, h2, h3, h4⟩ := ws_vals hf
    rw [e] at h2 h3 h4
    have e2 : acc = vsE f := by
      refine List.ext_getElem (by rw [ha, h2]) (fun i h5 h6 => ?_)
      have h7 := (hv i (by omega)).1
      rw [ws_of hf hs, (h4 i (by omega)).1] at h7
      simpa [List.getD, h5, h6] using h7
    rw [e2, ← h3] at hc
    rcases hc with ⟨p, _⟩ | ⟨_, p, _⟩ | ⟨_, _, p, _⟩ | ⟨_, _, _, p⟩
    · exact p (code0 hf).1
    · rcases hf with ⟨_, h⟩ | ⟨_, _, h⟩ | ⟨_, _, _, h⟩ | ⟨_, q, _, _⟩
      · omega
      · omega
      · omega
      · exact p q
    · exact p (code0 hf).2
    · exact h0 p
theorem LvAns.line {s : List UInt8} {x : Ev} (h : LvAns s x) : (x.kind ≠ 0 ∧ EvCode x 0 ∧ lineB x = s ++ [10]) ∨ (x.kind = 0 ∧ ∀ f, EvCode f 0 → lineB f ≠ s ++ [10]) := by
  rcases h with ⟨h1, h2⟩ | ⟨h1, h2⟩
  · exact Or.inl ⟨by have := (code0 h1).1; omega, h1, by rw [line_body, h2]⟩
  · refine Or.inr ⟨by rw [h2]; rfl, fun f hf e => h1 f hf ?_⟩
    rw [line_body] at e
    exact (List.append_inj' e rfl).1
end Go.Proofs.YtnebijdifemicaaDoor
