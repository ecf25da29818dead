/- What a line spells; what Read answers: in plain words. -/
import Derived.Test.YtnebijdifemicaaDoorRp
namespace Go.Proofs.YtnebijdifemicaaDoor
open Go.RowKit
theorem spl_join : ∀ (ps : List (List UInt8)) (a : List UInt8), (∀ b ∈ a, b ≠ 32) → (∀ p ∈ ps, ∀ b ∈ p, b ≠ 32) → spl (a ++ ps.flatMap fun p => 32 :: p) = a :: ps
  | [], a, h, _ => by rw [List.flatMap_nil, List.append_nil]; exact spl_none h
  | p :: ps, a, h, hp => by
    rw [List.flatMap_cons, List.cons_append, spl_cons _ h, spl_join ps p (hp p (List.mem_cons_self ..)) (fun q hq => hp q (List.mem_cons_of_mem _ hq))]
/-- The pieces of an event's line. -/
def evWs (e : Ev) : List (List UInt8) := wordB e.kind.toNat :: ((evNs e).map Lib.itoa ++ (if e.kind = 4 then [if e.good then [103, 111, 111, 100] else [98, 97, 100]] else []))
theorem word_no {k : Nat} (c : UInt8) (hc : c = 32 ∨ c = 10) : ∀ b ∈ wordB k, b ≠ c := by
  unfold wordB
  rcases hc with rfl | rfl <;> (match k with
  | 0 | 1 | 2 | 3 | 4 | 5 | 6 | 7 => simp
  | n + 8 => simp)
theorem itoa_no {n : Int} (h : 0 ≤ n) (c : UInt8) (hc : c = 32 ∨ c = 10) : ∀ b ∈ Lib.itoa n, b ≠ c := by
  obtain ⟨m, rfl⟩ := Int.eq_ofNat_of_zero_le h
  rw [Lib.itoa_nonneg]
  exact dec_no (by rcases hc with rfl | rfl <;> decide)
theorem body_join (e : Ev) : bodyB e = wordB e.kind.toNat ++ ((evNs e).map Lib.itoa ++ (if e.kind = 4 then [if e.good then [103, 111, 111, 100] else [98, 97, 100]] else [])).flatMap fun p => 32 :: p := by
  unfold bodyB goodB
  rw [List.flatMap_append, List.append_assoc]
  congr 1
  congr 1
  · induction evNs e with
    | nil => rfl
    | cons n l ih => simp only [List.flatMap_cons, List.map_cons, ih]; rfl
  · split
    · split <;> rfl
    · rfl
theorem body_no {e : Ev} (he : EvCode e 0) (c : UInt8) (hc : c = 32 ∨ c = 10) : ∀ p ∈ ((evNs e).map Lib.itoa ++ (if e.kind = 4 then [if e.good then [103, 111, 111, 100] else [98, 97, 100]] else [])), ∀ b ∈ p, b ≠ c := by
  intro p hp
  rcases List.mem_append.1 hp with h | h
  · obtain ⟨n, hn, rfl⟩ := List.mem_map.1 h
    exact itoa_no (evNs_in he n hn).1 c hc
  · split at h
    · rw [List.mem_singleton] at h
      subst h
      rcases hc with rfl | rfl <;> split <;> simp
    · simp at h
theorem spl_body {e : Ev} (he : EvCode e 0) : spl (bodyB e) = evWs e := by
  rw [body_join]
  exact spl_join _ _ (word_no 32 (Or.inl rfl)) (body_no he 32 (Or.inl rfl))
theorem body_no10 {e : Ev} (he : EvCode e 0) : ∀ b ∈ bodyB e, b ≠ 10 := by
  intro b hb
  rw [body_join] at hb
  rcases List.mem_append.1 hb with h | h
  · exact word_no 10 (Or.inr rfl) b h
  · obtain ⟨p, hp, hb⟩ := List.mem_flatMap.1 h
    rcases List.mem_cons.1 hb with rfl | hb
    · decide
    · exact body_no he 10 (Or.inr rfl) p hp b hb
/-- The kind that a word names, of the kinds below k. -/
def kdUp : Nat → List UInt8 → Int
  | 0, _ => 0
  | k + 1, w => if 0 < k ∧ wordB k = w then (k : Int) else kdUp k w
def setF (x : Ev) (j : Nat) (v : Int) : Ev := if j = 1 then { x with key := v } else if j = 2 then { x with slot := v } else if j = 3 then { x with gen := v } else if j = 5 then { x with request := v } else if j = 6 then { x with backend := v } else if j = 7 then { x with weight := v } else x
def evX0 (l : List (List UInt8)) : Ev := ⟨kdUp 8 (l.getD 0 []), 0, 0, 0, decide (kdUp 8 (l.getD 0 []) = 4) && decide (l.getD (l.length - 1) [] = [103, 111, 111, 100]), 0, 0, 0⟩
def evSt (l : List (List UInt8)) (ix : List Nat) (x0 : Ev) : Nat → Ev
  | 0 => x0
  | i + 1 => if i + 1 < l.length then setF (evSt l ix x0 i) (ix.getD i 0) (atV (l.getD (i + 1) [])) else evSt l ix x0 i
/-- What a line spells, as far as it can be read. -/
def evParse (l : List (List UInt8)) : Ev := evSt l (evIx (kdUp 8 (l.getD 0 []))) (evX0 l) (evIx (kdUp 8 (l.getD 0 []))).length
theorem kdUp_word {k : Nat} (h : 1 ≤ k ∧ k ≤ 7) : kdUp 8 (wordB k) = k := by
  rcases (show k = 1 ∨ k = 2 ∨ k = 3 ∨ k = 4 ∨ k = 5 ∨ k = 6 ∨ k = 7 by omega) with rfl | rfl | rfl | rfl | rfl | rfl | rfl <;> decide
theorem atV_itoa {n : Int} (h : 0 ≤ n ∧ n ≤ 4294967295) : atV (Lib.itoa n) = n := by
  obtain ⟨m, rfl⟩ := Int.eq_ofNat_of_zero_le h.1
  rw [Lib.itoa_nonneg]
  exact atV_dec (by omega)
theorem parse_ws {e : Ev} (he : EvCode e 0) : evParse (evWs e) = e := by
  have hin := evNs_in he
  obtain ⟨hk, hr⟩ : (1 ≤ e.kind ∧ e.kind ≤ 7) ∧ restE e = Ev.zero := by
    rcases he with ⟨_, h⟩ | ⟨_, _, h⟩ | ⟨_, _, _, h⟩ | ⟨h, _, h2, _⟩
    · omega
    · omega
    · omega
    · exact ⟨h, h2⟩
  obtain ⟨k, a1, a2, a3, a4, a5, a6, a7⟩ := e
  simp only at hk
  rcases (show k = 1 ∨ k = 2 ∨ k = 3 ∨ k = 4 ∨ k = 5 ∨ k = 6 ∨ k = 7 by omega) with rfl | rfl | rfl | rfl | rfl | rfl | rfl
  · have hw := kdUp_word (k := 1) (by decide)
    have h0 := atV_itoa (hin a1 (by simp [evNs]))
    simp [restE, Ev.zero] at hr
    simp [evParse, evWs, evNs, evX0, hw, evIx, evSt, setF, h0]
    simp_all
  · have hw := kdUp_word (k := 2) (by decide)
    have h0 := atV_itoa (hin a2 (by simp [evNs]))
    have h1 := atV_itoa (hin a3 (by simp [evNs]))
    simp [restE, Ev.zero] at hr
    simp [evParse, evWs, evNs, evX0, hw, evIx, evSt, setF, h0, h1]
    simp_all
  · have hw := kdUp_word (k := 3) (by decide)
    have h0 := atV_itoa (hin a2 (by simp [evNs]))
    have h1 := atV_itoa (hin a3 (by simp [evNs]))
    simp [restE, Ev.zero] at hr
    simp [evParse, evWs, evNs, evX0, hw, evIx, evSt, setF, h0, h1]
    simp_all
  · have hw := kdUp_word (k := 4) (by decide)
    have h0 := atV_itoa (hin a2 (by simp [evNs]))
    have h1 := atV_itoa (hin a3 (by simp [evNs]))
    cases a4
    all_goals (
      simp [restE, Ev.zero] at hr
      simp [evParse, evWs, evNs, evX0, hw, evIx, evSt, setF, h0, h1]
      simp_all)
  · have hw := kdUp_word (k := 5) (by decide)
    have h0 := atV_itoa (hin a5 (by simp [evNs]))
    have h1 := atV_itoa (hin a6 (by simp [evNs]))
    have h2 := atV_itoa (hin a7 (by simp [evNs]))
    simp [restE, Ev.zero] at hr
    simp [evParse, evWs, evNs, evX0, hw, evIx, evSt, setF, h0, h1, h2]
    simp_all
  · have hw := kdUp_word (k := 6) (by decide)
    have h0 := atV_itoa (hin a5 (by simp [evNs]))
    have h1 := atV_itoa (hin a6 (by simp [evNs]))
    simp [restE, Ev.zero] at hr
    simp [evParse, evWs, evNs, evX0, hw, evIx, evSt, setF, h0, h1]
    simp_all
  · have hw := kdUp_word (k := 7) (by decide)
    simp [restE, Ev.zero] at hr
    simp [evParse, evWs, evNs, evX0, hw, evIx, evSt]
    simp_all
theorem line_inj {e f : Ev} (he : EvCode e 0) (hf : EvCode f 0) (h : lineB e = lineB f) : e = f := by
  rw [line_body, line_body] at h
  have h1 := (List.append_inj' h rfl).1
  have h2 := congrArg spl h1
  rw [spl_body he, spl_body hf] at h2
  rw [← parse_ws he, ← parse_ws hf, h2]
/-- What Read answers of the lines that are left, behind the events acc (P14.3). -/
def RdAns : List (List UInt8) → List Ev → List Ev → Int → Int → Prop
  | [], acc, r, i, c => r = acc ∧ i = 0 ∧ c = 0
  | x :: xs, acc, r, i, c => (acc.length = 4000 ∧ r = [] ∧ i = 4000 ∧ c = 9) ∨ (acc.length < 4000 ∧ (∀ e, EvCode e 0 → lineB e ≠ x) ∧ r = [] ∧ i = acc.length ∧ c = 3) ∨ (acc.length < 4000 ∧ ∃ e, EvCode e 0 ∧ lineB e = x ∧ RdAns xs (acc ++ [e]) r i c)
theorem RdAns_fun : ∀ {xs : List (List UInt8)} {acc r1 r2 : List Ev} {i1 i2 c1 c2 : Int}, RdAns xs acc r1 i1 c1 → RdAns xs acc r2 i2 c2 → r1 = r2 ∧ i1 = i2 ∧ c1 = c2
  | [], acc, r1, r2, i1, i2, c1, c2, h1, h2 => by
    obtain ⟨rfl, rfl, rfl⟩ := h1
    obtain ⟨rfl, rfl, rfl⟩ := h2
    exact ⟨rfl, rfl, rfl⟩
  | x :: xs, acc, r1, r2, i1, i2, c1, c2, h1, h2 => by
    rcases h1 with ⟨p, rfl, rfl, rfl⟩ | ⟨p, q, rfl, rfl, rfl⟩ | ⟨p, e, he, hx, h1⟩ <;> rcases h2 with ⟨p', rfl, rfl, rfl⟩ | ⟨p', q', rfl, rfl, rfl⟩ | ⟨p', e', he', hx', h2⟩
    · exact ⟨rfl, rfl, rfl⟩
    · omega
    · omega
    · omega
    · exact ⟨rfl, rfl, rfl⟩
    · exact absurd hx' (q e' he')
    · omega
    · exact absurd hx (q' e he)
    · have := line_inj he he' (hx.trans hx'.symm)
      subst this
      exact RdAns_fun h1 h2
/-- The whole of Read's answer. -/
def ReadAns (t : List UInt8) (r : List Ev) (i c : Int) : Prop := (200000 < t.length ∧ r = [] ∧ i = 0 ∧ c = 1) ∨ (t.length ≤ 200000 ∧ RdAns (lns t) [] r i c)
theorem ReadAns_fun {t : List UInt8} {r1 r2 : List Ev} {i1 i2 c1 c2 : Int} (h1 : ReadAns t r1 i1 c1) (h2 : ReadAns t r2 i2 c2) : r1 = r2 ∧ i1 = i2 ∧ c1 = c2 := by
  rcases h1 with ⟨p, rfl, rfl, rfl⟩ | ⟨p, h1⟩ <;> rcases h2 with ⟨p', rfl, rfl, rfl⟩ | ⟨p', h2⟩
  · exact ⟨rfl, rfl, rfl⟩
  · omega
  · omega
  · exact RdAns_fun h1 h2
/-- Behind lines that were taken: what is left decides. -/
theorem RdAns_app : ∀ {es acc : List Ev} {xs : List (List UInt8)} {r : List Ev} {i c : Int}, acc.length + es.length ≤ 4000 → (∀ e ∈ es, EvCode e 0) → RdAns xs (acc ++ es) r i c → RdAns (es.map lineB ++ xs) acc r i c
  | [], acc, xs, r, i, c, _, _, h => by rw [List.append_nil] at h; exact h
  | e :: es, acc, xs, r, i, c, hl, he, h => by
    rw [List.length_cons] at hl
    refine Or.inr (Or.inr ⟨by omega, e, he e (List.mem_cons_self ..), rfl, ?_⟩)
    refine RdAns_app (by rw [List.length_append, List.length_singleton]; omega) (fun f hf => he f (List.mem_cons_of_mem _ hf)) ?_
    rw [List.append_assoc]; exact h
end Go.Proofs.YtnebijdifemicaaDoor
