/- A world that has begun, in plain words; the wheel's comparison. -/
import Derived.Test.YtjfnnbbnkcdbcaaBegM
import Derived.Deep.RegionWith
namespace Go.Proofs.Ytjfnnbbnkcdbcaa
open Go.RowKit

/-- n backends of which nothing is known. -/
def hnils (n : Nat) : List (List Value) := List.replicate n [.slice none 0 0, .bool false, .int .i64 0, .int .i64 0]
theorem hnils_len (n : Nat) : ∀ c ∈ hnils n, c.length = 4 := by
  intro c hc
  rw [List.eq_of_mem_replicate hc]; rfl
theorem hnils_length (n : Nat) : (hnils n).length = n := by simp [hnils]
theorem hnils_succ (n : Nat) : (hnils (n + 1)).flatten = (hnils n).flatten ++ [.slice none 0 0, .bool false, .int .i64 0, .int .i64 0] := by
  unfold hnils
  rw [List.replicate_succ', List.flatten_append]
  simp
theorem hnils_get (n i : Nat) (h : i < n) : (hnils n).getD i [] = [.slice none 0 0, .bool false, .int .i64 0, .int .i64 0] := by
  unfold hnils; simp [List.getD, h]
theorem made_hnils (n : Nat) : (madeCells #[.slice none 0 0, .bool false, .int .i64 0, .int .i64 0] (n * 4)).toList = (hnils n).flatten := madeCells_toList #[.slice none 0 0, .bool false, .int .i64 0, .int .i64 0] n (by decide)
theorem setRow_block {w : World} {b : Nat} {arr arr' : Array Value} {T : TypeId} {fr : Nat × Nat} (h : w.heap[b]? = some (.cells arr T fr)) : (w.setRow b arr').heap[b]? = some (.cells arr' T fr) := by
  have hlt := lt_of_block h
  have h' : w.heap[b] = .cells arr T fr := by simpa [Array.getElem?_eq_getElem hlt] using h
  show (w.heap.modify b _)[b]? = _
  rw [Array.getElem?_eq_getElem (by simpa using hlt), Array.getElem_modify_self, h']
theorem setRow_below {w : World} {b B : Nat} {a : World} {arr : Array Value} (h : Below B a w) (hB : B ≤ b) : Below B a (w.setRow b arr) :=
  h.trans ⟨rfl, rfl, rfl, by simp [World.setRow], fun k hk => by
    show (w.heap.modify b _)[k]? = _
    rw [Array.getElem?_modify, if_neg (by omega)]⟩
theorem RowNew_setRow {B : Nat} {w : World} {sz : Nat} {v : Value} {L : List (List Value)} (h : RowNew B w sz v L) {b : Nat} (hb : b < B) (arr : Array Value) : RowNew B (w.setRow b arr) sz v L := by
  obtain ⟨⟨a, cap, rfl, h1, h2, h3, h4⟩, h5⟩ := h
  refine ⟨⟨a, cap, rfl, h1, h2, h3, fun hne => ?_⟩, h5⟩
  obtain ⟨b', off, rfl, h6, h7⟩ := h4 hne
  have h8 := h5 _ _ _ rfl
  simp only at h8
  refine ⟨b', off, rfl, by simpa [World.setRow] using h6, fun i j hi hj => ?_⟩
  rw [← h7 i j hi hj]
  exact cell_setRow_other w b arr _ (by show b' ≠ b; omega)
theorem own_litW {w : World} {base b n T sz : Nat} {cs : List Value} (hb : base ≤ b) (hh : w.heap[b]? = some (.cells cs.toArray T (0, 0))) (hn : n ≤ maxLen) (hl : cs.length = n * sz) : w.ownsRow base T sz (.slice (some ⟨b, 0, none⟩) n n) n cs :=
  ⟨hl, .inr ⟨b, n, cs.toArray, rfl, hb, hh, Nat.le_refl _, hn, by simpa using hl, by simp [← hl]⟩⟩
def wArr (flows num den tries warm drain idle connect retries most bn bd bb ww wf wh : Int) (vt vh : Value) (bk : Int) (vl : Value) : Array Value := #[.int .i64 flows, .int .i64 num, .int .i64 den, .int .i64 tries, .int .i64 warm, .int .i64 drain, .int .i64 idle, .int .i64 connect, .int .i64 retries, .int .i64 most, .int .i64 bn, .int .i64 bd, .int .i64 bb, .int .i64 ww, .int .i64 wf, .int .i64 wh, .int .i64 0, vt, .slice none 0 0, .slice none 0 0, .slice none 0 0, .slice none 0 0, vh, .int .i64 bk, .int .i64 0, vl]
theorem one_wArr (flows num den tries warm drain idle connect retries most bn bd bb ww wf wh bk : Int) (a1 a2 a3 : Option Addr) (n1 c1 n2 c2 n3 c3 : Nat) : (wArr flows num den tries warm drain idle connect retries most bn bd bb ww wf wh (.slice a1 n1 c1) (.slice a2 n2 c2) bk (.slice a3 n3 c3)).all (·.oneCell') = true := by
  simp [wArr]
  repeat' (first | rfl | apply And.intro)
def zWorld : Array Value := wArr 0 0 0 0 0 0 0 0 0 0 0 0 0 0 0 0 (.slice none 0 0) (.slice none 0 0) 0 (.slice none 0 0)
set_option maxHeartbeats 1000000 in
theorem SameTimers_nil (a1 a2 : Option Addr) (c1 c2 : Nat) (w : World) :
    Calls Try.prog 67 #[.slice a1 0 c1, .slice a2 0 c2] w fun e w' => e = .returned (.bool true) ∧ w = w' := by
  go_enter Try.func67, Try.ntmps67
  go_wp2
  refine wp_loop_rounds 1 ?_
  rw [rounds_succ]
  go_wp2
  all_goals first | (go_ret; exact ⟨rfl, rfl⟩) | (exfalso; first | omega | (simp at *; omega) | (simp at *; done))

set_option maxHeartbeats 2000000 in
set_option maxRecDepth 100000 in
theorem SameWheel_nils (b1 o1 c1 b2 o2 c2 : Nat) (now : Int) (w : World) (h1 : ∀ i, i < 25 → w.cell? ⟨b1, o1 + i, none⟩ = some (.slice none 0 0)) (h2 : ∀ i, i < 25 → w.cell? ⟨b2, o2 + i, none⟩ = some (.slice none 0 0)) :
    Calls Try.prog 53 #[.agg #[.int .i64 now, .slice (some ⟨b1, o1, none⟩) 25 c1], .agg #[.int .i64 now, .slice (some ⟨b2, o2, none⟩) 25 c2]] w fun e w' => e = .returned (.bool true) ∧ Below w.heap.size w w' := by
  have H1 := Lib.hid h1
  have H2 := Lib.hid h2
  clear h1 h2
  go_enter Try.func53, Try.ntmps53
  go_wp2
  go_loopw [5] (fun i wr => ∃ k : Nat, k ≤ 25 ∧ i = .int .i64 k ∧ Below w.heap.size w wr ∧ wr.cell? ⟨w.heap.size, 1, none⟩ = some (.slice (some ⟨b1, o1, none⟩) 25 c1) ∧ wr.cell? ⟨w.heap.size + 1, 1, none⟩ = some (.slice (some ⟨b2, o2, none⟩) 25 c2) ∧ (∀ b o v, w.cell? ⟨b, o, none⟩ = some v → wr.cell? ⟨b, o, none⟩ = some v)) (fun i _ => 25 - (intOf i).toNat)
  case atStart => exact ⟨0, Nat.zero_le _, rfl, ((Below.refl _ _).alloc (Nat.le_refl _) _).alloc (by simp) _, by go_simp, by go_simp, fun _ _ _ h => cell_alloc _ (cell_alloc _ h)⟩
  case round =>
    obtain ⟨k, hk, rfl, hbel, s1, s2, hold⟩ := hrel
    rcases (show k < 25 ∨ k = 25 by omega) with hlt | rfl
    · have hlt' : (k : Int) < 25 := by omega
      have a0 := hold _ _ _ (H1.out k hlt)
      have d0 := hold _ _ _ (H2.out k hlt)
      have HO := Lib.hid hold
      clear hold
      go_wp2_with fail
      go_quiet ((go_at_call 67; exact Calls.quiet_of_same ((SameTimers_nil _ _ _ _ _).mono (fun _ _ h => ⟨h.1, h.2.symm⟩))))
      go_wp2
      go_roundw
      case rel => exact ⟨k + 1, by omega, by go_num, Below_drewN hbel, s1, s2, fun b o v h => HO.out b o v h⟩
      case measure => simp [intOf]; omega
    · go_wp2
      all_goals first | (go_ret; exact ⟨rfl, hbel⟩) | (exfalso; first | omega | (simp at *; omega) | (simp at *; done))

theorem SameWheel_news (v1 v2 : Value) (now : Int) (w : World) (r1 : RowAt w 1 v1 (nils 25)) (r2 : RowAt w 1 v2 (nils 25)) :
    Calls Try.prog 53 #[.agg #[.int .i64 now, v1], .agg #[.int .i64 now, v2]] w fun e w' => e = .returned (.bool true) ∧ Below w.heap.size w w' := by
  obtain ⟨a1, c1, rfl, _, _, _, p1⟩ := r1
  obtain ⟨a2, c2, rfl, _, _, _, p2⟩ := r2
  have hl : (nils 25).length = 25 := by simp [nils]
  have hne : nils 25 ≠ [] := by intro h; rw [h] at hl; cases hl
  obtain ⟨b1, o1, rfl, _, q1⟩ := p1 hne
  obtain ⟨b2, o2, rfl, _, q2⟩ := p2 hne
  rw [hl] at q1 q2 ⊢
  have g : ∀ i, i < 25 → ((nils 25).getD i [])[0]? = some (.slice none 0 0) := fun i hi => nils_get 25 i hi
  exact SameWheel_nils b1 o1 c1 b2 o2 c2 now w (fun i hi => by have := q1 i 0 hi (by omega); rw [g i hi] at this; simpa using this) (fun i hi => by have := q2 i 0 hi (by omega); rw [g i hi] at this; simpa using this)

set_option maxHeartbeats 1000000 in
set_option maxRecDepth 100000 in
theorem SameWheel_zero (w : World) : Calls Try.prog 53 #[.agg #[.int .i64 0, .slice none 0 0], .agg #[.int .i64 0, .slice none 0 0]] w fun e w' => e = .returned (.bool true) ∧ Below w.heap.size w w' := by
  go_enter Try.func53, Try.ntmps53
  go_wp2
  refine wp_loop_rounds 1 ?_
  rw [rounds_succ]
  go_wp2
  all_goals first | (go_ret; exact ⟨rfl, (by repeat (first | (with_reducible exact Below.refl _ _) | (with_reducible assumption) | (with_reducible refine Below.drew ?_) | (with_reducible refine Below_drewN ?_) | (with_reducible refine Below.alloc ?_ (by first | omega | (simp; done) | (simp; omega)) _) | (with_reducible refine Below.setCell ?_ (by first | omega | (simp; done) | (simp; omega)) _) | (with_reducible refine Below.trans ?_ (Below.mono (by assumption) (by first | omega | (simp; done) | (simp; omega))))))⟩) | (exfalso; first | omega | (simp at *; omega) | (simp at *; done))


end Go.Proofs.Ytjfnnbbnkcdbcaa
