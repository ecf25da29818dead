/- wire.put: its contract. -/
import Derived.Test.YtjfnnbbnkcdbcaaWireE
namespace Go.Proofs.Ytjfnnbbnkcdbcaa
open Go.RowKit

/-- A number's bytes (P2.2). -/
def encN (n : Nat) : List Int := if n < 128 then [(n : Int)] else ((n % 128 + 128 : Nat) : Int) :: encN (n / 128)
theorem encN_lo {n : Nat} (h : n < 128) : encN n = [(n : Int)] := by rw [encN, if_pos h]
theorem encN_hi {n : Nat} (h : 128 ≤ n) : encN n = ((n % 128 + 128 : Nat) : Int) :: encN (n / 128) := by rw [encN, if_neg (by omega)]
theorem encN_len : ∀ (k n : Nat), n < 128 ^ (k + 1) → (encN n).length ≤ k + 1
  | 0, n, h => by rw [encN_lo (by simpa using h)]; simp
  | k + 1, n, h => by
    rcases Nat.lt_or_ge n 128 with h1 | h1
    · rw [encN_lo h1]; simp
    · rw [encN_hi h1]
      have := encN_len k (n / 128) (by rw [Nat.div_lt_iff_lt_mul (by decide)]; rwa [Nat.pow_succ] at h)
      simp; omega
theorem encN_in : ∀ (n : Nat), ∀ x ∈ encN n, 0 ≤ x ∧ x ≤ 255 := by
  intro n
  induction n using Nat.strongRecOn with
  | _ n ih =>
    intro x hx
    rcases Nat.lt_or_ge n 128 with h1 | h1
    · rw [encN_lo h1] at hx; simp at hx; omega
    · rw [encN_hi h1] at hx
      rcases List.mem_cons.1 hx with h | h
      · omega
      · exact ih _ (by omega) x h
def flatB (L : List Int) : List Value := L.map (Value.int .u8)
def byts (L : List Int) : List (List Value) := L.map fun x => [Value.int .u8 x]
theorem flat_byts : ∀ L, (byts L).flatten = flatB L
  | [] => rfl
  | x :: L => by have := flat_byts L; simp only [byts, flatB] at this; simp [byts, flatB, this]
theorem flatB_len (L : List Int) : (flatB L).length = L.length := by simp [flatB]
theorem flatB_app (L M : List Int) : flatB (L ++ M) = flatB L ++ flatB M := by simp [flatB]
theorem info_u8 : (Try.prog.info? 5).map (fun i => (i.zero, i.size, i.bytes)) = some (some (.int .u8 0), 1, 1) := by kernel_rfl
set_option maxRecDepth 100000 in
theorem or_bits (m : Nat) : bits BinOp.or IntKind.u8 ((m : Int) % 256) 128 = ((m % 128 + 128 : Nat) : Int) := by
  have key : ∀ r : Fin 256, bits BinOp.or IntKind.u8 ((r.1 : Nat) : Int) 128 = ((r.1 % 128 + 128 : Nat) : Int) := by decide
  have := key ⟨m % 256, by omega⟩
  simp only at this
  rw [show ((m : Int) % 256) = ((m % 256 : Nat) : Int) by omega, this]
  omega
def PutPost (B : Nat) (w : World) (L : List Int) (e : Ending) (w' : World) : Prop := ∃ v, e = .returned v ∧ w'.ownsRow B 5 1 v L.length (flatB L) ∧ Below B w w'

set_option maxHeartbeats 4000000 in
set_option maxRecDepth 100000 in
theorem prog_put (B : Nat) (a0 : Option Addr) (cap0 : Nat) (L : List Int) (n : Nat) (w : World) (hB : B ≤ w.heap.size) (hn : n < 34359738368) (hL : L.length ≤ 1000) (hown : w.ownsRow B 5 1 (.slice a0 L.length cap0) L.length (flatB L)) :
    Calls Try.prog 33 #[.slice a0 L.length cap0, .int .i64 n] w (PutPost B w (L ++ encN n)) := by
  obtain ⟨i0, ji, ji0, ji1, ji2⟩ := info_parts info_u8
  have HO0 := Lib.hid hown
  have HLen := Lib.hid (encN_len 4 n (by simpa using hn))
  clear hown
  go_enter Try.func33, Try.ntmps33
  go_wp2_with fail
  go_loopw [0, 1] (fun b i wr => ∃ (E : List Int) (m : Nat) (a : Option Addr) (cap : Nat), b = .slice a (L.length + E.length) cap ∧ i = .int .i64 m ∧ m ≤ n ∧ encN n = E ++ encN m ∧ Below B w wr ∧ wr.ownsRow B 5 1 (.slice a (L.length + E.length) cap) (L.length + E.length) (flatB (L ++ E))) (fun _ i _ => (intOf i).toNat)
  case atStart => exact ⟨[], n, a0, cap0, by simp, rfl, Nat.le_refl _, rfl, Below.refl _ _, by simpa using HO0.out⟩
  case round =>
    obtain ⟨E, m, a, cap, rfl, rfl, hm, hE, hb, hown⟩ := hrel
    have hEl : E.length ≤ 5 := by have := HLen.out; rw [hE] at this; simp at this; omega
    have hsz := hb.size
    have hB' : B ≤ wr.heap.size := by omega
    have HB := Lib.hid hb
    have HO := Lib.hid hown
    have HE := Lib.hid hE
    clear hb hown hE HO0 HLen
    rcases (show 128 ≤ m ∨ m < 128 by omega) with hge | hlt
    · have hge' : (128 : Int) ≤ (m : Int) := by omega
      have hbit := or_bits m
      go_wp2_with (at_builtin; go_loud (refine wpList_append_own _ rfl _ _ 27 rfl B 5 i0 (.int .u8 0) 1 1 Try.underlying27 ji ji0 ji1 ji2 rfl (by decide) _ (L.length + E.length) (flatB (L ++ E)) rfl ?c5 ⟨wr.heap.size, 0, none⟩ 1 1 [.int .u8 ((m % 128 + 128 : Nat) : Int)] rfl rfl ?c6 ?c1 ?c2 ?c3 ?c4 ?_))
      case c5 => exact HO.out.alloc _
      case c6 => exact news_one _ _
      case c1 => intro u hu; simp at hu; subst hu; rfl
      case c2 => unfold maxLen; omega
      case c3 => omega
      case c4 => simp; omega
      intro v' w1 hown' hgrow _
      have hB1 := grown_below ((Below.refl _ _).alloc (Nat.le_refl _) _) hB' HO.out hgrow
      obtain ⟨a', cap', rfl, _, _⟩ := owns_shape hown'
      have HB2 := Lib.hid (HB.out.trans hB1)
      have HO2 : Hid (w1.ownsRow B 5 1 (.slice a' (L.length + (E ++ [((m % 128 + 128 : Nat) : Int)]).length) cap') (L.length + (E ++ [((m % 128 + 128 : Nat) : Int)]).length) (flatB (L ++ (E ++ [((m % 128 + 128 : Nat) : Int)])))) := by
        have := hown'
        show World.ownsRow _ _ _ _ _ _ _
        rw [← List.append_assoc, flatB_app]
        simpa [flatB, Nat.add_assoc] using this
      clear hown' hgrow hB1
      go_wp2
      go_roundw
      case rel =>
        refine ⟨E ++ [((m % 128 + 128 : Nat) : Int)], m / 128, a', cap', by simp [Nat.add_assoc], by go_num, by omega, ?_, HB2.out, HO2.out⟩
        rw [HE.out, encN_hi hge]; simp
      case measure => simp [intOf]; omega
    · have hlt' : ¬ (128 : Int) ≤ (m : Int) := by omega
      go_wp2_with (at_builtin; go_loud (refine wpList_append_own _ rfl _ _ 27 rfl B 5 i0 (.int .u8 0) 1 1 Try.underlying27 ji ji0 ji1 ji2 rfl (by decide) _ (L.length + E.length) (flatB (L ++ E)) rfl ?c5 ⟨wr.heap.size, 0, none⟩ 1 1 [.int .u8 (m : Int)] rfl rfl ?c6 ?c1 ?c2 ?c3 ?c4 ?_))
      case c5 => exact HO.out.alloc _
      case c1 => rfl
      case c2 => unfold maxLen; omega
      case c3 => omega
      case c4 => omega
      intro v' w1 hown' hgrow _
      have hB1 := grown_below ((Below.refl _ _).alloc (Nat.le_refl _) _) hB' HO.out hgrow
      obtain ⟨a', cap', rfl, _, _⟩ := owns_shape hown'
      have HB2 := Lib.hid (HB.out.trans hB1)
      have HO2 : Hid (w1.ownsRow B 5 1 (.slice a' (L.length + E.length + 1) cap') (L ++ encN n).length (flatB (L ++ encN n))) := by
        have := hown'
        show World.ownsRow _ _ _ _ _ _ _
        rw [HE.out, encN_lo hlt, ← List.append_assoc, flatB_app (L ++ E)]
        simpa [flatB, Nat.add_assoc] using this
      clear hown' hgrow hB1
      go_wp2
      refine bodyPost_ret (v := .slice a' (L.length + E.length + 1) cap') ?_ rfl ⟨_, rfl, HO2.out, HB2.out⟩
      simp [results, Try.results33, go_sem, *]
end Go.Proofs.Ytjfnnbbnkcdbcaa
