/- usherref.numberBytes and usherlaw.sameBytes: their contracts. -/
import Derived.Test.YtjfnnbbnkcdbcaaPut
namespace Go.Proofs.Ytjfnnbbnkcdbcaa
open Go.RowKit

theorem own_news {w : World} {base T n sz : Nat} {v : Value} {cs : List Value} {a : Addr} {m cap : Nat} (h : w.ownsRow base T sz v n cs) (hv : v = .slice (some a) m cap) : ∀ (j : Nat) (u : Value), cs[j]? = some u → w.cell? (a.add j) = some u := by
  subst hv
  obtain ⟨h1, h2 | ⟨g, cap', cur, h3, h4, h5, h6, h7, h8, h9⟩⟩ := h
  · exact absurd h2.1 (by simp)
  · intro j u hj
    simp only [Value.slice.injEq, Option.some.injEq] at h3
    obtain ⟨rfl, _, _⟩ := h3
    have := blk_cell h5 (0 + j)
    rw [show ((⟨g, 0, none⟩ : Addr).add j) = ⟨g, 0 + j, none⟩ from by unfold Addr.add; split <;> simp_all, this, Nat.zero_add, ← Array.getElem?_toList]
    rw [← h9] at hj
    rw [List.getElem?_take] at hj
    split at hj
    · exact hj
    · cases hj
theorem encN_pos (n : Nat) : 0 < (encN n).length := by
  rcases Nat.lt_or_ge n 128 with h | h
  · rw [encN_lo h]; simp
  · rw [encN_hi h]; simp

set_option maxHeartbeats 4000000 in
set_option maxRecDepth 100000 in
theorem ref_numB : ∀ (n : Nat) (w : World), n < 34359738368 → Calls Try.prog 34 #[.int .i64 n] w (PutPost w.heap.size w (encN n)) := by
  intro n
  induction n using Nat.strongRecOn with
  | _ n ih =>
  intro w hn
  have hlen := encN_len 4 n (by simpa using hn)
  have HLen := Lib.hid hlen
  obtain ⟨i0, ji, ji0, ji1, ji2⟩ := info_parts info_u8
  clear hlen
  rcases Nat.lt_or_ge n 128 with hlt | hge
  · have hlt' : (n : Int) < 128 := by omega
    have hm : (n : Int) % 256 = n := by omega
    clear ih
    go_enter Try.func34, Try.ntmps34
    go_wp2
    refine bodyPost_ret (v := .slice (some ⟨w.heap.size, 0, none⟩) 1 1) ?_ rfl ⟨_, rfl, by rw [encN_lo hlt]; exact own_lit (n := 1) (sz := 1) (cs := [.int .u8 (n : Int)]) (Nat.le_refl _) (heap_at _ rfl) (by unfold maxLen; omega) rfl, (by repeat (first | (with_reducible exact Below.refl _ _) | (with_reducible assumption) | (with_reducible refine Below.drew ?_) | (with_reducible refine Below_drewN ?_) | (with_reducible refine Below.alloc ?_ (by first | omega | (simp; done) | (simp; omega)) _) | (with_reducible refine Below.setCell ?_ (by first | omega | (simp; done) | (simp; omega)) _) | (with_reducible refine Below.trans ?_ (Below.mono (by assumption) (by first | omega | (simp; done) | (simp; omega))))))⟩
    simp [results, Try.results34, go_sem, *]
  · have hlt' : ¬ (n : Int) < 128 := by omega
    have IH : Hid (∀ w, Calls Try.prog 34 #[.int .i64 ((n : Int) / 128)] w (PutPost w.heap.size w (encN (n / 128)))) := by
      intro w
      have := ih (n / 128) (by omega) w (by omega)
      rwa [show ((n / 128 : Nat) : Int) = (n : Int) / 128 by omega] at this
    have hm : ((n : Int) % 128 + 128) % 256 = ((n % 128 + 128 : Nat) : Int) := by omega
    clear ih
    go_enter Try.func34, Try.ntmps34
    go_wp2_with fail
    refine (IH.out _).mono ?_
    rintro e w1 ⟨v1, rfl, hown1, hb1⟩
    obtain ⟨a1, cap1, rfl, hn1, _⟩ := owns_shape hown1
    have hp := encN_pos (n / 128)
    cases a1 with
    | none => exact absurd (hn1 rfl).1 (by omega)
    | some a1 =>
    have OW := Lib.hid (own_keep (own_lit (w := w.alloc (.cells #[.int .u8 ((n : Int) % 128 + 128)] 5)) (base := w.heap.size) (b := w.heap.size) (n := 1) (T := 5) (sz := 1) (cs := [.int .u8 ((n : Int) % 128 + 128)]) (Nat.le_refl _) (heap_at _ rfl) (by unfold maxLen; omega) rfl) hb1)
    have ON := Lib.hid (own_news hown1 rfl)
    have HL2 : (encN (n / 128)).length ≤ 5 := by have := HLen.out; rw [encN_hi hge] at this; simp at this; omega
    have HB1 := Lib.hid (((Below.refl w.heap.size w).alloc (Nat.le_refl _) (.cells #[.int .u8 ((n : Int) % 128 + 128)] 5)).trans (hb1.mono (by simp)))
    have hsz1 : w.heap.size ≤ w1.heap.size := HB1.out.size
    clear hown1 hb1
    go_wp2_with (at_builtin; go_loud (refine wpList_append_own _ rfl _ _ 27 rfl w.heap.size 5 i0 (.int .u8 0) 1 1 Try.underlying27 ji ji0 ji1 ji2 rfl (by decide) _ 1 [.int .u8 ((n : Int) % 128 + 128)] rfl ?c5 a1 (encN (n / 128)).length cap1 (flatB (encN (n / 128))) rfl ?c7 ?c6 ?c1 ?c2 ?c3 ?c4 ?_))
    case c5 => exact OW.out
    case c6 => exact ON.out
    case c7 => simp [flatB]
    case c1 => intro u hu; simp only [flatB, List.mem_map] at hu; obtain ⟨x, _, rfl⟩ := hu; rfl
    case c2 => unfold maxLen; omega
    case c3 => omega
    case c4 => exact hsz1
    intro v' w2 hown' hgrow _
    have hB1 := grown_below (Below.refl _ _) hsz1 OW.out hgrow
    obtain ⟨a', cap', rfl, _, _⟩ := owns_shape hown'
    have HB2 := Lib.hid (HB1.out.trans hB1)
    have HO2 : Hid (w2.ownsRow w.heap.size 5 1 (.slice a' (1 + (encN (n / 128)).length) cap') (encN n).length (flatB (encN n))) := by
      have := hown'
      show World.ownsRow _ _ _ _ _ _ _
      rw [encN_hi hge]
      have e : ((n % 128 + 128 : Nat) : Int) = (n : Int) % 128 + 128 := by omega
      rw [e]
      simpa [flatB, Nat.add_comm] using this
    clear hown' hgrow hB1
    go_wp2
    refine bodyPost_ret (v := .slice a' (1 + (encN (n / 128)).length) cap') ?_ rfl ⟨_, rfl, HO2.out, HB2.out⟩
    simp [results, Try.results34, go_sem, *]

theorem run_bytes_str {w : World} {a : Option Addr} {cap : Nat} {L : List Int} (src dst e : TypeId) (hs : Try.prog.underlying src = some (.slice e)) (he : Try.prog.underlying e = some (.int .u8)) (hd : Try.prog.underlying dst = some .string) (r : RowAt w 1 (.slice a L.length cap) (byts L)) :
    (convert src dst (.slice a L.length cap)).run Try.prog w = .ok (.string (strOfNums L)) w := by
  cases L with
  | nil =>
    cases a with
    | none => exact run_convert_bytes_nil w src e hs he 0 cap dst hd
    | some ad =>
      rw [run_convert_bytes_string w src dst e _ _ _ hs he hd, run_bytesToString w ad _ cap [] (by simpa using run_loadCells_list (P := Try.prog) w ad [] (by simp))]
      rfl
  | cons x L =>
    obtain ⟨a', cap', hv, h1, h2, h3, h4⟩ := r
    obtain ⟨b, off, rfl, h5, h6⟩ := h4 (by simp [byts])
    have hv' : a = some ⟨b, off, none⟩ := by injection hv
    subst hv'
    refine run_convert_bytes_arg w src e hs he b off _ cap (x :: L) rfl (fun i hi => ?_) dst hd
    have := h6 i 0 (by simpa [byts] using hi) (by omega)
    rw [Nat.mul_one, Nat.add_zero] at this
    rw [this]
    rw [show (byts (x :: L)).getD i [] = [Value.int .u8 ((x :: L)[i])] from by unfold byts; rw [List.getD, List.getElem?_map, List.getElem?_eq_getElem hi]; rfl]
    simp [List.getD, List.getElem?_eq_getElem hi]
set_option maxHeartbeats 1000000 in
set_option maxRecDepth 100000 in
theorem sameBytes_yes (a b : Value) (L : List Int) (w : World) (ha : RowAt w 1 a (byts L)) (hb : RowAt w 1 b (byts L)) :
    Calls Try.prog 13 #[a, b] w fun e w' => e = .returned (.bool true) ∧ Below w.heap.size w w' := by
  obtain ⟨a1, c1, rfl, _⟩ := RowAt_shape ha
  obtain ⟨a2, c2, rfl, _⟩ := RowAt_shape hb
  have e1 := run_bytes_str 27 9 5 (by kernel_rfl) (by kernel_rfl) (by kernel_rfl) ha
  have e2 := run_bytes_str 27 9 5 (by kernel_rfl) (by kernel_rfl) (by kernel_rfl) hb
  clear ha hb
  go_enter Try.func13, Try.ntmps13
  go_wp2
  all_goals first | (go_ret; exact ⟨rfl, (by repeat (first | (with_reducible exact Below.refl _ _) | (with_reducible assumption) | (with_reducible refine Below.drew ?_) | (with_reducible refine Below_drewN ?_) | (with_reducible refine Below.alloc ?_ (by first | omega | (simp; done) | (simp; omega)) _) | (with_reducible refine Below.setCell ?_ (by first | omega | (simp; done) | (simp; omega)) _) | (with_reducible refine Below.trans ?_ (Below.mono (by assumption) (by first | omega | (simp; done) | (simp; omega))))))⟩) | (exfalso; first | omega | (simp at *; omega) | (simp at *; done))
end Go.Proofs.Ytjfnnbbnkcdbcaa
