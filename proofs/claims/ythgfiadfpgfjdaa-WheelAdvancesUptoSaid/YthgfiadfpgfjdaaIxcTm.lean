/- slices.IndexFunc and slices.ContainsFunc at []Timer, with any closure that tells by p. -/
import Derived.Test.YthgfiadfpgfjdaaIxTm
import Derived.Test.YthgfiadfpgfjdaaOwn
import Derived.Test.YthgfiadfpgfjdaaFind
namespace Go.Proofs.Ythgfiadfpgfjdaa
open Go.RowKit

set_option maxHeartbeats 4000000 in
set_option maxRecDepth 100000 in
theorem ixcTm_row (N : Nat) (cp : Addr) (hN : ∀ args w, (callFunc N args).run Try.prog w = .ok (.enter N args) w) (p : Tm → Bool) (b0 o0 c0 : Nat) (X : List Tm) (w : World) (hb0 : b0 < w.heap.size) (hn : X.length ≤ 4611686018427387903) (h1 : ∀ i j, i < X.length → j < 2 → w.cell? ⟨b0, o0 + i * 2 + j, none⟩ = (X.getD i Tm.zero).cells[j]?)
    (hf : ∀ x ∈ X, ∀ w', Below w.heap.size w w' → Calls Try.prog N #[Tm.agg x, .pointer (some cp)] w' fun e w'' => e = .returned (.bool (p x)) ∧ Below w'.heap.size w' w'') :
    Calls Try.prog 29 #[.slice (some ⟨b0, o0, none⟩) X.length c0, .func (.func N) #[] #[.pointer (some cp)]] w fun e w' => e = .returned (.int .i64 (idxOf p X)) ∧ Below w.heap.size w w' := by
  have H1 := Lib.hid h1
  have HF := Lib.hid hf
  have hn2 : X.length ≤ 9223372036854775807 := by omega
  clear h1 hf
  go_enter Try.func29, Try.ntmps29
  go_wp2
  go_loopw [8] (fun i wr => ∃ k : Nat, k ≤ X.length ∧ i = .int .i64 k ∧ Below w.heap.size w wr ∧ ∀ x ∈ X.take k, p x = false) (fun i _ => X.length - (intOf i).toNat)
  case atStart => exact ⟨0, Nat.zero_le _, rfl, Below.refl _ _, fun x hx => by simp at hx⟩
  case round =>
    obtain ⟨k, hk, rfl, hbel, hall⟩ := hrel
    have HA := Lib.hid hall
    clear hall
    rcases (show k < X.length ∨ X.length = k by omega) with hlt | heq
    · have hlt' : (k : Int) < (X.length : Int) := by omega
      obtain ⟨o, ho⟩ : ∃ o, o = X.getD k Tm.zero := ⟨_, rfl⟩
      have HO := Lib.hid ho
      have hm : o ∈ X := by rw [ho]; simp only [List.getD, List.getElem?_eq_getElem hlt, Option.getD_some]; exact List.getElem_mem _
      have HC := Lib.hid (HF.out o hm _ hbel)
      have hold : ∀ j, j < 2 → wr.cell? ⟨b0, o0 + k * 2 + j, none⟩ = o.cells[j]? := fun j hj => by
        rw [hbel.cell (p := ⟨b0, o0 + k * 2 + j, none⟩) hb0, ho]; exact H1.out k j hlt hj
      have a0 := hold 0 (by omega)
      have a1 := hold 1 (by omega)
      clear hold ho hm
      have HB := Lib.hid hbel
      clear hbel
      simp only [Tm.cells, List.getElem?_cons_zero, List.getElem?_cons_succ, Nat.add_zero] at a0 a1
      go_wp2_with fail
      refine (HC.out).mono ?_
      rintro e w1 ⟨rfl, hb1⟩
      have B1 := Lib.hid (HB.out.trans (hb1.mono HB.out.size))
      clear hb1 HB HC
      by_cases hp : p o = true
      · have HP := Lib.hid hp
        simp only [hp]
        clear hp
        go_wp2
        go_ret
        exact ⟨rI (idxOf_hit hlt HO.out HP.out HA.out).symm, B1.out⟩
      · have hp' : p o = false := by simpa using hp
        have HA2 := Lib.hid (idx_step hlt HO.out hp' HA.out)
        simp only [hp']
        clear hp hp' HA
        go_wp2
        go_roundw
        case rel => exact ⟨k + 1, by omega, by go_num, B1.out, HA2.out⟩
        case measure => simp [intOf]; omega
    · have hge : ¬ (k : Int) < (X.length : Int) := by omega
      have HE := Lib.hid (idxOf_none heq HA.out)
      have HB := Lib.hid hbel
      clear heq hbel HA
      go_wp2
      all_goals first | (go_ret; exact ⟨rI HE.out.symm, HB.out⟩) | (exfalso; first | omega | (simp at *; omega) | (simp at *; done))

set_option maxHeartbeats 1000000 in
set_option maxRecDepth 100000 in
theorem ixcTm_nil (N : Nat) (cp : Addr) (a : Option Addr) (c : Nat) (w : World) : Calls Try.prog 29 #[.slice a 0 c, .func (.func N) #[] #[.pointer (some cp)]] w fun e w' => e = .returned (.int .i64 (-1)) ∧ Below w.heap.size w w' := by
  go_enter Try.func29, Try.ntmps29
  go_wp2
  refine wp_loop_rounds 1 ?_
  rw [rounds_succ]
  go_wp2
  all_goals first | (go_ret; exact ⟨rfl, Below.refl _ _⟩) | (exfalso; first | omega | (simp at *; omega) | (simp at *; done))

theorem ixcTm_any (N : Nat) (cp : Addr) (hN : ∀ args w, (callFunc N args).run Try.prog w = .ok (.enter N args) w) (p : Tm → Bool) (v : Value) (X : List Tm) (w : World) (r : RowAt w 2 v (X.map Tm.cells)) (hn : X.length ≤ 4611686018427387903)
    (hf : ∀ x ∈ X, ∀ w', Below w.heap.size w w' → Calls Try.prog N #[Tm.agg x, .pointer (some cp)] w' fun e w'' => e = .returned (.bool (p x)) ∧ Below w'.heap.size w' w'') :
    Calls Try.prog 29 #[v, .func (.func N) #[] #[.pointer (some cp)]] w fun e w' => e = .returned (.int .i64 (idxOf p X)) ∧ Below w.heap.size w w' := by
  obtain ⟨a, c, rfl, l, m, n, q⟩ := RowAt_fn Tm.zero r
  by_cases hX : X = []
  · subst hX; exact ixcTm_nil N cp a c w
  · obtain ⟨b, o, rfl, hb, q⟩ := q hX
    exact ixcTm_row N cp hN p b o c X w hb hn q hf

end Go.Proofs.Ythgfiadfpgfjdaa
