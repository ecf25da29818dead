/- ring.along's closure: what it hands over, one by one. -/
import Derived.RangeFuncNested
import Derived.RangeFuncBound
import Derived.RangeFuncCalls
import Derived.RangeFuncLeaves
import Derived.Shelf.Abstract
import Derived.Shelf.RegionOpen
import Derived.OwnWalkIn
import Derived.TacticsInMore
import Derived.LoopNIn
import Derived.LoopIn
import Derived.Test.YtmhbkpgacdmjpaaRgWalkL
import Derived.Test.YtmhbkpgacdmjpaaOwn
namespace Go.Proofs.Ytmhbkpgacdmjpaa
open Go.RowKit Go.Shelf
attribute [local go_sem] Oper.semAt_some
/-- What a round must keep: all blocks below n1 but one. -/
def Kw (n1 bo : Nat) (A B : World) : Prop := A.heap.size ≤ B.heap.size ∧ ∀ b, b < n1 → b ≠ bo → B.heap[b]? = A.heap[b]?
theorem Kw.trans {n1 bo : Nat} {A B C : World} (h : Kw n1 bo A B) (k : Kw n1 bo B C) : Kw n1 bo A C := ⟨Nat.le_trans h.1 k.1, fun b h1 h2 => (k.2 b h1 h2).trans (h.2 b h1 h2)⟩
theorem Kw.refl (n1 bo : Nat) (A : World) : Kw n1 bo A A := ⟨Nat.le_refl _, fun _ _ _ => rfl⟩
theorem Kw.of_below {n1 bo B : Nat} {A C : World} (h : Below B A C) (hB : n1 ≤ B) : Kw n1 bo A C := ⟨h.size, fun b h1 _ => h.block b (by omega)⟩
theorem Kw.cell {n1 bo b o : Nat} {A B : World} {v : Value} (h : Kw n1 bo A B) (hc : A.cell? ⟨b, o, none⟩ = some v) (h1 : b < n1) (h2 : b ≠ bo) : B.cell? ⟨b, o, none⟩ = some v :=
  (World.cell?_of_block (w := A) (w' := B) (a := ⟨b, o, none⟩) (h.2 b h1 h2)).trans hc
theorem kw_b {n1 bo m : Nat} (h : n1 ≤ m) : ∀ (W : World) (l : Nat) (o o' : Obj), m ≤ l → W.heap[l]? = some o → o.isCells = false → o.isWalk = false → Kw n1 bo W (W.putObj l o') := by
  intro W l o o' hl _ _ _
  refine ⟨by simp, fun b h1 _ => World.putObj_heap_other (by omega)⟩
theorem grown_none {w w' : World} (h : Below w.heap.size w w') : w.grownBy w' none := ⟨h.os, h.tape, h.output, h.size, fun k hk _ => h.block k hk⟩
theorem grown_drew (w : World) : w.grownBy w.drew none := grown_none (Below.drew (Below.refl _ _))
def spArg (x : Sp) : Array Value := #[.agg #[.int .i64 x.hash, .int .i64 x.backend]]

set_option maxRecDepth 100000 in
set_option maxHeartbeats 4000000 in
theorem along1_in (n : Nat) (hn : 1 ≤ n) (l bl ba n1 bo bx ox cx : Nat) (at_ : Int) (X : List Sp) (hlen : X.length ≤ 384) (hO : Ord X) (J Jx : List Sp → World → Prop) (W : World) (hJ : AbidesFrom W.heap.size J)
    (hY : ∀ pre x W1, J pre W1 → pre.length < X.length → YieldAt Fence.wide (n - 1) Try.prog l (spArg x) W1 fun e W' =>
      (e = .returned (.bool true) ∧ J (pre ++ [x]) W' ∧ Kw n1 bo W1 W') ∨ (e = .returned (.bool false) ∧ Jx (pre ++ [x]) W'))
    (hn1 : n1 ≤ W.heap.size) (hbl : W.cell? ⟨bl, 0, none⟩ = some (.slice (some ⟨bx, ox, none⟩) X.length cx)) (hba : W.cell? ⟨ba, 0, none⟩ = some (.int .i64 at_)) (l1 : bl < n1) (l2 : bl ≠ bo) (l5 : bx < n1) (l6 : bx ≠ bo)
    (r : RowAt W 2 (.slice (some ⟨bx, ox, none⟩) X.length cx) (X.map Sp.cells)) (hc : ∀ i j, i < X.length → j < 2 → W.cell? ⟨bx, ox + i * 2 + j, none⟩ = (X.getD i Sp.zero).cells[j]?) (h0 : J [] W) :
    CallsIn Fence.wide n Try.prog 42 #[.func (.yield l) #[] #[], .pointer (some ⟨bl, 0, none⟩), .pointer (some ⟨ba, 0, none⟩)] W fun e W' => (∃ v, e = .returned v) ∧
      ((∃ ys, (∃ k, cutAt X ⟨at_, -1⟩ k ∧ ys = rot k X) ∧ J ys W') ∨ (∃ pre, True ∧ Jx pre W')) := by
  have HY := Lib.hid hY
  have HJ := Lib.hid hJ
  have H0 := Lib.hid h0
  have R := Lib.hid r
  have HC := Lib.hid hc
  clear hY hJ h0 r hc
  refine callsIn_of_wp Try.func42 rfl trivial ?_ rfl
  refine wpIn_wide.2 ?_
  simp only [Try.ntmps42, List.size_toArray, List.length_cons, List.length_nil, Nat.reduceAdd, Nat.reduceSub, Array.replicate_succ, Array.replicate_zero, List.push_toArray, List.append_toArray, List.nil_append, List.cons_append]
  go_wp2_with fail
  refine (bsSp _ X ⟨at_, -1⟩ _ R.out hO (by omega)).mono ?_
  rintro e w2 ⟨k, f, rfl, hcut, hb2⟩
  have HCut := Lib.hid hcut
  have hk := hcut.1
  have HK2 := Lib.hid (Kw.of_below (bo := bo) hb2 hn1)
  have HJ2 := Lib.hid (HJ.out [] W w2 none H0.out (grown_none hb2) (fun r e => by cases e))
  have hbl2 := HK2.out.cell hbl l1 l2
  have hz2 := hb2.size
  have hq1 := cell_lt hbl
  clear hcut hb2
  go_wp2_with fail
  refine (wpIn_wide (n := n)).1 ?_
  gi_loopw [16] (fun i wr => ∃ j : Nat, j ≤ X.length ∧ i = .int .i64 j ∧ J ((rot k X).take j) wr ∧ Kw n1 bo W wr) (fun i _ => X.length - (intOf i).toNat)
  case atStart => exact ⟨0, Nat.zero_le _, rfl, HJ2.out, HK2.out⟩
  case round =>
    obtain ⟨j, hj, rfl, hJs, hkw⟩ := hrel
    have HKW := Lib.hid hkw
    have c1 := hkw.cell hbl l1 l2
    have c1' : wr.drew.cell? ⟨bl, 0, none⟩ = _ := cell_drew c1
    rcases (show j < X.length ∨ j = X.length by omega) with hlt | rfl
    · obtain ⟨m, hm⟩ : ∃ m, m = (k + j) % X.length := ⟨_, rfl⟩
      have hm1 : m < X.length := by rw [hm]; exact Nat.mod_lt _ (by omega)
      have hmod : ((k : Int) + (j : Int)) % (X.length : Int) = (m : Int) := by rw [hm]; push_cast; rfl
      obtain ⟨s, hs⟩ : ∃ s, s = X.getD m Sp.zero := ⟨_, rfl⟩
      have hrt : (rot k X).getD j Sp.zero = s := by rw [rot_get hk hlt, hs, hm]
      have htk : (rot k X).take (j + 1) = (rot k X).take j ++ [s] := by
        rw [List.take_succ_eq_append_getElem (by rw [rot_len]; exact hlt)]
        rw [← hrt]; simp [List.getD, rot_len, hlt]
      have a0 := hkw.cell (HC.out m 0 hm1 (by omega) |>.trans (by rw [← hs]; rfl)) l5 l6
      have a1 := hkw.cell (HC.out m 1 hm1 (by omega) |>.trans (by rw [← hs]; rfl)) l5 l6
      have a0' := cell_drew a0
      have a1' := cell_drew a1
      obtain ⟨fn, tmps, assign, body, hy, hR⟩ := HY.out ((rot k X).take j) s wr.drew (HJ.out _ _ _ none hJs (grown_drew wr) (fun r e => by cases e)) (by rw [List.length_take, rot_len]; omega)
      have HT := Lib.hid htk
      have i0 : (0 : Int) ≤ (m : Int) := by omega
      have i1 : (m : Int) < (X.length : Int) := by omega
      have i2 : (0 : Int) ≤ (k : Int) := by omega
      have i3 : (0 : Int) ≤ (j : Int) := by omega
      have i4 : (k : Int) + (j : Int) ≤ 1000 := by omega
      have i5 : (0 : Int) < (X.length : Int) := by omega
      have i6 : (j : Int) < (X.length : Int) := by omega
      have hw1 : IntKind.i64.wrap ((k : Int) + (j : Int)) = (k : Int) + (j : Int) := IntWalk.i64_in _ (by omega)
      have hw2 : IntKind.i64.wrap (m : Int) = (m : Int) := IntWalk.i64_in _ (by omega)
      have x0 : ¬ (X.length : Int) = 0 := by omega
      have x1 : ¬ X = [] := by intro h; rw [h] at hlt; simp at hlt
      have x2 : ¬ X.length = 0 := by omega
      have hmod2 : ((k : Int) + (j : Int)).tmod (X.length : Int) = (m : Int) := by rw [← hmod]; exact Int.tmod_eq_emod_of_nonneg (by omega)
      obtain ⟨s0, s1⟩ := s
      simp only [spArg] at hy
      simp only [Nat.add_zero] at a0 a1 a0' a1'
      clear hs hm hrt htk hkw
      have hR' : RoundIn Fence.wide (n - 1) Try.prog l fn tmps assign body wr.drew fun e W' => ∃ b, e = .returned (.bool b) ∧ ((b = true ∧ J ((rot k X).take (j + 1)) W' ∧ Kw n1 bo wr W') ∨ (b = false ∧ ∃ pre, Jx pre W')) := by
        refine hR.mono ?_
        rintro e W' (⟨rfl, h1, h2⟩ | ⟨rfl, h1⟩)
        · exact ⟨true, rfl, Or.inl ⟨rfl, by rw [HT.out]; exact h1, (Kw.of_below (Below.drew (Below.refl wr.heap.size wr)) (Nat.le_trans hn1 HKW.out.1)).trans h2⟩⟩
        · exact ⟨false, rfl, Or.inr ⟨rfl, _, h1⟩⟩
      have HR := Lib.hid hR'
      clear hR hR' hJs
      gi_wp2
      have hmx : Try.prog.follows .mixedOrders = true := by kernel_rfl
      gi_region_with_o ((refine HR.out.mono ?_; rintro e W3 ⟨b, rfl, hW3⟩))
      all_goals
        rcases hW3 with ⟨rfl, hJ3, hk3⟩ | ⟨rfl, pre, hx3⟩
        · gi_wp2
          go_roundw
          case rel => exact ⟨j + 1, by omega, by go_num, hJ3, HKW.out.trans hk3⟩
          case measure => simp [intOf]; omega
        · gi_wp2
          refine bodyPost_ret (results_none rfl _ _ _) rfl ?_
          exact ⟨⟨_, rfl⟩, .inr ⟨pre, trivial, hx3⟩⟩
    · have hge : ¬ ((X.length : Nat) : Int) < (X.length : Int) := by omega
      gi_wp2
      go_end0
      exact ⟨⟨_, rfl⟩, .inl ⟨_, ⟨k, HCut.out, rfl⟩, by rw [List.take_of_length_le (by rw [rot_len]; omega)] at hJs; exact hJs⟩⟩

set_option maxRecDepth 100000 in
set_option maxHeartbeats 2000000 in
theorem along1_nil_in (n : Nat) (l bl ba n1 bo cx : Nat) (ax : Option Addr) (at_ : Int) (J Jx : List Sp → World → Prop) (W : World) (hJ : AbidesFrom W.heap.size J)
    (hbl : W.cell? ⟨bl, 0, none⟩ = some (.slice ax 0 cx)) (hba : W.cell? ⟨ba, 0, none⟩ = some (.int .i64 at_)) (hn1 : n1 ≤ W.heap.size) (l1 : bl < n1) (l2 : bl ≠ bo)
    (r : RowAt W 2 (.slice ax 0 cx) (([] : List Sp).map Sp.cells)) (h0 : J [] W) :
    CallsIn Fence.wide n Try.prog 42 #[.func (.yield l) #[] #[], .pointer (some ⟨bl, 0, none⟩), .pointer (some ⟨ba, 0, none⟩)] W fun e W' => (∃ v, e = .returned v) ∧
      ((∃ ys, (∃ k, cutAt [] ⟨at_, -1⟩ k ∧ ys = rot k []) ∧ J ys W') ∨ (∃ pre, True ∧ Jx pre W')) := by
  have HJ := Lib.hid hJ
  have H0 := Lib.hid h0
  have R := Lib.hid r
  clear hJ h0 r
  refine callsIn_of_wp Try.func42 rfl trivial ?_ rfl
  refine wpIn_wide.2 ?_
  simp only [Try.ntmps42, List.size_toArray, List.length_cons, List.length_nil, Nat.reduceAdd, Nat.reduceSub, Array.replicate_succ, Array.replicate_zero, List.push_toArray, List.append_toArray, List.nil_append, List.cons_append]
  go_wp2_with fail
  refine (bsSp _ [] ⟨at_, -1⟩ _ R.out List.Pairwise.nil (by simp)).mono ?_
  rintro e w2 ⟨k, f, rfl, hcut, hb2⟩
  have HCut := Lib.hid hcut
  have HK2 := Lib.hid (Kw.of_below (bo := bo) hb2 hn1)
  have HJ2 := Lib.hid (HJ.out [] W w2 none H0.out (grown_none hb2) (fun r e => by cases e))
  have hbl2 := HK2.out.cell hbl l1 l2
  clear hcut hb2
  go_wp2_with fail
  refine (wpIn_wide (n := n)).1 ?_
  gi_loopw [16] (fun i wr => i = .int .i64 0 ∧ J [] wr) (fun _ _ => 0)
  case atStart => exact ⟨rfl, HJ2.out⟩
  case round =>
    obtain ⟨rfl, hJs⟩ := hrel
    gi_wp2
    go_end0
    exact ⟨⟨_, rfl⟩, .inl ⟨_, ⟨k, HCut.out, rfl⟩, by simpa [rot] using hJs⟩⟩

theorem along1_stops (n : Nat) (hn : 1 ≤ n) (bl ba bo cx : Nat) (ax : Option Addr) (at_ : Int) (X : List Sp) (hlen : X.length ≤ 384) (hO : Ord X) (w0 : World)
    (hbl : w0.cell? ⟨bl, 0, none⟩ = some (.slice ax X.length cx)) (hba : w0.cell? ⟨ba, 0, none⟩ = some (.int .i64 at_)) (l2 : bl ≠ bo) (r : RowAt w0 2 (.slice ax X.length cx) (X.map Sp.cells)) (hne : X ≠ [] → ∀ ad, ax = some ad → ad.block ≠ bo) :
    SeqStopsK Fence.wide n Try.prog 42 #[.pointer (some ⟨bl, 0, none⟩), .pointer (some ⟨ba, 0, none⟩)] spArg (Kw w0.heap.size bo) (fun ys => ∃ k, cutAt X ⟨at_, -1⟩ k ∧ ys = rot k X) (fun _ => True) X.length w0 := by
  intro l J Jx W hW hJ _ hY h0
  have rW := RowAt_below r hW
  have c1 := cell_below' hW hbl
  have c2 := cell_below' hW hba
  by_cases hX : X = []
  · subst hX
    exact along1_nil_in n l bl ba w0.heap.size bo cx ax at_ J Jx W hJ c1 c2 hW.size (cell_lt hbl) l2 rW h0
  · obtain ⟨a', c', e, _, _, _, p⟩ := RowAt_fn Sp.zero r
    injection e with e1 e2 e3
    subst e1; subst e3
    obtain ⟨bx, ox, rfl, hbx, hc⟩ := p hX
    exact along1_in n hn l bl ba w0.heap.size bo bx ox cx at_ X hlen hO J Jx W hJ hY hW.size c1 c2 (cell_lt hbl) l2 hbx (hne hX _ rfl) rW (fun i j hi hj => (hW.cell (p := ⟨bx, ox + i * 2 + j, none⟩) hbx).trans (hc i j hi hj)) h0
end Go.Proofs.Ytmhbkpgacdmjpaa
