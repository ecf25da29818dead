/- slices.SortFunc at []usher/api.Spot by ring.order; ring.spots. -/
import Derived.Test.YtmhbkpgacdmjpaaSpOrd
import Derived.Test.YtmhbkpgacdmjpaaSrtR8
import Derived.Test.YtmhbkpgacdmjpaaSortK
import Derived.Test.YtmhbkpgacdmjpaaHashW
import Derived.Test.YtmhbkpgacdmjpaaCloneSp
import Derived.Laws.AppendOwnNone
namespace Go.Proofs.Ytmhbkpgacdmjpaa
open Go.RowKit Go.Shelf Go.Sort
instance : Inhabited Sp := ⟨Sp.zero⟩
theorem spSWO : SWO (ltOf cfSp) where
  irrefl x := by rw [cfSp_lt, spA_no]; omega
  trans x y z h1 h2 := by rw [cfSp_lt, spA_iff] at *; omega
  ntrans x y z h1 h2 := by rw [cfSp_lt, spA_no] at *; omega
theorem sp_srt (X : List Sp) : (X.mergeSort fun x y => !(ltOf cfSp) y x) = srt X := by
  have e : (fun x y => !(ltOf cfSp) y x) = spLe := by funext x y; unfold spLe; rw [cfSp_lt]
  rw [e]; rfl
theorem sp_one (x : Sp) : ∀ v ∈ x.cells, v.oneCell' = true := by
  intro v hv
  simp [Sp.cells] at hv
  rcases hv with rfl | rfl <;> rfl
def SrtPost (w : World) (B : Nat) (v : Value) (X : List Sp) (e : Ending) (w' : World) : Prop := e = .returned (.tuple #[]) ∧ w'.ownsRow B 45 2 v X.length ((srt X).map Sp.cells).flatten ∧ Below B w w' ∧ w.heap.size ≤ w'.heap.size ∧ (∀ j, j < w.heap.size → v.ownBlock ≠ some j → w'.heap[j]? = w.heap[j]?)
theorem sort_Sp (B : Nat) (v : Value) (X : List Sp) (w : World) (hB : B ≤ w.heap.size) (h : w.ownsRow B 45 2 v X.length (X.map Sp.cells).flatten) (hn : X.length < 4611686018427387904) :
    Calls Try.prog 22 #[v, .func (.func 23) #[] #[]] w (SrtPost w B v X) := by
  have hlen : (srt X).length = X.length := (srt_perm X).length_eq
  rcases h.2 with ⟨rfl, h0⟩ | ⟨g, cap, cur, rfl, hb, hg, h1, h2, h3, h4⟩
  · have hX : X = [] := List.length_eq_zero_iff.1 h0
    subst hX
    have hc := AnyF.slices_SortFunc_none sortSp none 0 (.func (.func 23) #[] #[]) w
    change Calls Try.prog 22 _ _ _ at hc
    refine hc.mono ?_
    rintro e w' ⟨rfl, rfl⟩
    exact ⟨rfl, by rw [show srt [] = [] from by simp [srt]]; exact World.ownsRow_nil _ _ _ _, Below.refl _ _, Nat.le_refl _, fun _ _ _ => rfl⟩
  · have hlt := lt_of_block hg
    have eg : ∀ args w, (callFunc 23 args).run Try.prog w = .ok (.enter 23 args) w := enters_of Try.func23 (by kernel_rfl) rfl
    have hc := AnyQ.slices_SortFunc_total sortSp 2 Try.isAgg45 Try.sizeOf45 Sp.cells (fun _ => rfl) sp_one cfSp spSWO 23 #[] g 0 cap X.toArray w eg (fun _ _ _ _ x y => orderSp x y _) (own_holdsK (enc := Sp.cells) (k := 2) (fun _ => rfl) h rfl) hlt (by simpa using hn) (fun x y h1 h2 => by rw [cfSp_lt] at h1 h2; exact spA_eq h1 h2)
    change Calls Try.prog 22 _ _ _ at hc
    simp only [List.size_toArray] at hc
    refine hc.mono ?_
    rintro e w' ⟨rfl, m, os, rfl⟩
    rw [sp_srt]
    exact ⟨rfl, own_sortedK (enc := Sp.cells) (fun _ => rfl) h hlen, below_sortK (Below.refl _ _) hb hlt, (below_sortK (B := 0) (Below.refl _ _) (Nat.zero_le _) hlt).size, fun j hj hne => far_sortK hj (fun e => hne (by rw [e]; rfl))⟩

def SpsPost (w : World) (b n : Nat) (e : Ending) (w' : World) : Prop := ∃ v, e = .returned v ∧ w'.ownsRow w.heap.size 45 2 v (4 * n) ((spotsOf b n).map Sp.cells).flatten ∧ Below w.heap.size w w'
theorem spots_succ (b : Nat) (k : Nat) : ((List.range (k + 1)).map (spOf b)).map Sp.cells = ((List.range k).map (spOf b)).map Sp.cells ++ [(spOf b k).cells] := by rw [List.range_succ]; simp

set_option maxHeartbeats 4000000 in
set_option maxRecDepth 100000 in
theorem prog_spots (b n : Nat) (w : World) (hb : b ≤ 11) (hn : n ≤ 8) : Calls Try.prog 21 #[.int .i64 b, .int .i64 n] w (SpsPost w b n) := by
  obtain ⟨i0, hi, hi0, hi1, hi2⟩ := info_parts infoc_Sp
  go_enter Try.func21, Try.ntmps21
  have hm : IntKind.i64.wrap ((n : Int) * 4) = (n : Int) * 4 := IntWalk.i64_in _ (by omega)
  go_wp2
  go_loopw [5, 11] (fun l i wr => ∃ k : Nat, k ≤ 4 * n ∧ i = .int .i64 k ∧ Below w.heap.size w wr ∧ wr.ownsRow w.heap.size 45 2 l k (((List.range k).map (spOf b)).map Sp.cells).flatten) (fun _ i _ => 4 * n - (intOf i).toNat)
  case atStart => exact ⟨0, Nat.zero_le _, rfl, Below.refl _ _, World.ownsRow_nil _ _ _ _⟩
  case round =>
    obtain ⟨k, hk, rfl, hbel, hown⟩ := hrel
    obtain ⟨a, cap, rfl, _⟩ := owns_shape hown
    have HO := Lib.hid hown
    have HB := Lib.hid hbel
    rcases (show k < 4 * n ∨ k = 4 * n by omega) with hlt | heq
    · have hlt' : (k : Int) < (n : Int) * 4 := by omega
      clear hown hbel
      go_wp2_with fail
      refine (prog_Spot_ok b k _ hb (by omega)).mono ?_
      rintro e w1 ⟨rfl, hb1⟩
      have HO1 := Lib.hid (own_keep HO.out hb1)
      have HB1 := Lib.hid (HB.out.trans (hb1.mono HB.out.size))
      clear hb1
      have hsz : w.heap.size ≤ w1.heap.size := HB1.out.size
      --M app
      go_wp2_with (at_builtin; go_loud (refine wpList_append_own _ rfl _ _ 22 rfl w.heap.size 45 i0 (.agg #[.int .i64 0, .int .i64 0]) 2 16 Try.underlying22 hi hi0 hi1 hi2 rfl (by decide) _ k _ rfl (HO1.out.alloc _) ⟨w1.heap.size, 0, none⟩ 1 1 (Sp.cells ⟨spH b k, b⟩) rfl rfl (news_lit rfl _ 45) ?c1 ?c2 ?c3 ?c4 ?_))
      case c1 => exact sp_one _
      case c2 => unfold maxLen; omega
      case c3 => omega
      case c4 => simp; omega
      intro v' w6 hown' hgrow _
      obtain ⟨a', cap', rfl, _⟩ := owns_shape hown'
      have hN : w6.ownsRow w.heap.size 45 2 (.slice a' (k + 1) cap') (k + 1) (((List.range (k + 1)).map (spOf b)).map Sp.cells).flatten := by
        rw [spots_succ, List.flatten_append]
        simpa [spOf] using hown'
      have HN := Lib.hid hN
      have HB6 := Lib.hid (HB1.out.trans (grown_below (B := w.heap.size) (((Below.refl w1.heap.size w1).alloc (Nat.le_refl _) _)) hsz HO1.out hgrow))
      clear hown' hgrow hN
      go_wp2
      go_roundw
      case rel => exact ⟨k + 1, by omega, by go_num, HB6.out, HN.out⟩
      case measure => simp [intOf]; omega
    · have hge : ¬ (k : Int) < (n : Int) * 4 := by omega
      subst heq
      clear hown hbel
      --M end
      go_wp2
      all_goals first | (go_ret; exact ⟨_, rfl, HO.out, HB.out⟩) | (exfalso; first | omega | (simp at *; omega) | (simp at *; done))
end Go.Proofs.Ytmhbkpgacdmjpaa
