/- tally.Story and usherref.StoryOf: their contracts. -/
import Derived.Test.YtjnfnmbkmgjdlaaTalFault
import Derived.Test.YtjnfnmbkmgjdlaaOwn
import Derived.Deep.RegionHeld3
import Derived.Deep.QuietTactic
import Derived.BigQuiet
namespace Go.Proofs.Ytjnfnmbkmgjdlaa
open Go.RowKit

theorem info_out : (Try.prog.info? 60).map (fun i => (i.zero, i.size, i.bytes)) = some (some (.agg #[.int .i64 0, .int .i64 0, .int .i64 0, .int .i64 0, .int .i64 0, .int .i64 0, .int .i64 0]), 7, 56) := by kernel_rfl
/-- Is an output of a flow? -/
def flowK (k : Int) : Bool := decide (k = 1 ∨ (3 ≤ k ∧ k ≤ 7))
def storyB (hs hg : Int) (o : Out) : Bool := flowK o.kind && decide (o.slot = hs) && decide (o.gen = hg)
def storyL (X : List Out) (hs hg : Int) (k : Nat) : List Out := (X.take k).filter (storyB hs hg)
theorem story_snoc {X : List Out} {hs hg : Int} {k : Nat} {o : Out} (hk : k < X.length) (ho : o = X.getD k Out.zero) : storyL X hs hg (k + 1) = storyL X hs hg k ++ (if storyB hs hg o then [o] else []) := by
  unfold storyL
  rw [take_snoc X Out.zero k hk, List.filter_append, ← ho]
  cases h : storyB hs hg o <;> simp [h]
theorem story_len (X : List Out) (hs hg : Int) (k : Nat) : (storyL X hs hg k).length ≤ k := Nat.le_trans (List.length_filter_le _ _) (by simp; omega)
theorem outs_len (L : List Out) : ∀ c ∈ L.map Out.cells, c.length = 7 := by
  intro c hc
  simp only [List.mem_map] at hc
  obtain ⟨x, _, rfl⟩ := hc
  rfl
theorem outs_snoc (L : List Out) (x : Out) : ((L ++ [x]).map Out.cells).flatten = (L.map Out.cells).flatten ++ x.cells := by
  rw [List.map_append, List.flatten_append]; simp
def StoryPost (w : World) (Y : List Out) (code : Int) (e : Ending) (w' : World) : Prop := ∃ v, e = .returned (.tuple #[v, .int .i64 code]) ∧ RowNew w.heap.size w' 7 v (Y.map Out.cells) ∧ Below w.heap.size w w'
/-- What holds at the head of Story's loop; B: the first block of the list's own. -/
def StRel (w wr : World) (B : Nat) (X : List Out) (hs hg : Int) (k : Nat) (l : Value) : Prop := k ≤ X.length ∧ Below w.heap.size w wr ∧ w.heap.size < B ∧ B ≤ wr.heap.size ∧ wr.heap[w.heap.size]? = some (.cells #[.int .i64 hs, .int .i64 hg] 24 (0, 0)) ∧
  ∃ (a : Option Addr) (cap : Nat), l = .slice a (storyL X hs hg k).length cap ∧ wr.ownsRow B 60 7 (.slice a (storyL X hs hg k).length cap) (storyL X hs hg k).length ((storyL X hs hg k).map Out.cells).flatten
theorem StRel_keep {w wr wx : World} {B : Nat} {X : List Out} {hs hg : Int} {k : Nat} {l : Value} {o : Out} (h : StRel w wr B X hs hg k l) (hx : Below wr.heap.size wr wx) (hk : k < X.length) (ho : o = X.getD k Out.zero) (hn : storyB hs hg o = false) : StRel w wx B X hs hg (k + 1) l := by
  obtain ⟨h1, h2, h3, h4, h5, a, cap, rfl, h6⟩ := h
  have e : storyL X hs hg (k + 1) = storyL X hs hg k := by rw [story_snoc hk ho, hn]; simp
  refine ⟨by omega, h2.trans (hx.mono h2.size), h3, Nat.le_trans h4 hx.size, blk_below hx h5 (lt_of_block h5), a, cap, ?_, ?_⟩
  · rw [e]
  · rw [e]; exact own_keep h6 hx
theorem StRel_add {w wr wx w1 : World} {B : Nat} {X : List Out} {hs hg : Int} {k cap' : Nat} {a a' : Option Addr} {cap : Nat} {o : Out} (h2 : Below w.heap.size w wr) (h3 : w.heap.size < B) (h4 : B ≤ wr.heap.size) (h5 : wr.heap[w.heap.size]? = some (.cells #[.int .i64 hs, .int .i64 hg] 24 (0, 0)))
    (h6 : wr.ownsRow B 60 7 (.slice a (storyL X hs hg k).length cap) (storyL X hs hg k).length ((storyL X hs hg k).map Out.cells).flatten)
    (hx : Below wr.heap.size wr wx) (hgrow : wx.grownBy w1 (Value.slice a (storyL X hs hg k).length cap).ownBlock) (hown : w1.ownsRow B 60 7 (.slice a' ((storyL X hs hg k).length + 1) cap') ((storyL X hs hg k).length + 1) (((storyL X hs hg k).map Out.cells).flatten ++ o.cells))
    (hk : k < X.length) (ho : o = X.getD k Out.zero) (hn : storyB hs hg o = true) : StRel w w1 B X hs hg (k + 1) (.slice a' ((storyL X hs hg k).length + 1) cap') := by
  have e : storyL X hs hg (k + 1) = storyL X hs hg k ++ [o] := by rw [story_snoc hk ho, hn]; simp
  have hB := grown_below hx h4 h6 hgrow
  refine ⟨by omega, h2.trans (hB.mono (by omega)), h3, Nat.le_trans h4 hB.size, blk_below hB h5 h3, a', cap', ?_, ?_⟩
  · rw [e]; simp
  · rw [e, outs_snoc]; simpa using hown

set_option maxHeartbeats 1000000 in
set_option maxRecDepth 100000 in
theorem OfFlow_any (o : Out) (w : World) (b : Bool) (hb : flowK o.kind = b) : Calls Try.prog 27 #[.agg #[.int .i64 o.kind, .int .i64 o.slot, .int .i64 o.gen, .int .i64 o.backend, .int .i64 o.request, .int .i64 o.code, .int .i64 o.why]] w fun e w' => e = .returned (.bool b) ∧ Below w.heap.size w w' := by
  cases b with
  | true =>
    have h : o.kind = 1 ∨ (o.kind ≠ 1 ∧ 3 ≤ o.kind ∧ o.kind ≤ 7) := by simp [flowK] at hb; omega
    clear hb
    rcases h with h | ⟨h, h3, h7⟩
    · have e : (o.kind == 1) = true := by simpa using h
      clear h
      go_enter Try.func27, Try.ntmps27
      go_wp2_with (go_at_call 28; first | (refine (In_yes _ _ _ _ (by omega) (by omega)).mono ?_; rintro e w' ⟨rfl, rfl⟩) | (refine (In_no _ _ _ _ (by omega)).mono ?_; rintro e w' ⟨rfl, rfl⟩))
      all_goals first | (go_ret; exact ⟨rfl, (by repeat (first | (with_reducible exact Below.refl _ _) | (with_reducible assumption) | (with_reducible refine Below.drew ?_) | (with_reducible refine Below_drewN ?_) | (with_reducible refine Below.alloc ?_ (by first | omega | (simp; done) | (simp; omega)) _) | (with_reducible refine Below.setCell ?_ (by first | omega | (simp; done) | (simp; omega)) _) | (with_reducible refine Below.trans ?_ (Below.mono (by assumption) (by first | omega | (simp; done) | (simp; omega))))))⟩) | (exfalso; first | omega | (simp at *; omega) | (simp at *; done))
    · have e : (o.kind == 1) = false := by simpa using h
      clear h
      go_enter Try.func27, Try.ntmps27
      go_wp2_with (go_at_call 28; first | (refine (In_yes _ _ _ _ (by omega) (by omega)).mono ?_; rintro e w' ⟨rfl, rfl⟩) | (refine (In_no _ _ _ _ (by omega)).mono ?_; rintro e w' ⟨rfl, rfl⟩))
      all_goals first | (go_ret; exact ⟨rfl, (by repeat (first | (with_reducible exact Below.refl _ _) | (with_reducible assumption) | (with_reducible refine Below.drew ?_) | (with_reducible refine Below_drewN ?_) | (with_reducible refine Below.alloc ?_ (by first | omega | (simp; done) | (simp; omega)) _) | (with_reducible refine Below.setCell ?_ (by first | omega | (simp; done) | (simp; omega)) _) | (with_reducible refine Below.trans ?_ (Below.mono (by assumption) (by first | omega | (simp; done) | (simp; omega))))))⟩) | (exfalso; first | omega | (simp at *; omega) | (simp at *; done))
  | false =>
    have h : o.kind ≠ 1 ∧ (o.kind < 3 ∨ 7 < o.kind) := by simp [flowK] at hb; omega
    clear hb
    obtain ⟨h, h3⟩ := h
    have e : (o.kind == 1) = false := by simpa using h
    clear h
    go_enter Try.func27, Try.ntmps27
    go_wp2_with (go_at_call 28; first | (refine (In_yes _ _ _ _ (by omega) (by omega)).mono ?_; rintro e w' ⟨rfl, rfl⟩) | (refine (In_no _ _ _ _ (by omega)).mono ?_; rintro e w' ⟨rfl, rfl⟩))
    all_goals first | (go_ret; exact ⟨rfl, (by repeat (first | (with_reducible exact Below.refl _ _) | (with_reducible assumption) | (with_reducible refine Below.drew ?_) | (with_reducible refine Below_drewN ?_) | (with_reducible refine Below.alloc ?_ (by first | omega | (simp; done) | (simp; omega)) _) | (with_reducible refine Below.setCell ?_ (by first | omega | (simp; done) | (simp; omega)) _) | (with_reducible refine Below.trans ?_ (Below.mono (by assumption) (by first | omega | (simp; done) | (simp; omega))))))⟩) | (exfalso; first | omega | (simp at *; omega) | (simp at *; done))
end Go.Proofs.Ytjnfnmbkmgjdlaa
