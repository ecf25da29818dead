/- A range over strings.Lines: the iterator keeps what is left of the text in a box of its own. -/
import Derived.RangeFuncNested
import Derived.RangeFuncBound
import Derived.RangeFuncCalls
import Derived.RangeFuncLeaves
import Derived.Shelf.Abstract
import Derived.Shelf.RegionOpen
import Derived.OwnWalkIn
import Derived.TacticsInMore
import Derived.LoopNIn
import Derived.LoopIn
import Derived.Test.YtnebijdifemicaaDoorRpe
import Derived.Test.YtnebijdifemicaaDoorShr
namespace Go.Proofs.YtnebijdifemicaaDoor
open Go.RowKit Go.Shelf
attribute [local go_sem] Oper.semAt_some
/-- Blocks that a round must leave: the iterator's box, the loop's two. -/
def Kq (bl D : Nat) (A B : World) : Prop := B.heap[bl]? = A.heap[bl]? ∧ B.heap[D]? = A.heap[D]? ∧ B.heap[D + 1]? = A.heap[D + 1]? ∧ A.heap.size ≤ B.heap.size
/-- What says nothing of the box bl, nor of the loop's two blocks, nor of blocks that are yet to come. -/
def Abd (bl D : Nat) (J : List (List UInt8) → World → Prop) : Prop := ∀ s W W' row, J s W → W.grownBy W' row → (∀ r, row = some r → r = bl ∨ r = D ∨ r = D + 1) → J s W'
/-- How a round ends. -/
def rdPost (bl D : Nat) (I Ix : List (List UInt8) → World → Prop) (xs : List (List UInt8)) (W : World) : Exit → Act → World → Prop
  | .normal, _, W' => Kq bl D W W' ∧ I xs W'
  | .ret, _, W' => Kq bl D W W' ∧ Ix xs W'
  | _, _, _ => False
/-- The iterator's word. -/
def LinesIn (n : Nat) (bl : Nat) (T : List UInt8) : Prop :=
  ∀ (l : Nat) (J Jx : List (List UInt8) → World → Prop) (W : World), (∀ s W W' row, J s W → W.grownBy W' row → (∀ r, row = some r → r = bl) → J s W') →
    (∀ pre x W1, J pre W1 → x.length ≤ T.length → YieldAt Fence.wide (n - 1) Tryd.prog l #[.string ⟨(x : List UInt8).toArray⟩] W1 fun e W' => (e = .returned (.bool true) ∧ J (pre ++ [x]) W' ∧ W'.heap[bl]? = W1.heap[bl]?) ∨ (e = .returned (.bool false) ∧ Jx (pre ++ [x]) W')) →
    W.heap[bl]? = some (.cells #[.string ⟨T.toArray⟩] 9 (0, 0)) → J [] W →
    CallsIn Fence.wide n Tryd.prog 31 #[.func (.yield l) #[] #[], .pointer (some ⟨bl, 0, none⟩)] W fun e W' => (∃ v, e = .returned v) ∧ (J (lns T) W' ∨ ∃ pre r, pre ++ r = lns T ∧ Jx pre W')
theorem range_lines {n : Nat} {g : Operand} {ps : Array Tmp} {assign body : Code} {Q : Exit → Act → World → Prop} {a : Act} {w : World} {bl : Nat} {T : List UInt8}
    (h1 : 1 ≤ n) (hg : a.eval g = .func (.func 31) #[] #[.pointer (some ⟨bl, 0, none⟩)]) (hbl : w.heap[bl]? = some (.cells #[.string ⟨T.toArray⟩] 9 (0, 0))) (hps : ps.size = 1)
    (hseq : LinesIn (n - 1) bl T)
    (I Ix : List (List UInt8) → World → Prop) (hI : Abd bl w.heap.size I) (hIx : Abd bl w.heap.size Ix) (h0 : I [] w) (a1 : List UInt8 → Act)
    (hassign : ∀ (l : Nat) (x : List UInt8) (W : World) (K : Act → World → Prop), K (a1 x) W → assign.wpIn (Fence.wide.inRound l) (n - 1 - 1) Tryd.prog (Exit.then K (fun _ _ _ => False)) { tmps := (ps.zip #[.string ⟨x.toArray⟩]).foldl (fun t (p, v) => t.setIfInBounds p v) a.tmps, defers := [] } W)
    (hbody : ∀ (l : Nat) (pre : List (List UInt8)) (x : List UInt8) (W : World), w.heap.size + 2 ≤ W.heap.size → I pre W → x.length ≤ T.length → body.wpIn (Fence.wide.inRound l) (n - 1 - 1) Tryd.prog (rdPost bl w.heap.size I Ix (pre ++ [x]) W) (a1 x) W)
    (hdone : ∀ W, I (lns T) W → W.heap[w.heap.size]? = some (.deferred (some [])) → Q .normal { a with defers := { target := .collected w.heap.size, args := #[] } :: a.defers } W)
    (hstop : ∀ pre r W, pre ++ r = lns T → Ix pre W → W.heap[w.heap.size]? = some (.deferred (some [])) → Code.ret.wpIn Fence.wide n Tryd.prog Q { a with defers := { target := .collected w.heap.size, args := #[] } :: a.defers } W) :
    (Code.rangeFunc g ps assign body).wpIn Fence.wide n Tryd.prog Q a w := by
  refine wpIn_rangeFunc ?_
  intro fn hfn
  obtain ⟨D, hD⟩ : ∃ D, D = w.heap.size := ⟨_, rfl⟩
  have hlt : bl < D := by rw [hD]; exact lt_of_block hbl
  obtain ⟨rec, hrec⟩ : ∃ rec : LoopState → Option Code → Loop, rec = fun s p => { state := s, pending := p, fn, tmps := a.tmps, params := ps, assign, body, defers := D } := ⟨_, rfl⟩
  obtain ⟨V, hV⟩ : ∃ V, V = (w.alloc (.deferred (some []))).alloc (.loop (rec .ready none)) := ⟨_, rfl⟩
  have vL : V.heap[D + 1]? = some (.loop (rec .ready none)) := by rw [hV, hD]; exact heap_at _ (by simp)
  have vD : V.heap[D]? = some (.deferred (some [])) := by rw [hV, hD]; exact (Below.heap_alloc _ _ _ (by simp)).trans (heap_at _ rfl)
  have vB : V.heap[bl]? = some (.cells #[.string ⟨T.toArray⟩] 9 (0, 0)) := by rw [hV]; exact (Below.heap_alloc _ _ _ (by simp; omega)).trans ((Below.heap_alloc _ _ _ (by omega)).trans hbl)
  have put : ∀ {J : List (List UInt8) → World → Prop} {s : List (List UInt8)} {W : World} (o : Obj), Abd bl D J → J s W → J s (W.putObj (D + 1) o) := fun o hJ h => hJ _ _ _ _ h (grownBy_putObj' _ (D + 1) o) (fun r e => by cases e; exact Or.inr (Or.inr rfl))
  rw [← hD] at hI hIx hbody hdone hstop
  have vI : I [] V := by
    rw [hV]
    exact hI _ _ _ none (hI _ _ _ none h0 (World.grownBy_alloc w _ none) (fun r e => by cases e)) (World.grownBy_alloc _ _ none) (fun r e => by cases e)
  refine ⟨D + 1, [{ target := .collected D, args := #[] }], V, { target := .fn (.func 31) #[.pointer (some ⟨bl, 0, none⟩)], args := #[.func (.yield (D + 1)) #[] #[]] }, V, 31,
    #[.func (.yield (D + 1)) #[] #[], .pointer (some ⟨bl, 0, none⟩)], V, ?_, ?_, fun _ _ => trivial, ?_, fun _ => h1, ?_⟩
  · rw [hV, hrec, hD]; exact run_enterLoop_outer _ _ _ _ _
  · simp only [resolve, hg]
    simp [go_sem]
  · simp [invoke, go_sem]
  · refine (hseq (D + 1) (fun pre W => I pre W ∧ W.heap[D + 1]? = some (.loop (rec .ready none)) ∧ W.heap[D]? = some (.deferred (some [])))
      (fun pre W => Ix pre W ∧ W.heap[D + 1]? = some (.loop (rec .done (some .ret))) ∧ W.heap[D]? = some (.deferred (some []))) V ?_ ?_ vB ⟨vI, vL, vD⟩).mono ?_
    · rintro s X Y row ⟨p1, p2, p3⟩ hgr hr
      refine ⟨hI _ _ _ _ p1 hgr (fun r e => Or.inl (hr r e)), ?_, ?_⟩
      · exact (hgr.block _ (lt_of_block p2) (fun e => by have := hr _ e.symm; omega)).trans p2
      · exact (hgr.block _ (lt_of_block p3) (fun e => by have := hr _ e.symm; omega)).trans p3
    · rintro pre x X ⟨p1, p2, p3⟩ hlx
      have hy := run_yield (P := Tryd.prog) (args := #[.string ⟨x.toArray⟩]) p2 (by rw [hrec]; exact hps.symm)
      rw [hrec] at hy
      refine ⟨fn, _, assign, body, hy, roundIn_of_wpIn hfn (hassign (D + 1) x X _ ?_)⟩
      refine ⟨_, run_beginRound p2 (by rw [hrec]), ?_⟩
      have z1 := lt_of_block p2
      obtain ⟨Y, hY⟩ : ∃ Y, Y = X.putObj (D + 1) (.loop { rec .ready none with state := .busy }) := ⟨_, rfl⟩
      rw [← hY]
      have y2 : Y.heap[D + 1]? = some (.loop { rec .ready none with state := .busy }) := by rw [hY]; exact World.putObj_heap_same z1
      have y3 : Y.heap[D]? = some (.deferred (some [])) := by rw [hY]; exact (World.putObj_heap_other (by omega)).trans p3
      have yb : Y.heap[bl]? = X.heap[bl]? := by rw [hY]; exact World.putObj_heap_other (by omega)
      have yI : I pre Y := by rw [hY]; exact put _ hI p1
      refine wpIn_mono (hbody (D + 1) pre x Y (by have := lt_of_block y2; omega) yI hlx) ?_
      rintro e a3 Z hp
      have hend : ∀ (jump : Option Code), Kq bl D Y Z → (Instr.endRound (D + 1) jump).run Tryd.prog Z = .ok (.bool jump.isNone) (Z.putObj (D + 1) (.loop (rec (if jump.isNone then .ready else .done) jump))) ∧ (Z.putObj (D + 1) (.loop (rec (if jump.isNone then .ready else .done) jump))).heap[D + 1]? = some (.loop (rec (if jump.isNone then .ready else .done) jump)) ∧ (Z.putObj (D + 1) (.loop (rec (if jump.isNone then .ready else .done) jump))).heap[D]? = some (.deferred (some [])) := by
        intro jump hk
        have q2 := hk.2.2.1.trans y2
        have hr := run_endRound (P := Tryd.prog) jump q2
        rw [hrec] at hr ⊢
        exact ⟨hr, World.putObj_heap_same (lt_of_block q2), (World.putObj_heap_other (by omega)).trans (hk.2.1.trans y3)⟩
      cases e with
      | normal =>
        obtain ⟨hk, hi⟩ := hp
        obtain ⟨r1, r2, r3⟩ := hend none hk
        exact ⟨_, _, r1, .inl ⟨rfl, ⟨put _ hI hi, r2, r3⟩, (World.putObj_heap_other (by omega)).trans (hk.1.trans yb)⟩⟩
      | ret =>
        obtain ⟨hk, hi⟩ := hp
        obtain ⟨r1, r2, r3⟩ := hend (some .ret) hk
        exact ⟨_, _, r1, .inr ⟨rfl, put _ hIx hi, r2, r3⟩⟩
      | exit id => exact hp.elim
      | goto t => exact hp.elim
      | panic ch => exact hp.elim
      | outgrown => exact hp.elim
    · rintro e Z ⟨⟨v, rfl⟩, (⟨hi, q2, q3⟩ | ⟨pre, r, hpr, hi, q2, q3⟩)⟩
      · exact ⟨none, _, by have := run_endLoop (P := Tryd.prog) q2 (by rw [hrec]; simp); rw [hrec] at this; exact this, hdone _ (put _ hI hi) ((World.putObj_heap_other (by omega)).trans q3)⟩
      · exact ⟨some .ret, _, by have := run_endLoop (P := Tryd.prog) q2 (by rw [hrec]; simp); rw [hrec] at this; exact this, hstop pre r _ hpr (put _ hIx hi) ((World.putObj_heap_other (by omega)).trans q3)⟩
end Go.Proofs.YtnebijdifemicaaDoor
