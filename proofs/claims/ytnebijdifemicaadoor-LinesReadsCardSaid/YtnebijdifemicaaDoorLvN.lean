/- usherref.numbers at an event that has its kind alone (its rows are new); a row that is being written. -/
import Derived.Test.YtnebijdifemicaaDoorLvP
namespace Go.Proofs.YtnebijdifemicaaDoor
open Go.RowKit
def valC (F : List FD) : List Value := F.map fun f => .int .i64 f.val
def loC (F : List FD) : List Value := F.map fun f => .int .i64 f.lo
def hiC (F : List FD) : List Value := F.map fun f => .int .i64 f.hi
def NuO (w : World) (F : List FD) (e : Ending) (w' : World) : Prop := ∃ (a1 a2 a3 : Option Addr), e = .returned (.tuple #[.slice a1 F.length F.length, .slice a2 F.length F.length, .slice a3 F.length F.length, .bool true]) ∧ Below w.heap.size w w' ∧
  (F ≠ [] → ∃ b1 b2 b3, a1 = some ⟨b1, 0, none⟩ ∧ a2 = some ⟨b2, 0, none⟩ ∧ a3 = some ⟨b3, 0, none⟩ ∧ w.heap.size ≤ b1 ∧ b1 < b2 ∧ b2 < b3 ∧ w'.heap[b1]? = some (.cells (valC F).toArray 3 (0, 0)) ∧ w'.heap[b2]? = some (.cells (loC F).toArray 3 (0, 0)) ∧ w'.heap[b3]? = some (.cells (hiC F).toArray 3 (0, 0)))

set_option maxHeartbeats 4000000 in
set_option maxRecDepth 100000 in
theorem numbersO (kd : Int) (w : World) (h : 1 ≤ kd ∧ kd ≤ 7) :
    Calls Tryd.prog 26 #[.agg #[.int .i64 kd, .int .i64 0, .int .i64 0, .int .i64 0, .bool false, .int .i64 0, .int .i64 0, .int .i64 0]] w (NuO w (evF (evZ kd) 0 0 0)) := by
  rcases (show kd = 1 ∨ kd = 2 ∨ kd = 3 ∨ kd = 4 ∨ kd = 5 ∨ kd = 6 ∨ kd = 7 by omega) with rfl | rfl | rfl | rfl | rfl | rfl | rfl <;> clear h
  · go_enter Tryd.func26, Tryd.ntmps26
    go_wp2
    refine bodyPost_ret (v := .tuple #[.slice (some ⟨w.heap.size + 1, 0, none⟩) 1 1, .slice (some ⟨w.heap.size + 1 + 1, 0, none⟩) 1 1, .slice (some ⟨w.heap.size + 1 + 1 + 1, 0, none⟩) 1 1, .bool true]) ?_ rfl ⟨_, _, _, rfl, (by repeat (first | (with_reducible exact Below.refl _ _) | (with_reducible assumption) | (with_reducible refine Below.drew ?_) | (with_reducible refine Below_drewN ?_) | (with_reducible refine Below.alloc ?_ (by first | omega | (simp; done) | (simp; omega)) _) | (with_reducible refine Below.setCell ?_ (by first | omega | (simp; done) | (simp; omega)) _) | (with_reducible refine Below.trans ?_ (Below.mono (by assumption) (by first | omega | (simp; done) | (simp; omega)))))), fun _ => ⟨_, _, _, rfl, rfl, rfl, by omega, by omega, by omega, ((Below.heap_alloc _ _ _ (by first | omega | (simp; done) | (simp; omega))).trans ((Below.heap_alloc _ _ _ (by first | omega | (simp; done) | (simp; omega))).trans (heap_at _ (by simp)))), ((Below.heap_alloc _ _ _ (by first | omega | (simp; done) | (simp; omega))).trans (heap_at _ (by simp))), (heap_at _ (by simp))⟩⟩
    simp [results, Tryd.results26, go_sem, *]
  · go_enter Tryd.func26, Tryd.ntmps26
    go_wp2
    refine bodyPost_ret (v := .tuple #[.slice (some ⟨w.heap.size + 1, 0, none⟩) 2 2, .slice (some ⟨w.heap.size + 1 + 1, 0, none⟩) 2 2, .slice (some ⟨w.heap.size + 1 + 1 + 1, 0, none⟩) 2 2, .bool true]) ?_ rfl ⟨_, _, _, rfl, (by repeat (first | (with_reducible exact Below.refl _ _) | (with_reducible assumption) | (with_reducible refine Below.drew ?_) | (with_reducible refine Below_drewN ?_) | (with_reducible refine Below.alloc ?_ (by first | omega | (simp; done) | (simp; omega)) _) | (with_reducible refine Below.setCell ?_ (by first | omega | (simp; done) | (simp; omega)) _) | (with_reducible refine Below.trans ?_ (Below.mono (by assumption) (by first | omega | (simp; done) | (simp; omega)))))), fun _ => ⟨_, _, _, rfl, rfl, rfl, by omega, by omega, by omega, ((Below.heap_alloc _ _ _ (by first | omega | (simp; done) | (simp; omega))).trans ((Below.heap_alloc _ _ _ (by first | omega | (simp; done) | (simp; omega))).trans (heap_at _ (by simp)))), ((Below.heap_alloc _ _ _ (by first | omega | (simp; done) | (simp; omega))).trans (heap_at _ (by simp))), (heap_at _ (by simp))⟩⟩
    simp [results, Tryd.results26, go_sem, *]
  · go_enter Tryd.func26, Tryd.ntmps26
    go_wp2
    refine bodyPost_ret (v := .tuple #[.slice (some ⟨w.heap.size + 1, 0, none⟩) 2 2, .slice (some ⟨w.heap.size + 1 + 1, 0, none⟩) 2 2, .slice (some ⟨w.heap.size + 1 + 1 + 1, 0, none⟩) 2 2, .bool true]) ?_ rfl ⟨_, _, _, rfl, (by repeat (first | (with_reducible exact Below.refl _ _) | (with_reducible assumption) | (with_reducible refine Below.drew ?_) | (with_reducible refine Below_drewN ?_) | (with_reducible refine Below.alloc ?_ (by first | omega | (simp; done) | (simp; omega)) _) | (with_reducible refine Below.setCell ?_ (by first | omega | (simp; done) | (simp; omega)) _) | (with_reducible refine Below.trans ?_ (Below.mono (by assumption) (by first | omega | (simp; done) | (simp; omega)))))), fun _ => ⟨_, _, _, rfl, rfl, rfl, by omega, by omega, by omega, ((Below.heap_alloc _ _ _ (by first | omega | (simp; done) | (simp; omega))).trans ((Below.heap_alloc _ _ _ (by first | omega | (simp; done) | (simp; omega))).trans (heap_at _ (by simp)))), ((Below.heap_alloc _ _ _ (by first | omega | (simp; done) | (simp; omega))).trans (heap_at _ (by simp))), (heap_at _ (by simp))⟩⟩
    simp [results, Tryd.results26, go_sem, *]
  · go_enter Tryd.func26, Tryd.ntmps26
    go_wp2
    refine bodyPost_ret (v := .tuple #[.slice (some ⟨w.heap.size + 1, 0, none⟩) 3 3, .slice (some ⟨w.heap.size + 1 + 1, 0, none⟩) 3 3, .slice (some ⟨w.heap.size + 1 + 1 + 1, 0, none⟩) 3 3, .bool true]) ?_ rfl ⟨_, _, _, rfl, (by repeat (first | (with_reducible exact Below.refl _ _) | (with_reducible assumption) | (with_reducible refine Below.drew ?_) | (with_reducible refine Below_drewN ?_) | (with_reducible refine Below.alloc ?_ (by first | omega | (simp; done) | (simp; omega)) _) | (with_reducible refine Below.setCell ?_ (by first | omega | (simp; done) | (simp; omega)) _) | (with_reducible refine Below.trans ?_ (Below.mono (by assumption) (by first | omega | (simp; done) | (simp; omega)))))), fun _ => ⟨_, _, _, rfl, rfl, rfl, by omega, by omega, by omega, ((Below.heap_alloc _ _ _ (by first | omega | (simp; done) | (simp; omega))).trans ((Below.heap_alloc _ _ _ (by first | omega | (simp; done) | (simp; omega))).trans (heap_at _ (by simp)))), ((Below.heap_alloc _ _ _ (by first | omega | (simp; done) | (simp; omega))).trans (heap_at _ (by simp))), (heap_at _ (by simp))⟩⟩
    simp [results, Tryd.results26, go_sem, *]
  · go_enter Tryd.func26, Tryd.ntmps26
    go_wp2
    refine bodyPost_ret (v := .tuple #[.slice (some ⟨w.heap.size + 1, 0, none⟩) 3 3, .slice (some ⟨w.heap.size + 1 + 1, 0, none⟩) 3 3, .slice (some ⟨w.heap.size + 1 + 1 + 1, 0, none⟩) 3 3, .bool true]) ?_ rfl ⟨_, _, _, rfl, (by repeat (first | (with_reducible exact Below.refl _ _) | (with_reducible assumption) | (with_reducible refine Below.drew ?_) | (with_reducible refine Below_drewN ?_) | (with_reducible refine Below.alloc ?_ (by first | omega | (simp; done) | (simp; omega)) _) | (with_reducible refine Below.setCell ?_ (by first | omega | (simp; done) | (simp; omega)) _) | (with_reducible refine Below.trans ?_ (Below.mono (by assumption) (by first | omega | (simp; done) | (simp; omega)))))), fun _ => ⟨_, _, _, rfl, rfl, rfl, by omega, by omega, by omega, ((Below.heap_alloc _ _ _ (by first | omega | (simp; done) | (simp; omega))).trans ((Below.heap_alloc _ _ _ (by first | omega | (simp; done) | (simp; omega))).trans (heap_at _ (by simp)))), ((Below.heap_alloc _ _ _ (by first | omega | (simp; done) | (simp; omega))).trans (heap_at _ (by simp))), (heap_at _ (by simp))⟩⟩
    simp [results, Tryd.results26, go_sem, *]
  · go_enter Tryd.func26, Tryd.ntmps26
    go_wp2
    refine bodyPost_ret (v := .tuple #[.slice (some ⟨w.heap.size + 1, 0, none⟩) 2 2, .slice (some ⟨w.heap.size + 1 + 1, 0, none⟩) 2 2, .slice (some ⟨w.heap.size + 1 + 1 + 1, 0, none⟩) 2 2, .bool true]) ?_ rfl ⟨_, _, _, rfl, (by repeat (first | (with_reducible exact Below.refl _ _) | (with_reducible assumption) | (with_reducible refine Below.drew ?_) | (with_reducible refine Below_drewN ?_) | (with_reducible refine Below.alloc ?_ (by first | omega | (simp; done) | (simp; omega)) _) | (with_reducible refine Below.setCell ?_ (by first | omega | (simp; done) | (simp; omega)) _) | (with_reducible refine Below.trans ?_ (Below.mono (by assumption) (by first | omega | (simp; done) | (simp; omega)))))), fun _ => ⟨_, _, _, rfl, rfl, rfl, by omega, by omega, by omega, ((Below.heap_alloc _ _ _ (by first | omega | (simp; done) | (simp; omega))).trans ((Below.heap_alloc _ _ _ (by first | omega | (simp; done) | (simp; omega))).trans (heap_at _ (by simp)))), ((Below.heap_alloc _ _ _ (by first | omega | (simp; done) | (simp; omega))).trans (heap_at _ (by simp))), (heap_at _ (by simp))⟩⟩
    simp [results, Tryd.results26, go_sem, *]
  · go_enter Tryd.func26, Tryd.ntmps26
    go_wp2
    refine bodyPost_ret (v := .tuple #[.slice none 0 0, .slice none 0 0, .slice none 0 0, .bool true]) ?_ rfl ⟨none, none, none, rfl, (by repeat (first | (with_reducible exact Below.refl _ _) | (with_reducible assumption) | (with_reducible refine Below.drew ?_) | (with_reducible refine Below_drewN ?_) | (with_reducible refine Below.alloc ?_ (by first | omega | (simp; done) | (simp; omega)) _) | (with_reducible refine Below.setCell ?_ (by first | omega | (simp; done) | (simp; omega)) _) | (with_reducible refine Below.trans ?_ (Below.mono (by assumption) (by first | omega | (simp; done) | (simp; omega)))))), fun h => absurd rfl h⟩
    simp [results, Tryd.results26, go_sem, *]
/-- The row of the numbers: those that were read, then those that are not yet read. -/
def padC (F : List FD) (acc : List Int) : List Value := acc.map (fun n => Value.int .i64 n) ++ (valC F).drop acc.length
theorem pad_nil (F : List FD) : padC F [] = valC F := by simp [padC]
theorem pad_len {F : List FD} {acc : List Int} (h : acc.length ≤ F.length) : (padC F acc).length = F.length := by simp [padC, valC]; omega
theorem pad_set {F : List FD} {acc : List Int} {k : Nat} (ha : acc.length = k) (hk : k < F.length) (n : Int) : (padC F acc).toArray.setIfInBounds k (.int .i64 n) = (padC F (acc ++ [n])).toArray := by
  subst ha
  simp only [List.setIfInBounds_toArray, padC]
  congr 1
  rw [List.set_append_right _ _ (by simp)]
  have e : (valC F).drop acc.length = (valC F)[acc.length]'(by simpa [valC] using hk) :: (valC F).drop (acc.length + 1) := List.drop_eq_getElem_cons (by simpa [valC] using hk)
  rw [List.length_map, Nat.sub_self, e, List.set_cons_zero]
  simp [-List.getElem_cons_drop, List.map_append]
theorem pad_at {F : List FD} {acc : List Int} {k : Nat} (ha : acc.length = k) (hk : k < F.length) : ∃ v, (padC F acc).toArray[k]? = some v := by
  have h : k < (padC F acc).length := by rw [pad_len (by omega)]; exact hk
  exact ⟨_, by rw [List.getElem?_toArray, List.getElem?_eq_getElem h]⟩
theorem pad_full {F : List FD} {acc : List Int} (h : acc.length = F.length) : padC F acc = acc.map (fun n => Value.int .i64 n) := by
  rw [padC, List.drop_of_length_le (by simp [valC]; omega), List.append_nil]
theorem row_blk {w : World} {b : Nat} {acc : List Int} {T : TypeId} (h : w.heap[b]? = some (.cells (acc.map (fun n => Value.int .i64 n)).toArray T (0, 0))) (hl : acc.length ≤ 3) : RowAt w 1 (.slice (some ⟨b, 0, none⟩) acc.length acc.length) (acc.map fun v => [Value.int .i64 v]) := by
  refine ⟨some ⟨b, 0, none⟩, acc.length, by simp, by simp, by unfold maxLen; omega, (fun h => by cases h), fun _ => ⟨b, 0, rfl, lt_of_block h, fun i j hi hj => ?_⟩⟩
  obtain rfl : j = 0 := by omega
  have hi' : i < acc.length := by simpa using hi
  rw [blk_cell h]
  simp [List.getD, hi']
theorem pad_again {F : List FD} {acc : List Int} {k : Nat} (ha : acc.length = k) (hk : k < F.length) (m n : Int) : (padC F (acc ++ [m])).toArray.setIfInBounds k (.int .i64 n) = (padC F (acc ++ [n])).toArray := by
  rw [← pad_set ha hk m, ← pad_set ha hk n, Array.setIfInBounds_setIfInBounds]
end Go.Proofs.YtnebijdifemicaaDoor
