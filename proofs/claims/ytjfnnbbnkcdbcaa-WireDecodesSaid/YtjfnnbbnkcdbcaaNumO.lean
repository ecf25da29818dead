/- usherref.numbers at an event that has its kind alone: the three rows, each in its own block. -/
import Derived.Test.YtjfnnbbnkcdbcaaDecP
namespace Go.Proofs.Ytjfnnbbnkcdbcaa
open Go.RowKit

def valC (F : List FD) : List Value := F.map fun f => .int .i64 f.val
def loC (F : List FD) : List Value := F.map fun f => .int .i64 f.lo
def hiC (F : List FD) : List Value := F.map fun f => .int .i64 f.hi
def NuO (w : World) (F : List FD) (e : Ending) (w' : World) : Prop := ∃ (a1 a2 a3 : Option Addr), e = .returned (.tuple #[.slice a1 F.length F.length, .slice a2 F.length F.length, .slice a3 F.length F.length, .bool true]) ∧ Below w.heap.size w w' ∧
  (F ≠ [] → ∃ b1 b2 b3, a1 = some ⟨b1, 0, none⟩ ∧ a2 = some ⟨b2, 0, none⟩ ∧ a3 = some ⟨b3, 0, none⟩ ∧ w.heap.size ≤ b1 ∧ b1 < b2 ∧ b2 < b3 ∧ w'.heap[b1]? = some (.cells (valC F).toArray 3 (0, 0)) ∧ w'.heap[b2]? = some (.cells (loC F).toArray 3 (0, 0)) ∧ w'.heap[b3]? = some (.cells (hiC F).toArray 3 (0, 0)))

set_option maxHeartbeats 4000000 in
set_option maxRecDepth 100000 in
theorem numbersO (kd : Int) (w : World) (h : 1 ≤ kd ∧ kd ≤ 7) :
    Calls Try.prog 30 #[.agg #[.int .i64 kd, .int .i64 0, .int .i64 0, .int .i64 0, .bool false, .int .i64 0, .int .i64 0, .int .i64 0]] w (NuO w (evF (evZ kd) 0 0 0)) := by
  rcases (show kd = 1 ∨ kd = 2 ∨ kd = 3 ∨ kd = 4 ∨ kd = 5 ∨ kd = 6 ∨ kd = 7 by omega) with rfl | rfl | rfl | rfl | rfl | rfl | rfl <;> clear h
  · go_enter Try.func30, Try.ntmps30
    go_wp2
    refine bodyPost_ret (v := .tuple #[.slice (some ⟨w.heap.size + 1, 0, none⟩) 1 1, .slice (some ⟨w.heap.size + 1 + 1, 0, none⟩) 1 1, .slice (some ⟨w.heap.size + 1 + 1 + 1, 0, none⟩) 1 1, .bool true]) ?_ rfl ⟨_, _, _, rfl, (by repeat (first | (with_reducible exact Below.refl _ _) | (with_reducible assumption) | (with_reducible refine Below.drew ?_) | (with_reducible refine Below_drewN ?_) | (with_reducible refine Below.alloc ?_ (by first | omega | (simp; done) | (simp; omega)) _) | (with_reducible refine Below.setCell ?_ (by first | omega | (simp; done) | (simp; omega)) _) | (with_reducible refine Below.trans ?_ (Below.mono (by assumption) (by first | omega | (simp; done) | (simp; omega)))))), fun _ => ⟨_, _, _, rfl, rfl, rfl, by omega, by omega, by omega, ((Below.heap_alloc _ _ _ (by first | omega | (simp; done) | (simp; omega))).trans ((Below.heap_alloc _ _ _ (by first | omega | (simp; done) | (simp; omega))).trans (heap_at _ (by simp)))), ((Below.heap_alloc _ _ _ (by first | omega | (simp; done) | (simp; omega))).trans (heap_at _ (by simp))), (heap_at _ (by simp))⟩⟩
    simp [results, Try.results30, go_sem, *]
  · go_enter Try.func30, Try.ntmps30
    go_wp2
    refine bodyPost_ret (v := .tuple #[.slice (some ⟨w.heap.size + 1, 0, none⟩) 2 2, .slice (some ⟨w.heap.size + 1 + 1, 0, none⟩) 2 2, .slice (some ⟨w.heap.size + 1 + 1 + 1, 0, none⟩) 2 2, .bool true]) ?_ rfl ⟨_, _, _, rfl, (by repeat (first | (with_reducible exact Below.refl _ _) | (with_reducible assumption) | (with_reducible refine Below.drew ?_) | (with_reducible refine Below_drewN ?_) | (with_reducible refine Below.alloc ?_ (by first | omega | (simp; done) | (simp; omega)) _) | (with_reducible refine Below.setCell ?_ (by first | omega | (simp; done) | (simp; omega)) _) | (with_reducible refine Below.trans ?_ (Below.mono (by assumption) (by first | omega | (simp; done) | (simp; omega)))))), fun _ => ⟨_, _, _, rfl, rfl, rfl, by omega, by omega, by omega, ((Below.heap_alloc _ _ _ (by first | omega | (simp; done) | (simp; omega))).trans ((Below.heap_alloc _ _ _ (by first | omega | (simp; done) | (simp; omega))).trans (heap_at _ (by simp)))), ((Below.heap_alloc _ _ _ (by first | omega | (simp; done) | (simp; omega))).trans (heap_at _ (by simp))), (heap_at _ (by simp))⟩⟩
    simp [results, Try.results30, go_sem, *]
  · go_enter Try.func30, Try.ntmps30
    go_wp2
    refine bodyPost_ret (v := .tuple #[.slice (some ⟨w.heap.size + 1, 0, none⟩) 2 2, .slice (some ⟨w.heap.size + 1 + 1, 0, none⟩) 2 2, .slice (some ⟨w.heap.size + 1 + 1 + 1, 0, none⟩) 2 2, .bool true]) ?_ rfl ⟨_, _, _, rfl, (by repeat (first | (with_reducible exact Below.refl _ _) | (with_reducible assumption) | (with_reducible refine Below.drew ?_) | (with_reducible refine Below_drewN ?_) | (with_reducible refine Below.alloc ?_ (by first | omega | (simp; done) | (simp; omega)) _) | (with_reducible refine Below.setCell ?_ (by first | omega | (simp; done) | (simp; omega)) _) | (with_reducible refine Below.trans ?_ (Below.mono (by assumption) (by first | omega | (simp; done) | (simp; omega)))))), fun _ => ⟨_, _, _, rfl, rfl, rfl, by omega, by omega, by omega, ((Below.heap_alloc _ _ _ (by first | omega | (simp; done) | (simp; omega))).trans ((Below.heap_alloc _ _ _ (by first | omega | (simp; done) | (simp; omega))).trans (heap_at _ (by simp)))), ((Below.heap_alloc _ _ _ (by first | omega | (simp; done) | (simp; omega))).trans (heap_at _ (by simp))), (heap_at _ (by simp))⟩⟩
    simp [results, Try.results30, go_sem, *]
  · go_enter Try.func30, Try.ntmps30
    go_wp2
    refine bodyPost_ret (v := .tuple #[.slice (some ⟨w.heap.size + 1, 0, none⟩) 3 3, .slice (some ⟨w.heap.size + 1 + 1, 0, none⟩) 3 3, .slice (some ⟨w.heap.size + 1 + 1 + 1, 0, none⟩) 3 3, .bool true]) ?_ rfl ⟨_, _, _, rfl, (by repeat (first | (with_reducible exact Below.refl _ _) | (with_reducible assumption) | (with_reducible refine Below.drew ?_) | (with_reducible refine Below_drewN ?_) | (with_reducible refine Below.alloc ?_ (by first | omega | (simp; done) | (simp; omega)) _) | (with_reducible refine Below.setCell ?_ (by first | omega | (simp; done) | (simp; omega)) _) | (with_reducible refine Below.trans ?_ (Below.mono (by assumption) (by first | omega | (simp; done) | (simp; omega)))))), fun _ => ⟨_, _, _, rfl, rfl, rfl, by omega, by omega, by omega, ((Below.heap_alloc _ _ _ (by first | omega | (simp; done) | (simp; omega))).trans ((Below.heap_alloc _ _ _ (by first | omega | (simp; done) | (simp; omega))).trans (heap_at _ (by simp)))), ((Below.heap_alloc _ _ _ (by first | omega | (simp; done) | (simp; omega))).trans (heap_at _ (by simp))), (heap_at _ (by simp))⟩⟩
    simp [results, Try.results30, go_sem, *]
  · go_enter Try.func30, Try.ntmps30
    go_wp2
    refine bodyPost_ret (v := .tuple #[.slice (some ⟨w.heap.size + 1, 0, none⟩) 3 3, .slice (some ⟨w.heap.size + 1 + 1, 0, none⟩) 3 3, .slice (some ⟨w.heap.size + 1 + 1 + 1, 0, none⟩) 3 3, .bool true]) ?_ rfl ⟨_, _, _, rfl, (by repeat (first | (with_reducible exact Below.refl _ _) | (with_reducible assumption) | (with_reducible refine Below.drew ?_) | (with_reducible refine Below_drewN ?_) | (with_reducible refine Below.alloc ?_ (by first | omega | (simp; done) | (simp; omega)) _) | (with_reducible refine Below.setCell ?_ (by first | omega | (simp; done) | (simp; omega)) _) | (with_reducible refine Below.trans ?_ (Below.mono (by assumption) (by first | omega | (simp; done) | (simp; omega)))))), fun _ => ⟨_, _, _, rfl, rfl, rfl, by omega, by omega, by omega, ((Below.heap_alloc _ _ _ (by first | omega | (simp; done) | (simp; omega))).trans ((Below.heap_alloc _ _ _ (by first | omega | (simp; done) | (simp; omega))).trans (heap_at _ (by simp)))), ((Below.heap_alloc _ _ _ (by first | omega | (simp; done) | (simp; omega))).trans (heap_at _ (by simp))), (heap_at _ (by simp))⟩⟩
    simp [results, Try.results30, go_sem, *]
  · go_enter Try.func30, Try.ntmps30
    go_wp2
    refine bodyPost_ret (v := .tuple #[.slice (some ⟨w.heap.size + 1, 0, none⟩) 2 2, .slice (some ⟨w.heap.size + 1 + 1, 0, none⟩) 2 2, .slice (some ⟨w.heap.size + 1 + 1 + 1, 0, none⟩) 2 2, .bool true]) ?_ rfl ⟨_, _, _, rfl, (by repeat (first | (with_reducible exact Below.refl _ _) | (with_reducible assumption) | (with_reducible refine Below.drew ?_) | (with_reducible refine Below_drewN ?_) | (with_reducible refine Below.alloc ?_ (by first | omega | (simp; done) | (simp; omega)) _) | (with_reducible refine Below.setCell ?_ (by first | omega | (simp; done) | (simp; omega)) _) | (with_reducible refine Below.trans ?_ (Below.mono (by assumption) (by first | omega | (simp; done) | (simp; omega)))))), fun _ => ⟨_, _, _, rfl, rfl, rfl, by omega, by omega, by omega, ((Below.heap_alloc _ _ _ (by first | omega | (simp; done) | (simp; omega))).trans ((Below.heap_alloc _ _ _ (by first | omega | (simp; done) | (simp; omega))).trans (heap_at _ (by simp)))), ((Below.heap_alloc _ _ _ (by first | omega | (simp; done) | (simp; omega))).trans (heap_at _ (by simp))), (heap_at _ (by simp))⟩⟩
    simp [results, Try.results30, go_sem, *]
  · go_enter Try.func30, Try.ntmps30
    go_wp2
    refine bodyPost_ret (v := .tuple #[.slice none 0 0, .slice none 0 0, .slice none 0 0, .bool true]) ?_ rfl ⟨none, none, none, rfl, (by repeat (first | (with_reducible exact Below.refl _ _) | (with_reducible assumption) | (with_reducible refine Below.drew ?_) | (with_reducible refine Below_drewN ?_) | (with_reducible refine Below.alloc ?_ (by first | omega | (simp; done) | (simp; omega)) _) | (with_reducible refine Below.setCell ?_ (by first | omega | (simp; done) | (simp; omega)) _) | (with_reducible refine Below.trans ?_ (Below.mono (by assumption) (by first | omega | (simp; done) | (simp; omega)))))), fun h => absurd rfl h⟩
    simp [results, Try.results30, go_sem, *]
/-- Values within their bounds. -/
def inB : List (Int × Int) → List Int → Prop
  | [], [] => True
  | (lo, hi) :: F, v :: V => (lo ≤ v ∧ v ≤ hi) ∧ inB F V
  | _, _ => False
theorem rd_ok : ∀ (F : List (Int × Int)) (R acc acc' : List Int), rd F R acc = (0, acc') → ∃ V, acc' = acc ++ V ∧ inB F V
  | [], R, acc, acc', h => by
    unfold rd at h
    split at h
    · exact ⟨[], by simp at h; simp [h], trivial⟩
    · simp at h
  | (lo, hi) :: F, R, acc, acc', h => by
    unfold rd at h
    split at h
    · rename_i h1; simp at h; exact absurd h.1 h1
    · split at h
      · simp at h
      · rename_i h2
        obtain ⟨V, h3, h4⟩ := rd_ok F _ _ _ h
        exact ⟨getV R :: V, by simp [h3], ⟨by omega, h4⟩⟩
theorem decX_kind (kd : Int) (acc : List Int) : (decX kd acc).kind = kd := by
  unfold decX evD
  repeat' split
  all_goals rfl
theorem decX_any {kd : Int} (h : 1 ≤ kd ∧ kd ≤ 7) {acc : List Int} (hi : inB (bnds kd) acc) : vals (evF (decX kd acc) 0 0 (gdI (decX kd acc).good)) = acc.map (fun v => [Value.int .i64 v]) ∧ keepE (decX kd acc) = decX kd acc := by
  rcases (show kd = 1 ∨ kd = 2 ∨ kd = 3 ∨ kd = 4 ∨ kd = 5 ∨ kd = 6 ∨ kd = 7 by omega) with rfl | rfl | rfl | rfl | rfl | rfl | rfl
  all_goals simp [bnds, evF, evZ, FD.lh] at hi
  · match acc, hi with
    | [a], _ => exact ⟨rfl, rfl⟩
  · match acc, hi with
    | [a, b], _ => exact ⟨rfl, rfl⟩
  · match acc, hi with
    | [a, b], _ => exact ⟨rfl, rfl⟩
  · match acc, hi with
    | [a, b, c], hi =>
      have hc : c = 0 ∨ c = 1 := by have := hi.2.2.1; omega
      rcases hc with rfl | rfl <;> exact ⟨rfl, rfl⟩
  · match acc, hi with
    | [a, b, c], _ => exact ⟨rfl, rfl⟩
  · match acc, hi with
    | [a, b], _ => exact ⟨rfl, rfl⟩
  · match acc, hi with
    | [], _ => exact ⟨rfl, rfl⟩
end Go.Proofs.Ytjfnnbbnkcdbcaa
