/- usherref.numbers and eventOf: their contracts. -/
import Derived.Test.YtnebijdifemicaaDoorWireK
namespace Go.Proofs.YtnebijdifemicaaDoor
open Go.RowKit

def gdI (b : Bool) : Int := if b then 1 else 0
def vals (F : List FD) : List (List Value) := F.map fun f => [Value.int .i64 f.val]
def los (F : List FD) : List (List Value) := F.map fun f => [Value.int .i64 f.lo]
def his (F : List FD) : List (List Value) := F.map fun f => [Value.int .i64 f.hi]
theorem one_vals (F : List FD) : ∀ c ∈ vals F, c.length = 1 := by
  intro c hc; simp only [vals, List.mem_map] at hc; obtain ⟨x, _, rfl⟩ := hc; rfl
theorem one_los (F : List FD) : ∀ c ∈ los F, c.length = 1 := by
  intro c hc; simp only [los, List.mem_map] at hc; obtain ⟨x, _, rfl⟩ := hc; rfl
theorem one_his (F : List FD) : ∀ c ∈ his F, c.length = 1 := by
  intro c hc; simp only [his, List.mem_map] at hc; obtain ⟨x, _, rfl⟩ := hc; rfl
def NuPost (w : World) (F : List FD) (ok : Bool) (e : Ending) (w' : World) : Prop := ∃ v1 v2 v3, e = .returned (.tuple #[v1, v2, v3, .bool ok]) ∧ RowAt w' 1 v1 (vals F) ∧ RowAt w' 1 v2 (los F) ∧ RowAt w' 1 v3 (his F) ∧ Below w.heap.size w w'
/-- An event with just what its kind has. -/
def keepE (e : Ev) : Ev :=
  if e.kind = 1 then ⟨e.kind, e.key, 0, 0, false, 0, 0, 0⟩
  else if e.kind = 2 ∨ e.kind = 3 then ⟨e.kind, 0, e.slot, e.gen, false, 0, 0, 0⟩
  else if e.kind = 4 then ⟨e.kind, 0, e.slot, e.gen, e.good, 0, 0, 0⟩
  else if e.kind = 5 then ⟨e.kind, 0, 0, 0, false, e.request, e.backend, e.weight⟩
  else if e.kind = 6 then ⟨e.kind, 0, 0, 0, false, e.request, e.backend, 0⟩
  else ⟨e.kind, 0, 0, 0, false, 0, 0, 0⟩
theorem keep_rest {x : Ev} (h : 1 ≤ x.kind ∧ x.kind ≤ 7) : keepE x = x ↔ restE x = Ev.zero := by
  obtain ⟨kd, ky, sl, gn, gd, rq, bk, wt⟩ := x
  rcases kinds h with h | h | h | h | h | h | h <;> simp only at h <;> subst h <;> cases gd <;> simp [keepE, restE, Ev.zero] <;> omega

set_option maxHeartbeats 4000000 in
set_option maxRecDepth 100000 in
theorem numbers_true (kd ky sl gn rq bk wt : Int) (ok : Bool) (w : World) (hok : ok = decide (1 ≤ kd ∧ kd ≤ 7)) :
    Calls Tryd.prog 26 #[.agg #[.int .i64 kd, .int .i64 ky, .int .i64 sl, .int .i64 gn, .bool true, .int .i64 rq, .int .i64 bk, .int .i64 wt]] w (NuPost w (evF ⟨kd, ky, sl, gn, true, rq, bk, wt⟩ 0 0 1) ok) := by
  have HOK := Lib.hid hok
  clear hok
  rcases (show kd = 1 ∨ kd = 2 ∨ kd = 3 ∨ kd = 4 ∨ kd = 5 ∨ kd = 6 ∨ kd = 7 ∨ (kd < 1 ∨ 7 < kd) by omega) with rfl | rfl | rfl | rfl | rfl | rfl | rfl | hno
  · obtain rfl : ok = true := by rw [HOK.out]; rfl
    clear HOK
    go_enter Tryd.func26, Tryd.ntmps26
    go_wp2
    refine bodyPost_ret (v := .tuple #[.slice (some ⟨w.heap.size + 1, 0, none⟩) 1 1, .slice (some ⟨w.heap.size + 1 + 1, 0, none⟩) 1 1, .slice (some ⟨w.heap.size + 1 + 1 + 1, 0, none⟩) 1 1, .bool true]) ?_ rfl ⟨_, _, _, rfl, RowAt_of_owns (base := w.heap.size) (e := 3) (n := 1) (L := vals (evF ⟨1, ky, sl, gn, true, rq, bk, wt⟩ 0 0 1)) (own_lit (b := w.heap.size + 1) (by omega) ((Below.heap_alloc _ _ _ (by first | omega | (simp; done) | (simp; omega))).trans ((Below.heap_alloc _ _ _ (by first | omega | (simp; done) | (simp; omega))).trans (heap_at _ (by simp)))) (by decide) rfl) rfl (one_vals _), RowAt_of_owns (base := w.heap.size) (e := 3) (n := 1) (L := los (evF ⟨1, ky, sl, gn, true, rq, bk, wt⟩ 0 0 1)) (own_lit (b := w.heap.size + 1 + 1) (by omega) ((Below.heap_alloc _ _ _ (by first | omega | (simp; done) | (simp; omega))).trans (heap_at _ (by simp))) (by decide) rfl) rfl (one_los _), RowAt_of_owns (base := w.heap.size) (e := 3) (n := 1) (L := his (evF ⟨1, ky, sl, gn, true, rq, bk, wt⟩ 0 0 1)) (own_lit (b := w.heap.size + 1 + 1 + 1) (by omega) (heap_at _ (by simp)) (by decide) rfl) rfl (one_his _), (by repeat (first | (with_reducible exact Below.refl _ _) | (with_reducible assumption) | (with_reducible refine Below.drew ?_) | (with_reducible refine Below_drewN ?_) | (with_reducible refine Below.alloc ?_ (by first | omega | (simp; done) | (simp; omega)) _) | (with_reducible refine Below.setCell ?_ (by first | omega | (simp; done) | (simp; omega)) _) | (with_reducible refine Below.trans ?_ (Below.mono (by assumption) (by first | omega | (simp; done) | (simp; omega))))))⟩
    simp [results, Tryd.results26, go_sem, *]
  · obtain rfl : ok = true := by rw [HOK.out]; rfl
    clear HOK
    go_enter Tryd.func26, Tryd.ntmps26
    go_wp2
    refine bodyPost_ret (v := .tuple #[.slice (some ⟨w.heap.size + 1, 0, none⟩) 2 2, .slice (some ⟨w.heap.size + 1 + 1, 0, none⟩) 2 2, .slice (some ⟨w.heap.size + 1 + 1 + 1, 0, none⟩) 2 2, .bool true]) ?_ rfl ⟨_, _, _, rfl, RowAt_of_owns (base := w.heap.size) (e := 3) (n := 2) (L := vals (evF ⟨2, ky, sl, gn, true, rq, bk, wt⟩ 0 0 1)) (own_lit (b := w.heap.size + 1) (by omega) ((Below.heap_alloc _ _ _ (by first | omega | (simp; done) | (simp; omega))).trans ((Below.heap_alloc _ _ _ (by first | omega | (simp; done) | (simp; omega))).trans (heap_at _ (by simp)))) (by decide) rfl) rfl (one_vals _), RowAt_of_owns (base := w.heap.size) (e := 3) (n := 2) (L := los (evF ⟨2, ky, sl, gn, true, rq, bk, wt⟩ 0 0 1)) (own_lit (b := w.heap.size + 1 + 1) (by omega) ((Below.heap_alloc _ _ _ (by first | omega | (simp; done) | (simp; omega))).trans (heap_at _ (by simp))) (by decide) rfl) rfl (one_los _), RowAt_of_owns (base := w.heap.size) (e := 3) (n := 2) (L := his (evF ⟨2, ky, sl, gn, true, rq, bk, wt⟩ 0 0 1)) (own_lit (b := w.heap.size + 1 + 1 + 1) (by omega) (heap_at _ (by simp)) (by decide) rfl) rfl (one_his _), (by repeat (first | (with_reducible exact Below.refl _ _) | (with_reducible assumption) | (with_reducible refine Below.drew ?_) | (with_reducible refine Below_drewN ?_) | (with_reducible refine Below.alloc ?_ (by first | omega | (simp; done) | (simp; omega)) _) | (with_reducible refine Below.setCell ?_ (by first | omega | (simp; done) | (simp; omega)) _) | (with_reducible refine Below.trans ?_ (Below.mono (by assumption) (by first | omega | (simp; done) | (simp; omega))))))⟩
    simp [results, Tryd.results26, go_sem, *]
  · obtain rfl : ok = true := by rw [HOK.out]; rfl
    clear HOK
    go_enter Tryd.func26, Tryd.ntmps26
    go_wp2
    refine bodyPost_ret (v := .tuple #[.slice (some ⟨w.heap.size + 1, 0, none⟩) 2 2, .slice (some ⟨w.heap.size + 1 + 1, 0, none⟩) 2 2, .slice (some ⟨w.heap.size + 1 + 1 + 1, 0, none⟩) 2 2, .bool true]) ?_ rfl ⟨_, _, _, rfl, RowAt_of_owns (base := w.heap.size) (e := 3) (n := 2) (L := vals (evF ⟨3, ky, sl, gn, true, rq, bk, wt⟩ 0 0 1)) (own_lit (b := w.heap.size + 1) (by omega) ((Below.heap_alloc _ _ _ (by first | omega | (simp; done) | (simp; omega))).trans ((Below.heap_alloc _ _ _ (by first | omega | (simp; done) | (simp; omega))).trans (heap_at _ (by simp)))) (by decide) rfl) rfl (one_vals _), RowAt_of_owns (base := w.heap.size) (e := 3) (n := 2) (L := los (evF ⟨3, ky, sl, gn, true, rq, bk, wt⟩ 0 0 1)) (own_lit (b := w.heap.size + 1 + 1) (by omega) ((Below.heap_alloc _ _ _ (by first | omega | (simp; done) | (simp; omega))).trans (heap_at _ (by simp))) (by decide) rfl) rfl (one_los _), RowAt_of_owns (base := w.heap.size) (e := 3) (n := 2) (L := his (evF ⟨3, ky, sl, gn, true, rq, bk, wt⟩ 0 0 1)) (own_lit (b := w.heap.size + 1 + 1 + 1) (by omega) (heap_at _ (by simp)) (by decide) rfl) rfl (one_his _), (by repeat (first | (with_reducible exact Below.refl _ _) | (with_reducible assumption) | (with_reducible refine Below.drew ?_) | (with_reducible refine Below_drewN ?_) | (with_reducible refine Below.alloc ?_ (by first | omega | (simp; done) | (simp; omega)) _) | (with_reducible refine Below.setCell ?_ (by first | omega | (simp; done) | (simp; omega)) _) | (with_reducible refine Below.trans ?_ (Below.mono (by assumption) (by first | omega | (simp; done) | (simp; omega))))))⟩
    simp [results, Tryd.results26, go_sem, *]
  · obtain rfl : ok = true := by rw [HOK.out]; rfl
    clear HOK
    go_enter Tryd.func26, Tryd.ntmps26
    go_wp2
    refine bodyPost_ret (v := .tuple #[.slice (some ⟨w.heap.size + 1, 0, none⟩) 3 3, .slice (some ⟨w.heap.size + 1 + 1, 0, none⟩) 3 3, .slice (some ⟨w.heap.size + 1 + 1 + 1, 0, none⟩) 3 3, .bool true]) ?_ rfl ⟨_, _, _, rfl, RowAt_of_owns (base := w.heap.size) (e := 3) (n := 3) (L := vals (evF ⟨4, ky, sl, gn, true, rq, bk, wt⟩ 0 0 1)) (own_lit (b := w.heap.size + 1) (by omega) ((Below.heap_alloc _ _ _ (by first | omega | (simp; done) | (simp; omega))).trans ((Below.heap_alloc _ _ _ (by first | omega | (simp; done) | (simp; omega))).trans (heap_at _ (by simp)))) (by decide) rfl) rfl (one_vals _), RowAt_of_owns (base := w.heap.size) (e := 3) (n := 3) (L := los (evF ⟨4, ky, sl, gn, true, rq, bk, wt⟩ 0 0 1)) (own_lit (b := w.heap.size + 1 + 1) (by omega) ((Below.heap_alloc _ _ _ (by first | omega | (simp; done) | (simp; omega))).trans (heap_at _ (by simp))) (by decide) rfl) rfl (one_los _), RowAt_of_owns (base := w.heap.size) (e := 3) (n := 3) (L := his (evF ⟨4, ky, sl, gn, true, rq, bk, wt⟩ 0 0 1)) (own_lit (b := w.heap.size + 1 + 1 + 1) (by omega) (heap_at _ (by simp)) (by decide) rfl) rfl (one_his _), (by repeat (first | (with_reducible exact Below.refl _ _) | (with_reducible assumption) | (with_reducible refine Below.drew ?_) | (with_reducible refine Below_drewN ?_) | (with_reducible refine Below.alloc ?_ (by first | omega | (simp; done) | (simp; omega)) _) | (with_reducible refine Below.setCell ?_ (by first | omega | (simp; done) | (simp; omega)) _) | (with_reducible refine Below.trans ?_ (Below.mono (by assumption) (by first | omega | (simp; done) | (simp; omega))))))⟩
    simp [results, Tryd.results26, go_sem, *]
  · obtain rfl : ok = true := by rw [HOK.out]; rfl
    clear HOK
    go_enter Tryd.func26, Tryd.ntmps26
    go_wp2
    refine bodyPost_ret (v := .tuple #[.slice (some ⟨w.heap.size + 1, 0, none⟩) 3 3, .slice (some ⟨w.heap.size + 1 + 1, 0, none⟩) 3 3, .slice (some ⟨w.heap.size + 1 + 1 + 1, 0, none⟩) 3 3, .bool true]) ?_ rfl ⟨_, _, _, rfl, RowAt_of_owns (base := w.heap.size) (e := 3) (n := 3) (L := vals (evF ⟨5, ky, sl, gn, true, rq, bk, wt⟩ 0 0 1)) (own_lit (b := w.heap.size + 1) (by omega) ((Below.heap_alloc _ _ _ (by first | omega | (simp; done) | (simp; omega))).trans ((Below.heap_alloc _ _ _ (by first | omega | (simp; done) | (simp; omega))).trans (heap_at _ (by simp)))) (by decide) rfl) rfl (one_vals _), RowAt_of_owns (base := w.heap.size) (e := 3) (n := 3) (L := los (evF ⟨5, ky, sl, gn, true, rq, bk, wt⟩ 0 0 1)) (own_lit (b := w.heap.size + 1 + 1) (by omega) ((Below.heap_alloc _ _ _ (by first | omega | (simp; done) | (simp; omega))).trans (heap_at _ (by simp))) (by decide) rfl) rfl (one_los _), RowAt_of_owns (base := w.heap.size) (e := 3) (n := 3) (L := his (evF ⟨5, ky, sl, gn, true, rq, bk, wt⟩ 0 0 1)) (own_lit (b := w.heap.size + 1 + 1 + 1) (by omega) (heap_at _ (by simp)) (by decide) rfl) rfl (one_his _), (by repeat (first | (with_reducible exact Below.refl _ _) | (with_reducible assumption) | (with_reducible refine Below.drew ?_) | (with_reducible refine Below_drewN ?_) | (with_reducible refine Below.alloc ?_ (by first | omega | (simp; done) | (simp; omega)) _) | (with_reducible refine Below.setCell ?_ (by first | omega | (simp; done) | (simp; omega)) _) | (with_reducible refine Below.trans ?_ (Below.mono (by assumption) (by first | omega | (simp; done) | (simp; omega))))))⟩
    simp [results, Tryd.results26, go_sem, *]
  · obtain rfl : ok = true := by rw [HOK.out]; rfl
    clear HOK
    go_enter Tryd.func26, Tryd.ntmps26
    go_wp2
    refine bodyPost_ret (v := .tuple #[.slice (some ⟨w.heap.size + 1, 0, none⟩) 2 2, .slice (some ⟨w.heap.size + 1 + 1, 0, none⟩) 2 2, .slice (some ⟨w.heap.size + 1 + 1 + 1, 0, none⟩) 2 2, .bool true]) ?_ rfl ⟨_, _, _, rfl, RowAt_of_owns (base := w.heap.size) (e := 3) (n := 2) (L := vals (evF ⟨6, ky, sl, gn, true, rq, bk, wt⟩ 0 0 1)) (own_lit (b := w.heap.size + 1) (by omega) ((Below.heap_alloc _ _ _ (by first | omega | (simp; done) | (simp; omega))).trans ((Below.heap_alloc _ _ _ (by first | omega | (simp; done) | (simp; omega))).trans (heap_at _ (by simp)))) (by decide) rfl) rfl (one_vals _), RowAt_of_owns (base := w.heap.size) (e := 3) (n := 2) (L := los (evF ⟨6, ky, sl, gn, true, rq, bk, wt⟩ 0 0 1)) (own_lit (b := w.heap.size + 1 + 1) (by omega) ((Below.heap_alloc _ _ _ (by first | omega | (simp; done) | (simp; omega))).trans (heap_at _ (by simp))) (by decide) rfl) rfl (one_los _), RowAt_of_owns (base := w.heap.size) (e := 3) (n := 2) (L := his (evF ⟨6, ky, sl, gn, true, rq, bk, wt⟩ 0 0 1)) (own_lit (b := w.heap.size + 1 + 1 + 1) (by omega) (heap_at _ (by simp)) (by decide) rfl) rfl (one_his _), (by repeat (first | (with_reducible exact Below.refl _ _) | (with_reducible assumption) | (with_reducible refine Below.drew ?_) | (with_reducible refine Below_drewN ?_) | (with_reducible refine Below.alloc ?_ (by first | omega | (simp; done) | (simp; omega)) _) | (with_reducible refine Below.setCell ?_ (by first | omega | (simp; done) | (simp; omega)) _) | (with_reducible refine Below.trans ?_ (Below.mono (by assumption) (by first | omega | (simp; done) | (simp; omega))))))⟩
    simp [results, Tryd.results26, go_sem, *]
  · obtain rfl : ok = true := by rw [HOK.out]; rfl
    clear HOK
    go_enter Tryd.func26, Tryd.ntmps26
    go_wp2
    refine bodyPost_ret (v := .tuple #[.slice none 0 0, .slice none 0 0, .slice none 0 0, .bool true]) ?_ rfl ⟨_, _, _, rfl, RowAt_nil _ _, RowAt_nil _ _, RowAt_nil _ _, (by repeat (first | (with_reducible exact Below.refl _ _) | (with_reducible assumption) | (with_reducible refine Below.drew ?_) | (with_reducible refine Below_drewN ?_) | (with_reducible refine Below.alloc ?_ (by first | omega | (simp; done) | (simp; omega)) _) | (with_reducible refine Below.setCell ?_ (by first | omega | (simp; done) | (simp; omega)) _) | (with_reducible refine Below.trans ?_ (Below.mono (by assumption) (by first | omega | (simp; done) | (simp; omega))))))⟩
    simp [results, Tryd.results26, go_sem, *]
  · obtain rfl : ok = false := by rw [HOK.out]; simp; omega
    have HE : Hid (evF ⟨kd, ky, sl, gn, true, rq, bk, wt⟩ 0 0 1 = []) := by
      show _ = _
      unfold evF
      simp only
      rw [if_neg (by omega), if_neg (by omega), if_neg (by omega), if_neg (by omega), if_neg (by omega)]
    have e1 : (kd == 1) = false := by simp; omega
    have e2 : (kd == 2) = false := by simp; omega
    have e3 : (kd == 3) = false := by simp; omega
    have e4 : (kd == 4) = false := by simp; omega
    have e5 : (kd == 5) = false := by simp; omega
    have e6 : (kd == 6) = false := by simp; omega
    have e7 : (kd == 7) = false := by simp; omega
    clear HOK hno
    go_enter Tryd.func26, Tryd.ntmps26
    go_wp2
    refine bodyPost_ret (v := .tuple #[.slice none 0 0, .slice none 0 0, .slice none 0 0, .bool false]) ?_ rfl ⟨_, _, _, rfl, by rw [HE.out]; exact RowAt_nil _ _, by rw [HE.out]; exact RowAt_nil _ _, by rw [HE.out]; exact RowAt_nil _ _, (by repeat (first | (with_reducible exact Below.refl _ _) | (with_reducible assumption) | (with_reducible refine Below.drew ?_) | (with_reducible refine Below_drewN ?_) | (with_reducible refine Below.alloc ?_ (by first | omega | (simp; done) | (simp; omega)) _) | (with_reducible refine Below.setCell ?_ (by first | omega | (simp; done) | (simp; omega)) _) | (with_reducible refine Below.trans ?_ (Below.mono (by assumption) (by first | omega | (simp; done) | (simp; omega))))))⟩
    simp [results, Tryd.results26, go_sem, *]

set_option maxHeartbeats 4000000 in
set_option maxRecDepth 100000 in
theorem numbers_false (kd ky sl gn rq bk wt : Int) (ok : Bool) (w : World) (hok : ok = decide (1 ≤ kd ∧ kd ≤ 7)) :
    Calls Tryd.prog 26 #[.agg #[.int .i64 kd, .int .i64 ky, .int .i64 sl, .int .i64 gn, .bool false, .int .i64 rq, .int .i64 bk, .int .i64 wt]] w (NuPost w (evF ⟨kd, ky, sl, gn, false, rq, bk, wt⟩ 0 0 0) ok) := by
  have HOK := Lib.hid hok
  clear hok
  rcases (show kd = 1 ∨ kd = 2 ∨ kd = 3 ∨ kd = 4 ∨ kd = 5 ∨ kd = 6 ∨ kd = 7 ∨ (kd < 1 ∨ 7 < kd) by omega) with rfl | rfl | rfl | rfl | rfl | rfl | rfl | hno
  · obtain rfl : ok = true := by rw [HOK.out]; rfl
    clear HOK
    go_enter Tryd.func26, Tryd.ntmps26
    go_wp2
    refine bodyPost_ret (v := .tuple #[.slice (some ⟨w.heap.size + 1, 0, none⟩) 1 1, .slice (some ⟨w.heap.size + 1 + 1, 0, none⟩) 1 1, .slice (some ⟨w.heap.size + 1 + 1 + 1, 0, none⟩) 1 1, .bool true]) ?_ rfl ⟨_, _, _, rfl, RowAt_of_owns (base := w.heap.size) (e := 3) (n := 1) (L := vals (evF ⟨1, ky, sl, gn, false, rq, bk, wt⟩ 0 0 0)) (own_lit (b := w.heap.size + 1) (by omega) ((Below.heap_alloc _ _ _ (by first | omega | (simp; done) | (simp; omega))).trans ((Below.heap_alloc _ _ _ (by first | omega | (simp; done) | (simp; omega))).trans (heap_at _ (by simp)))) (by decide) rfl) rfl (one_vals _), RowAt_of_owns (base := w.heap.size) (e := 3) (n := 1) (L := los (evF ⟨1, ky, sl, gn, false, rq, bk, wt⟩ 0 0 0)) (own_lit (b := w.heap.size + 1 + 1) (by omega) ((Below.heap_alloc _ _ _ (by first | omega | (simp; done) | (simp; omega))).trans (heap_at _ (by simp))) (by decide) rfl) rfl (one_los _), RowAt_of_owns (base := w.heap.size) (e := 3) (n := 1) (L := his (evF ⟨1, ky, sl, gn, false, rq, bk, wt⟩ 0 0 0)) (own_lit (b := w.heap.size + 1 + 1 + 1) (by omega) (heap_at _ (by simp)) (by decide) rfl) rfl (one_his _), (by repeat (first | (with_reducible exact Below.refl _ _) | (with_reducible assumption) | (with_reducible refine Below.drew ?_) | (with_reducible refine Below_drewN ?_) | (with_reducible refine Below.alloc ?_ (by first | omega | (simp; done) | (simp; omega)) _) | (with_reducible refine Below.setCell ?_ (by first | omega | (simp; done) | (simp; omega)) _) | (with_reducible refine Below.trans ?_ (Below.mono (by assumption) (by first | omega | (simp; done) | (simp; omega))))))⟩
    simp [results, Tryd.results26, go_sem, *]
  · obtain rfl : ok = true := by rw [HOK.out]; rfl
    clear HOK
    go_enter Tryd.func26, Tryd.ntmps26
    go_wp2
    refine bodyPost_ret (v := .tuple #[.slice (some ⟨w.heap.size + 1, 0, none⟩) 2 2, .slice (some ⟨w.heap.size + 1 + 1, 0, none⟩) 2 2, .slice (some ⟨w.heap.size + 1 + 1 + 1, 0, none⟩) 2 2, .bool true]) ?_ rfl ⟨_, _, _, rfl, RowAt_of_owns (base := w.heap.size) (e := 3) (n := 2) (L := vals (evF ⟨2, ky, sl, gn, false, rq, bk, wt⟩ 0 0 0)) (own_lit (b := w.heap.size + 1) (by omega) ((Below.heap_alloc _ _ _ (by first | omega | (simp; done) | (simp; omega))).trans ((Below.heap_alloc _ _ _ (by first | omega | (simp; done) | (simp; omega))).trans (heap_at _ (by simp)))) (by decide) rfl) rfl (one_vals _), RowAt_of_owns (base := w.heap.size) (e := 3) (n := 2) (L := los (evF ⟨2, ky, sl, gn, false, rq, bk, wt⟩ 0 0 0)) (own_lit (b := w.heap.size + 1 + 1) (by omega) ((Below.heap_alloc _ _ _ (by first | omega | (simp; done) | (simp; omega))).trans (heap_at _ (by simp))) (by decide) rfl) rfl (one_los _), RowAt_of_owns (base := w.heap.size) (e := 3) (n := 2) (L := his (evF ⟨2, ky, sl, gn, false, rq, bk, wt⟩ 0 0 0)) (own_lit (b := w.heap.size + 1 + 1 + 1) (by omega) (heap_at _ (by simp)) (by decide) rfl) rfl (one_his _), (by repeat (first | (with_reducible exact Below.refl _ _) | (with_reducible assumption) | (with_reducible refine Below.drew ?_) | (with_reducible refine Below_drewN ?_) | (with_reducible refine Below.alloc ?_ (by first | omega | (simp; done) | (simp; omega)) _) | (with_reducible refine Below.setCell ?_ (by first | omega | (simp; done) | (simp; omega)) _) | (with_reducible refine Below.trans ?_ (Below.mono (by assumption) (by first | omega | (simp; done) | (simp; omega))))))⟩
    simp [results, Tryd.results26, go_sem, *]
  · obtain rfl : ok = true := by rw [HOK.out]; rfl
    clear HOK
    go_enter Tryd.func26, Tryd.ntmps26
    go_wp2
    refine bodyPost_ret (v := .tuple #[.slice (some ⟨w.heap.size + 1, 0, none⟩) 2 2, .slice (some ⟨w.heap.size + 1 + 1, 0, none⟩) 2 2, .slice (some ⟨w.heap.size + 1 + 1 + 1, 0, none⟩) 2 2, .bool true]) ?_ rfl ⟨_, _, _, rfl, RowAt_of_owns (base := w.heap.size) (e := 3) (n := 2) (L := vals (evF ⟨3, ky, sl, gn, false, rq, bk, wt⟩ 0 0 0)) (own_lit (b := w.heap.size + 1) (by omega) ((Below.heap_alloc _ _ _ (by first | omega | (simp; done) | (simp; omega))).trans ((Below.heap_alloc _ _ _ (by first | omega | (simp; done) | (simp; omega))).trans (heap_at _ (by simp)))) (by decide) rfl) rfl (one_vals _), RowAt_of_owns (base := w.heap.size) (e := 3) (n := 2) (L := los (evF ⟨3, ky, sl, gn, false, rq, bk, wt⟩ 0 0 0)) (own_lit (b := w.heap.size + 1 + 1) (by omega) ((Below.heap_alloc _ _ _ (by first | omega | (simp; done) | (simp; omega))).trans (heap_at _ (by simp))) (by decide) rfl) rfl (one_los _), RowAt_of_owns (base := w.heap.size) (e := 3) (n := 2) (L := his (evF ⟨3, ky, sl, gn, false, rq, bk, wt⟩ 0 0 0)) (own_lit (b := w.heap.size + 1 + 1 + 1) (by omega) (heap_at _ (by simp)) (by decide) rfl) rfl (one_his _), (by repeat (first | (with_reducible exact Below.refl _ _) | (with_reducible assumption) | (with_reducible refine Below.drew ?_) | (with_reducible refine Below_drewN ?_) | (with_reducible refine Below.alloc ?_ (by first | omega | (simp; done) | (simp; omega)) _) | (with_reducible refine Below.setCell ?_ (by first | omega | (simp; done) | (simp; omega)) _) | (with_reducible refine Below.trans ?_ (Below.mono (by assumption) (by first | omega | (simp; done) | (simp; omega))))))⟩
    simp [results, Tryd.results26, go_sem, *]
  · obtain rfl : ok = true := by rw [HOK.out]; rfl
    clear HOK
    go_enter Tryd.func26, Tryd.ntmps26
    go_wp2
    refine bodyPost_ret (v := .tuple #[.slice (some ⟨w.heap.size + 1, 0, none⟩) 3 3, .slice (some ⟨w.heap.size + 1 + 1, 0, none⟩) 3 3, .slice (some ⟨w.heap.size + 1 + 1 + 1, 0, none⟩) 3 3, .bool true]) ?_ rfl ⟨_, _, _, rfl, RowAt_of_owns (base := w.heap.size) (e := 3) (n := 3) (L := vals (evF ⟨4, ky, sl, gn, false, rq, bk, wt⟩ 0 0 0)) (own_lit (b := w.heap.size + 1) (by omega) ((Below.heap_alloc _ _ _ (by first | omega | (simp; done) | (simp; omega))).trans ((Below.heap_alloc _ _ _ (by first | omega | (simp; done) | (simp; omega))).trans (heap_at _ (by simp)))) (by decide) rfl) rfl (one_vals _), RowAt_of_owns (base := w.heap.size) (e := 3) (n := 3) (L := los (evF ⟨4, ky, sl, gn, false, rq, bk, wt⟩ 0 0 0)) (own_lit (b := w.heap.size + 1 + 1) (by omega) ((Below.heap_alloc _ _ _ (by first | omega | (simp; done) | (simp; omega))).trans (heap_at _ (by simp))) (by decide) rfl) rfl (one_los _), RowAt_of_owns (base := w.heap.size) (e := 3) (n := 3) (L := his (evF ⟨4, ky, sl, gn, false, rq, bk, wt⟩ 0 0 0)) (own_lit (b := w.heap.size + 1 + 1 + 1) (by omega) (heap_at _ (by simp)) (by decide) rfl) rfl (one_his _), (by repeat (first | (with_reducible exact Below.refl _ _) | (with_reducible assumption) | (with_reducible refine Below.drew ?_) | (with_reducible refine Below_drewN ?_) | (with_reducible refine Below.alloc ?_ (by first | omega | (simp; done) | (simp; omega)) _) | (with_reducible refine Below.setCell ?_ (by first | omega | (simp; done) | (simp; omega)) _) | (with_reducible refine Below.trans ?_ (Below.mono (by assumption) (by first | omega | (simp; done) | (simp; omega))))))⟩
    simp [results, Tryd.results26, go_sem, *]
  · obtain rfl : ok = true := by rw [HOK.out]; rfl
    clear HOK
    go_enter Tryd.func26, Tryd.ntmps26
    go_wp2
    refine bodyPost_ret (v := .tuple #[.slice (some ⟨w.heap.size + 1, 0, none⟩) 3 3, .slice (some ⟨w.heap.size + 1 + 1, 0, none⟩) 3 3, .slice (some ⟨w.heap.size + 1 + 1 + 1, 0, none⟩) 3 3, .bool true]) ?_ rfl ⟨_, _, _, rfl, RowAt_of_owns (base := w.heap.size) (e := 3) (n := 3) (L := vals (evF ⟨5, ky, sl, gn, false, rq, bk, wt⟩ 0 0 0)) (own_lit (b := w.heap.size + 1) (by omega) ((Below.heap_alloc _ _ _ (by first | omega | (simp; done) | (simp; omega))).trans ((Below.heap_alloc _ _ _ (by first | omega | (simp; done) | (simp; omega))).trans (heap_at _ (by simp)))) (by decide) rfl) rfl (one_vals _), RowAt_of_owns (base := w.heap.size) (e := 3) (n := 3) (L := los (evF ⟨5, ky, sl, gn, false, rq, bk, wt⟩ 0 0 0)) (own_lit (b := w.heap.size + 1 + 1) (by omega) ((Below.heap_alloc _ _ _ (by first | omega | (simp; done) | (simp; omega))).trans (heap_at _ (by simp))) (by decide) rfl) rfl (one_los _), RowAt_of_owns (base := w.heap.size) (e := 3) (n := 3) (L := his (evF ⟨5, ky, sl, gn, false, rq, bk, wt⟩ 0 0 0)) (own_lit (b := w.heap.size + 1 + 1 + 1) (by omega) (heap_at _ (by simp)) (by decide) rfl) rfl (one_his _), (by repeat (first | (with_reducible exact Below.refl _ _) | (with_reducible assumption) | (with_reducible refine Below.drew ?_) | (with_reducible refine Below_drewN ?_) | (with_reducible refine Below.alloc ?_ (by first | omega | (simp; done) | (simp; omega)) _) | (with_reducible refine Below.setCell ?_ (by first | omega | (simp; done) | (simp; omega)) _) | (with_reducible refine Below.trans ?_ (Below.mono (by assumption) (by first | omega | (simp; done) | (simp; omega))))))⟩
    simp [results, Tryd.results26, go_sem, *]
  · obtain rfl : ok = true := by rw [HOK.out]; rfl
    clear HOK
    go_enter Tryd.func26, Tryd.ntmps26
    go_wp2
    refine bodyPost_ret (v := .tuple #[.slice (some ⟨w.heap.size + 1, 0, none⟩) 2 2, .slice (some ⟨w.heap.size + 1 + 1, 0, none⟩) 2 2, .slice (some ⟨w.heap.size + 1 + 1 + 1, 0, none⟩) 2 2, .bool true]) ?_ rfl ⟨_, _, _, rfl, RowAt_of_owns (base := w.heap.size) (e := 3) (n := 2) (L := vals (evF ⟨6, ky, sl, gn, false, rq, bk, wt⟩ 0 0 0)) (own_lit (b := w.heap.size + 1) (by omega) ((Below.heap_alloc _ _ _ (by first | omega | (simp; done) | (simp; omega))).trans ((Below.heap_alloc _ _ _ (by first | omega | (simp; done) | (simp; omega))).trans (heap_at _ (by simp)))) (by decide) rfl) rfl (one_vals _), RowAt_of_owns (base := w.heap.size) (e := 3) (n := 2) (L := los (evF ⟨6, ky, sl, gn, false, rq, bk, wt⟩ 0 0 0)) (own_lit (b := w.heap.size + 1 + 1) (by omega) ((Below.heap_alloc _ _ _ (by first | omega | (simp; done) | (simp; omega))).trans (heap_at _ (by simp))) (by decide) rfl) rfl (one_los _), RowAt_of_owns (base := w.heap.size) (e := 3) (n := 2) (L := his (evF ⟨6, ky, sl, gn, false, rq, bk, wt⟩ 0 0 0)) (own_lit (b := w.heap.size + 1 + 1 + 1) (by omega) (heap_at _ (by simp)) (by decide) rfl) rfl (one_his _), (by repeat (first | (with_reducible exact Below.refl _ _) | (with_reducible assumption) | (with_reducible refine Below.drew ?_) | (with_reducible refine Below_drewN ?_) | (with_reducible refine Below.alloc ?_ (by first | omega | (simp; done) | (simp; omega)) _) | (with_reducible refine Below.setCell ?_ (by first | omega | (simp; done) | (simp; omega)) _) | (with_reducible refine Below.trans ?_ (Below.mono (by assumption) (by first | omega | (simp; done) | (simp; omega))))))⟩
    simp [results, Tryd.results26, go_sem, *]
  · obtain rfl : ok = true := by rw [HOK.out]; rfl
    clear HOK
    go_enter Tryd.func26, Tryd.ntmps26
    go_wp2
    refine bodyPost_ret (v := .tuple #[.slice none 0 0, .slice none 0 0, .slice none 0 0, .bool true]) ?_ rfl ⟨_, _, _, rfl, RowAt_nil _ _, RowAt_nil _ _, RowAt_nil _ _, (by repeat (first | (with_reducible exact Below.refl _ _) | (with_reducible assumption) | (with_reducible refine Below.drew ?_) | (with_reducible refine Below_drewN ?_) | (with_reducible refine Below.alloc ?_ (by first | omega | (simp; done) | (simp; omega)) _) | (with_reducible refine Below.setCell ?_ (by first | omega | (simp; done) | (simp; omega)) _) | (with_reducible refine Below.trans ?_ (Below.mono (by assumption) (by first | omega | (simp; done) | (simp; omega))))))⟩
    simp [results, Tryd.results26, go_sem, *]
  · obtain rfl : ok = false := by rw [HOK.out]; simp; omega
    have HE : Hid (evF ⟨kd, ky, sl, gn, false, rq, bk, wt⟩ 0 0 0 = []) := by
      show _ = _
      unfold evF
      simp only
      rw [if_neg (by omega), if_neg (by omega), if_neg (by omega), if_neg (by omega), if_neg (by omega)]
    have e1 : (kd == 1) = false := by simp; omega
    have e2 : (kd == 2) = false := by simp; omega
    have e3 : (kd == 3) = false := by simp; omega
    have e4 : (kd == 4) = false := by simp; omega
    have e5 : (kd == 5) = false := by simp; omega
    have e6 : (kd == 6) = false := by simp; omega
    have e7 : (kd == 7) = false := by simp; omega
    clear HOK hno
    go_enter Tryd.func26, Tryd.ntmps26
    go_wp2
    refine bodyPost_ret (v := .tuple #[.slice none 0 0, .slice none 0 0, .slice none 0 0, .bool false]) ?_ rfl ⟨_, _, _, rfl, by rw [HE.out]; exact RowAt_nil _ _, by rw [HE.out]; exact RowAt_nil _ _, by rw [HE.out]; exact RowAt_nil _ _, (by repeat (first | (with_reducible exact Below.refl _ _) | (with_reducible assumption) | (with_reducible refine Below.drew ?_) | (with_reducible refine Below_drewN ?_) | (with_reducible refine Below.alloc ?_ (by first | omega | (simp; done) | (simp; omega)) _) | (with_reducible refine Below.setCell ?_ (by first | omega | (simp; done) | (simp; omega)) _) | (with_reducible refine Below.trans ?_ (Below.mono (by assumption) (by first | omega | (simp; done) | (simp; omega))))))⟩
    simp [results, Tryd.results26, go_sem, *]

set_option maxHeartbeats 2000000 in
set_option maxRecDepth 100000 in
theorem eventOf_1 (ky sl gn : Int) (gd : Bool) (rq bk wt : Int) (v : Value) (w : World) (hv : RowAt w 1 v (vals (evF ⟨1, ky, sl, gn, gd, rq, bk, wt⟩ 0 0 (gdI gd)))) :
    Calls Tryd.prog 28 #[.int .i64 1, v] w fun e w' => e = .returned (keepE ⟨1, ky, sl, gn, gd, rq, bk, wt⟩).agg ∧ Below w.heap.size w w' := by
  obtain ⟨a, cap, hv', _, _, _, p⟩ := RowAt_fn (f := fun f : FD => [Value.int .i64 f.val]) FD.zero hv
  obtain ⟨b0, o0, rfl, hb0, q⟩ := p (by simp [evF])
  have hv' : v = .slice (some ⟨b0, o0, none⟩) 1 cap := hv'
  subst hv'
  have q0 := q 0 0 (by simp [evF]) (by omega)
  simp [evF] at q0
  clear q p hv
  go_enter Tryd.func28, Tryd.ntmps28
  go_wp2
  refine bodyPost_ret (v := .agg #[.int .i64 1, .int .i64 ky, .int .i64 0, .int .i64 0, .bool false, .int .i64 0, .int .i64 0, .int .i64 0]) ?_ rfl ⟨rfl, (by repeat (first | (with_reducible exact Below.refl _ _) | (with_reducible assumption) | (with_reducible refine Below.drew ?_) | (with_reducible refine Below_drewN ?_) | (with_reducible refine Below.alloc ?_ (by first | omega | (simp; done) | (simp; omega)) _) | (with_reducible refine Below.setCell ?_ (by first | omega | (simp; done) | (simp; omega)) _) | (with_reducible refine Below.trans ?_ (Below.mono (by assumption) (by first | omega | (simp; done) | (simp; omega))))))⟩
  simp [results, Tryd.results28, go_sem, *]

set_option maxHeartbeats 2000000 in
set_option maxRecDepth 100000 in
theorem eventOf_2 (ky sl gn : Int) (gd : Bool) (rq bk wt : Int) (v : Value) (w : World) (hv : RowAt w 1 v (vals (evF ⟨2, ky, sl, gn, gd, rq, bk, wt⟩ 0 0 (gdI gd)))) :
    Calls Tryd.prog 28 #[.int .i64 2, v] w fun e w' => e = .returned (keepE ⟨2, ky, sl, gn, gd, rq, bk, wt⟩).agg ∧ Below w.heap.size w w' := by
  obtain ⟨a, cap, hv', _, _, _, p⟩ := RowAt_fn (f := fun f : FD => [Value.int .i64 f.val]) FD.zero hv
  obtain ⟨b0, o0, rfl, hb0, q⟩ := p (by simp [evF])
  have hv' : v = .slice (some ⟨b0, o0, none⟩) 2 cap := hv'
  subst hv'
  have q0 := q 0 0 (by simp [evF]) (by omega)
  have q1 := q 1 0 (by simp [evF]) (by omega)
  simp [evF] at q0 q1
  clear q p hv
  go_enter Tryd.func28, Tryd.ntmps28
  go_wp2
  refine bodyPost_ret (v := .agg #[.int .i64 2, .int .i64 0, .int .i64 sl, .int .i64 gn, .bool false, .int .i64 0, .int .i64 0, .int .i64 0]) ?_ rfl ⟨rfl, (by repeat (first | (with_reducible exact Below.refl _ _) | (with_reducible assumption) | (with_reducible refine Below.drew ?_) | (with_reducible refine Below_drewN ?_) | (with_reducible refine Below.alloc ?_ (by first | omega | (simp; done) | (simp; omega)) _) | (with_reducible refine Below.setCell ?_ (by first | omega | (simp; done) | (simp; omega)) _) | (with_reducible refine Below.trans ?_ (Below.mono (by assumption) (by first | omega | (simp; done) | (simp; omega))))))⟩
  simp [results, Tryd.results28, go_sem, *]

set_option maxHeartbeats 2000000 in
set_option maxRecDepth 100000 in
theorem eventOf_3 (ky sl gn : Int) (gd : Bool) (rq bk wt : Int) (v : Value) (w : World) (hv : RowAt w 1 v (vals (evF ⟨3, ky, sl, gn, gd, rq, bk, wt⟩ 0 0 (gdI gd)))) :
    Calls Tryd.prog 28 #[.int .i64 3, v] w fun e w' => e = .returned (keepE ⟨3, ky, sl, gn, gd, rq, bk, wt⟩).agg ∧ Below w.heap.size w w' := by
  obtain ⟨a, cap, hv', _, _, _, p⟩ := RowAt_fn (f := fun f : FD => [Value.int .i64 f.val]) FD.zero hv
  obtain ⟨b0, o0, rfl, hb0, q⟩ := p (by simp [evF])
  have hv' : v = .slice (some ⟨b0, o0, none⟩) 2 cap := hv'
  subst hv'
  have q0 := q 0 0 (by simp [evF]) (by omega)
  have q1 := q 1 0 (by simp [evF]) (by omega)
  simp [evF] at q0 q1
  clear q p hv
  go_enter Tryd.func28, Tryd.ntmps28
  go_wp2
  refine bodyPost_ret (v := .agg #[.int .i64 3, .int .i64 0, .int .i64 sl, .int .i64 gn, .bool false, .int .i64 0, .int .i64 0, .int .i64 0]) ?_ rfl ⟨rfl, (by repeat (first | (with_reducible exact Below.refl _ _) | (with_reducible assumption) | (with_reducible refine Below.drew ?_) | (with_reducible refine Below_drewN ?_) | (with_reducible refine Below.alloc ?_ (by first | omega | (simp; done) | (simp; omega)) _) | (with_reducible refine Below.setCell ?_ (by first | omega | (simp; done) | (simp; omega)) _) | (with_reducible refine Below.trans ?_ (Below.mono (by assumption) (by first | omega | (simp; done) | (simp; omega))))))⟩
  simp [results, Tryd.results28, go_sem, *]

set_option maxHeartbeats 2000000 in
set_option maxRecDepth 100000 in
theorem eventOf_4 (ky sl gn : Int) (gd : Bool) (rq bk wt : Int) (v : Value) (w : World) (hv : RowAt w 1 v (vals (evF ⟨4, ky, sl, gn, gd, rq, bk, wt⟩ 0 0 (gdI gd)))) :
    Calls Tryd.prog 28 #[.int .i64 4, v] w fun e w' => e = .returned (keepE ⟨4, ky, sl, gn, gd, rq, bk, wt⟩).agg ∧ Below w.heap.size w w' := by
  obtain ⟨a, cap, hv', _, _, _, p⟩ := RowAt_fn (f := fun f : FD => [Value.int .i64 f.val]) FD.zero hv
  obtain ⟨b0, o0, rfl, hb0, q⟩ := p (by simp [evF])
  have hv' : v = .slice (some ⟨b0, o0, none⟩) 3 cap := hv'
  subst hv'
  have q0 := q 0 0 (by simp [evF]) (by omega)
  have q1 := q 1 0 (by simp [evF]) (by omega)
  have q2 := q 2 0 (by simp [evF]) (by omega)
  simp [evF] at q0 q1 q2
  clear q p hv
  cases gd with
  | true =>
    simp [gdI] at q2
    go_enter Tryd.func28, Tryd.ntmps28
    go_wp2
    refine bodyPost_ret (v := .agg #[.int .i64 4, .int .i64 0, .int .i64 sl, .int .i64 gn, .bool true, .int .i64 0, .int .i64 0, .int .i64 0]) ?_ rfl ⟨rfl, (by repeat (first | (with_reducible exact Below.refl _ _) | (with_reducible assumption) | (with_reducible refine Below.drew ?_) | (with_reducible refine Below_drewN ?_) | (with_reducible refine Below.alloc ?_ (by first | omega | (simp; done) | (simp; omega)) _) | (with_reducible refine Below.setCell ?_ (by first | omega | (simp; done) | (simp; omega)) _) | (with_reducible refine Below.trans ?_ (Below.mono (by assumption) (by first | omega | (simp; done) | (simp; omega))))))⟩
    simp [results, Tryd.results28, go_sem, *]
  | false =>
    simp [gdI] at q2
    go_enter Tryd.func28, Tryd.ntmps28
    go_wp2
    refine bodyPost_ret (v := .agg #[.int .i64 4, .int .i64 0, .int .i64 sl, .int .i64 gn, .bool false, .int .i64 0, .int .i64 0, .int .i64 0]) ?_ rfl ⟨rfl, (by repeat (first | (with_reducible exact Below.refl _ _) | (with_reducible assumption) | (with_reducible refine Below.drew ?_) | (with_reducible refine Below_drewN ?_) | (with_reducible refine Below.alloc ?_ (by first | omega | (simp; done) | (simp; omega)) _) | (with_reducible refine Below.setCell ?_ (by first | omega | (simp; done) | (simp; omega)) _) | (with_reducible refine Below.trans ?_ (Below.mono (by assumption) (by first | omega | (simp; done) | (simp; omega))))))⟩
    simp [results, Tryd.results28, go_sem, *]

set_option maxHeartbeats 2000000 in
set_option maxRecDepth 100000 in
theorem eventOf_5 (ky sl gn : Int) (gd : Bool) (rq bk wt : Int) (v : Value) (w : World) (hv : RowAt w 1 v (vals (evF ⟨5, ky, sl, gn, gd, rq, bk, wt⟩ 0 0 (gdI gd)))) :
    Calls Tryd.prog 28 #[.int .i64 5, v] w fun e w' => e = .returned (keepE ⟨5, ky, sl, gn, gd, rq, bk, wt⟩).agg ∧ Below w.heap.size w w' := by
  obtain ⟨a, cap, hv', _, _, _, p⟩ := RowAt_fn (f := fun f : FD => [Value.int .i64 f.val]) FD.zero hv
  obtain ⟨b0, o0, rfl, hb0, q⟩ := p (by simp [evF])
  have hv' : v = .slice (some ⟨b0, o0, none⟩) 3 cap := hv'
  subst hv'
  have q0 := q 0 0 (by simp [evF]) (by omega)
  have q1 := q 1 0 (by simp [evF]) (by omega)
  have q2 := q 2 0 (by simp [evF]) (by omega)
  simp [evF] at q0 q1 q2
  clear q p hv
  go_enter Tryd.func28, Tryd.ntmps28
  go_wp2
  refine bodyPost_ret (v := .agg #[.int .i64 5, .int .i64 0, .int .i64 0, .int .i64 0, .bool false, .int .i64 rq, .int .i64 bk, .int .i64 wt]) ?_ rfl ⟨rfl, (by repeat (first | (with_reducible exact Below.refl _ _) | (with_reducible assumption) | (with_reducible refine Below.drew ?_) | (with_reducible refine Below_drewN ?_) | (with_reducible refine Below.alloc ?_ (by first | omega | (simp; done) | (simp; omega)) _) | (with_reducible refine Below.setCell ?_ (by first | omega | (simp; done) | (simp; omega)) _) | (with_reducible refine Below.trans ?_ (Below.mono (by assumption) (by first | omega | (simp; done) | (simp; omega))))))⟩
  simp [results, Tryd.results28, go_sem, *]

set_option maxHeartbeats 2000000 in
set_option maxRecDepth 100000 in
theorem eventOf_6 (ky sl gn : Int) (gd : Bool) (rq bk wt : Int) (v : Value) (w : World) (hv : RowAt w 1 v (vals (evF ⟨6, ky, sl, gn, gd, rq, bk, wt⟩ 0 0 (gdI gd)))) :
    Calls Tryd.prog 28 #[.int .i64 6, v] w fun e w' => e = .returned (keepE ⟨6, ky, sl, gn, gd, rq, bk, wt⟩).agg ∧ Below w.heap.size w w' := by
  obtain ⟨a, cap, hv', _, _, _, p⟩ := RowAt_fn (f := fun f : FD => [Value.int .i64 f.val]) FD.zero hv
  obtain ⟨b0, o0, rfl, hb0, q⟩ := p (by simp [evF])
  have hv' : v = .slice (some ⟨b0, o0, none⟩) 2 cap := hv'
  subst hv'
  have q0 := q 0 0 (by simp [evF]) (by omega)
  have q1 := q 1 0 (by simp [evF]) (by omega)
  simp [evF] at q0 q1
  clear q p hv
  go_enter Tryd.func28, Tryd.ntmps28
  go_wp2
  refine bodyPost_ret (v := .agg #[.int .i64 6, .int .i64 0, .int .i64 0, .int .i64 0, .bool false, .int .i64 rq, .int .i64 bk, .int .i64 0]) ?_ rfl ⟨rfl, (by repeat (first | (with_reducible exact Below.refl _ _) | (with_reducible assumption) | (with_reducible refine Below.drew ?_) | (with_reducible refine Below_drewN ?_) | (with_reducible refine Below.alloc ?_ (by first | omega | (simp; done) | (simp; omega)) _) | (with_reducible refine Below.setCell ?_ (by first | omega | (simp; done) | (simp; omega)) _) | (with_reducible refine Below.trans ?_ (Below.mono (by assumption) (by first | omega | (simp; done) | (simp; omega))))))⟩
  simp [results, Tryd.results28, go_sem, *]

set_option maxHeartbeats 2000000 in
set_option maxRecDepth 100000 in
theorem eventOf_7 (ky sl gn : Int) (gd : Bool) (rq bk wt : Int) (v : Value) (w : World) (hv : RowAt w 1 v (vals (evF ⟨7, ky, sl, gn, gd, rq, bk, wt⟩ 0 0 (gdI gd)))) :
    Calls Tryd.prog 28 #[.int .i64 7, v] w fun e w' => e = .returned (keepE ⟨7, ky, sl, gn, gd, rq, bk, wt⟩).agg ∧ Below w.heap.size w w' := by
  obtain ⟨a, cap, hv', _⟩ := RowAt_shape (f := fun f : FD => [Value.int .i64 f.val]) hv
  have hv' : v = .slice a 0 cap := hv'
  subst hv'
  clear hv
  go_enter Tryd.func28, Tryd.ntmps28
  go_wp2
  refine bodyPost_ret (v := .agg #[.int .i64 7, .int .i64 0, .int .i64 0, .int .i64 0, .bool false, .int .i64 0, .int .i64 0, .int .i64 0]) ?_ rfl ⟨rfl, (by repeat (first | (with_reducible exact Below.refl _ _) | (with_reducible assumption) | (with_reducible refine Below.drew ?_) | (with_reducible refine Below_drewN ?_) | (with_reducible refine Below.alloc ?_ (by first | omega | (simp; done) | (simp; omega)) _) | (with_reducible refine Below.setCell ?_ (by first | omega | (simp; done) | (simp; omega)) _) | (with_reducible refine Below.trans ?_ (Below.mono (by assumption) (by first | omega | (simp; done) | (simp; omega))))))⟩
  simp [results, Tryd.results28, go_sem, *]
end Go.Proofs.YtnebijdifemicaaDoor
