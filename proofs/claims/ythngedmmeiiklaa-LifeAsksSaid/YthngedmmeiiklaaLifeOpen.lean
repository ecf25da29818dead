/- life.open and (*life.book).find: their contracts. -/
import Derived.Test.YthngedmmeiiklaaLifeChk
import Derived.Test.YthngedmmeiiklaaBookCopy
import Derived.Test.YthngedmmeiiklaaIxcLf
import Derived.Test.YthngedmmeiiklaaCloneLf
import Derived.Test.YthngedmmeiiklaaCloneRq
namespace Go.Proofs.Ythngedmmeiiklaa
open Go.RowKit

/-- A book at work: a block of its own with two rows of its own. -/
structure BkAt (B : Nat) (w : World) (p : Nat) (v1 v2 : Value) (L : List Lf) (R : List Rq) : Prop where
  hB : B ≤ p
  hh : w.heap[p]? = some (.cells #[v1, v2] 56 (0, 0))
  o1 : w.ownsRow B 44 6 v1 L.length (L.map Lf.cells).flatten
  o2 : w.ownsRow B 31 5 v2 R.length (R.map Rq.cells).flatten
  l1 : ∀ b, v1.ownBlock = some b → b < p
  l2 : ∀ b, v2.ownBlock = some b → b < p
  dis : ∀ b, v1.ownBlock = some b → v2.ownBlock ≠ some b
theorem BkAt.lt {B : Nat} {w : World} {p : Nat} {v1 v2 : Value} {L : List Lf} {R : List Rq} (h : BkAt B w p v1 v2 L R) : p < w.heap.size := lt_of_block h.hh
theorem BkAt.below {B : Nat} {w w' : World} {p : Nat} {v1 v2 : Value} {L : List Lf} {R : List Rq} (h : BkAt B w p v1 v2 L R) (hb : Below w.heap.size w w') : BkAt B w' p v1 v2 L R :=
  ⟨h.hB, blk_below hb h.hh h.lt, own_keep h.o1 hb, own_keep h.o2 hb, h.l1, h.l2, h.dis⟩
theorem BkAt.r1 {B : Nat} {w : World} {p : Nat} {v1 v2 : Value} {L : List Lf} {R : List Rq} (h : BkAt B w p v1 v2 L R) : RowNew B w 6 v1 (L.map Lf.cells) := RowNew_of_owns h.o1 (by simp) (lenb_Lf L)
theorem BkAt.r2 {B : Nat} {w : World} {p : Nat} {v1 v2 : Value} {L : List Lf} {R : List Rq} (h : BkAt B w p v1 v2 L R) : RowNew B w 5 v2 (R.map Rq.cells) := RowNew_of_owns h.o2 (by simp) (lenb_Rq R)

theorem RowAt_drew1 {w : World} {sz : Nat} {v : Value} {L : List (List Value)} (h : RowAt w sz v L) : RowAt w.drew sz v L := RowAt_drewN h 1
theorem BkAt.addr {B : Nat} {w : World} {p : Nat} {v1 v2 : Value} {L : List Lf} {R : List Rq} (h : BkAt B w p v1 v2 L R) {i : Nat} (hi : i < L.length) : ∃ g cap, v1 = .slice (some ⟨g, 0, none⟩) L.length cap ∧ B ≤ g ∧ g < p := by
  rcases h.o1.2 with ⟨_, h0⟩ | ⟨gg, cap, cur, e, h1, h2, _⟩
  · omega
  · exact ⟨gg, cap, e, h1, h.l1 gg (by rw [e]; rfl)⟩
theorem BkAt.cell {B : Nat} {w : World} {p g n cap : Nat} {v2 : Value} {L : List Lf} {R : List Rq} (h : BkAt B w p (.slice (some ⟨g, 0, none⟩) n cap) v2 L R) {i j : Nat} (hi : i < L.length) (hj : j < 6) : w.cell? ⟨g, i * 6 + j, none⟩ = ((L.getD i Lf.zero).cells)[j]? ∧ w.frozen? ⟨g, i * 6 + j, none⟩ = false := by
  have h1 := h.o1
  have e : n = L.length := by
    rcases h1.2 with ⟨e, _⟩ | ⟨_, _, _, e, _⟩
    · cases e
    · simp only [Value.slice.injEq] at e; exact e.2.1
  subst e
  refine ⟨?_, h1.frozenAt _⟩
  have hl : i * 6 + j < L.length * 6 := by have : (i + 1) * 6 ≤ L.length * 6 := Nat.mul_le_mul_right _ (by omega); omega
  rw [h1.cellAt _ hl, flatten_get (lenb_Lf L) i j (by simpa using hi) hj]
  simp [List.getD, hi]

def OpBad (w : World) (e : Ending) (w' : World) : Prop := e = .returned (.tuple #[.pointer none, .int .i64 6]) ∧ Below w.heap.size w w'
def OpPost (w : World) (L : List Lf) (R : List Rq) (e : Ending) (w' : World) : Prop := ∃ p v1 v2, e = .returned (.tuple #[.pointer (some ⟨p, 0, none⟩), .int .i64 0]) ∧ BkAt w.heap.size w' p v1 v2 L R ∧ Below w.heap.size w w'

set_option maxHeartbeats 2000000 in
set_option maxRecDepth 100000 in
theorem prog_open_bad (vl vr : Value) (L : List Lf) (R : List Rq) (w : World) (hl : RowAt w 6 vl (L.map Lf.cells)) (hr : RowAt w 5 vr (R.map Rq.cells)) (h : ¬ BkMay L R) : Calls Try.prog 26 #[.agg #[vl, vr]] w (OpBad w) := by
  have HC : Hid (BkCode L R 6) := Or.inr ⟨h, rfl⟩
  have HL := Lib.hid hl
  have HR := Lib.hid hr
  obtain ⟨a, c, rfl, _⟩ := RowAt_shape hl
  obtain ⟨a', c', rfl, _⟩ := RowAt_shape hr
  clear hl hr h
  go_enter Try.func26, Try.ntmps26
  go_wp2_with fail
  refine (prog_LCheck _ _ L R 6 _ (RowAt_alloc HL.out _) (RowAt_alloc HR.out _) HC.out).mono ?_
  rintro e w1 ⟨rfl, hb1⟩
  obtain ⟨hc1, hf1⟩ := bcell hb1
  go_wp2
  refine bodyPost_ret (v := .tuple #[.pointer none, .int .i64 6]) ?_ rfl ⟨rfl, (by repeat (first | (with_reducible exact Below.refl _ _) | (with_reducible assumption) | (with_reducible refine Below.drew ?_) | (with_reducible refine Below_drewN ?_) | (with_reducible refine Below.alloc ?_ (by first | omega | (simp; done) | (simp; omega)) _) | (with_reducible refine Below.setCell ?_ (by first | omega | (simp; done) | (simp; omega)) _) | (with_reducible refine Below.trans ?_ (Below.mono (by assumption) (by first | omega | (simp; done) | (simp; omega))))))⟩
  simp [results, Try.results26, go_sem, *]

theorem own_block_lt {w : World} {B e sz n : Nat} {v : Value} {cs : List Value} (h : w.ownsRow B e sz v n cs) : ∀ b, v.ownBlock = some b → B ≤ b ∧ b < w.heap.size := fun b hb => h.lt b hb

set_option maxHeartbeats 4000000 in
set_option maxRecDepth 100000 in
theorem prog_open_ok (vl vr : Value) (L : List Lf) (R : List Rq) (w : World) (hl : RowAt w 6 vl (L.map Lf.cells)) (hr : RowAt w 5 vr (R.map Rq.cells)) (h : BkMay L R) : Calls Try.prog 26 #[.agg #[vl, vr]] w (OpPost w L R) := by
  have HC : Hid (BkCode L R 0) := Or.inl ⟨h, rfl⟩
  have HL := Lib.hid hl
  have HR := Lib.hid hr
  have n1 : L.length * 48 ≤ 140737488351232 := by have := h.1; omega
  have n2 : R.length * 40 ≤ 140737488351232 := by have := h.2.1; omega
  obtain ⟨a, c, rfl, _⟩ := RowAt_shape hl
  obtain ⟨a', c', rfl, _⟩ := RowAt_shape hr
  clear hl hr h
  go_enter Try.func26, Try.ntmps26
  go_wp2_with fail
  refine (prog_LCheck _ _ L R 0 _ (RowAt_alloc HL.out _) (RowAt_alloc HR.out _) HC.out).mono ?_
  rintro e w1 ⟨rfl, hb1⟩
  have e0 : w1.cell? ⟨w.heap.size, 0, none⟩ = some (.slice a L.length c) := cell_below' hb1 (by go_simp)
  have e1 : w1.cell? ⟨w.heap.size, 1, none⟩ = some (.slice a' R.length c') := cell_below' hb1 (by go_simp)
  have B1 := Lib.hid (((Below.refl w.heap.size w).alloc (Nat.le_refl _) _).trans (hb1.mono (by simp)))
  have R1 := Lib.hid (RowAt_below HL.out B1.out)
  have R2 := Lib.hid (RowAt_below HR.out B1.out)
  have s1 := hb1.size
  simp at s1
  clear hb1
  go_wp2_with fail
  (refine wp_region_noPanic ?_; refine wp_region_held_drew (S := (fun w' => w'.cell? ⟨w.heap.size, 0, none⟩ = some (.slice a L.length c) ∧ w'.cell? ⟨w.heap.size, 1, none⟩ = some (.slice a' R.length c'))) (by kernel_rfl) ?q1xb (fun hHeld => ?_); (case q1xb => ((try dsimp only); ((go_split_ands; (try dsimp only); (repeat' apply And.intro); all_goals (repeat (first | with_reducible assumption | (with_reducible refine (cell_set_ne ?_).trans ?_; omega) | (with_reducible refine cell_alloc _ ?_) | (with_reducible refine cell_drew ?_) | (with_reducible refine cell_below' hb3 ?_) | (with_reducible refine cell_below' hb2 ?_))))))); refine wpAnyH_take (i := 0) (v := ?q1xv0) (by simp only [List.getElem?_toArray, List.getElem?_cons_zero]; exact rfl) (by kernel_rfl) (by kernel_rfl) (by kernel_rfl) (fun _ _ _ h => h) (Or.inl ⟨by rfl, ?q1xy0⟩) (by assumption) ?_; (case q1xy0 => (intro w hSw; (try dsimp only at hSw); go_simp; (try with_reducible rfl))); (try simp only [Act.put, List.setIfInBounds_toArray, List.set_cons_zero, List.set_cons_succ]); refine wpAnyH_take (i := 1) (v := ?q1xv1) (by simp only [List.getElem?_toArray, List.getElem?_cons_zero, List.getElem?_cons_succ]; exact rfl) (by kernel_rfl) (by kernel_rfl) (by kernel_rfl) (fun _ _ _ h => h) (Or.inl ⟨by rfl, ?q1xy1⟩) (by assumption) ?_; (case q1xy1 => (intro w hSw; (try dsimp only at hSw); go_simp; (try with_reducible rfl))); (try simp only [Act.put, List.setIfInBounds_toArray, List.set_cons_zero, List.set_cons_succ]); refine wpAnyH_take (i := 3) (v := ?q1xv3) (by simp only [List.getElem?_toArray, List.getElem?_cons_zero, List.getElem?_cons_succ]; exact rfl) (by kernel_rfl) (by kernel_rfl) (by kernel_rfl) (fun _ _ _ h => h) (Or.inl ⟨by rfl, ?q1xy3⟩) (by assumption) ?_; (case q1xy3 => (intro w hSw; (try dsimp only at hSw); go_simp; (try with_reducible rfl))); (try simp only [Act.put, List.setIfInBounds_toArray, List.set_cons_zero, List.set_cons_succ]); refine wpAnyH_take (i := 4) (v := ?q1xv4) (by simp only [List.getElem?_toArray, List.getElem?_cons_zero, List.getElem?_cons_succ]; exact rfl) (by kernel_rfl) (by kernel_rfl) (by kernel_rfl) (fun _ _ _ h => h) (Or.inl ⟨by rfl, ?q1xy4⟩) (by assumption) ?_; (case q1xy4 => (intro w hSw; (try dsimp only at hSw); go_simp; (try with_reducible rfl))); (try simp only [Act.put, List.setIfInBounds_toArray, List.set_cons_zero, List.set_cons_succ]); refine wpAnyH_ready (rs := [2]) (by kernel_rfl) (by simp) ?_; refine AllReadyH.cons (by simp only [List.getElem?_toArray, List.getElem?_cons_zero, List.getElem?_cons_succ]; exact rfl) (fun K hK => ?_) AllReadyH.nil; go_simp; (first | (go_at_call 35; refine (cloneLf _ L _ (RowAt_drew1 R1.out) n1).mono ?_; rintro e w2 ⟨v1, rfl, o1, hb2⟩; obtain ⟨x1, y1, rfl, _⟩ := owns_shape o1) | (go_at_call 36; refine (cloneRq _ R _ (RowAt_below (RowAt_drew1 R2.out) hb2) n2).mono ?_; rintro e w3 ⟨v2, rfl, o2, hb3⟩; obtain ⟨x2, y2, rfl, _⟩ := owns_shape o2)); (try go_wp2_with fail); refine hK.out _ _ ?q1xs2 (fun hHeld => ?_); (case q1xs2 => ((try dsimp only); ((go_split_ands; (try dsimp only); (repeat' apply And.intro); all_goals (repeat (first | with_reducible assumption | (with_reducible refine (cell_set_ne ?_).trans ?_; omega) | (with_reducible refine cell_alloc _ ?_) | (with_reducible refine cell_drew ?_) | (with_reducible refine cell_below' hb3 ?_) | (with_reducible refine cell_below' hb2 ?_))))))); clear hK K; (try simp only [Act.put, List.setIfInBounds_toArray, List.set_cons_zero, List.set_cons_succ]); refine wpAnyH_ready (rs := [5]) (by kernel_rfl) (by simp) ?_; refine AllReadyH.cons (by simp only [List.getElem?_toArray, List.getElem?_cons_zero, List.getElem?_cons_succ]; exact rfl) (fun K hK => ?_) AllReadyH.nil; go_simp; (first | (go_at_call 35; refine (cloneLf _ L _ (RowAt_drew1 R1.out) n1).mono ?_; rintro e w2 ⟨v1, rfl, o1, hb2⟩; obtain ⟨x1, y1, rfl, _⟩ := owns_shape o1) | (go_at_call 36; refine (cloneRq _ R _ (RowAt_below (RowAt_drew1 R2.out) hb2) n2).mono ?_; rintro e w3 ⟨v2, rfl, o2, hb3⟩; obtain ⟨x2, y2, rfl, _⟩ := owns_shape o2)); (try go_wp2_with fail); refine hK.out _ _ ?q1xs5 (fun hHeld => ?_); (case q1xs5 => ((try dsimp only); ((go_split_ands; (try dsimp only); (repeat' apply And.intro); all_goals (repeat (first | with_reducible assumption | (with_reducible refine (cell_set_ne ?_).trans ?_; omega) | (with_reducible refine cell_alloc _ ?_) | (with_reducible refine cell_drew ?_) | (with_reducible refine cell_below' hb3 ?_) | (with_reducible refine cell_below' hb2 ?_))))))); clear hK K; (try simp only [Act.put, List.setIfInBounds_toArray, List.set_cons_zero, List.set_cons_succ]); refine wpAnyH_take (i := 6) (v := ?q1xv6) (by simp only [List.getElem?_toArray, List.getElem?_cons_zero, List.getElem?_cons_succ]; exact rfl) (by kernel_rfl) (by kernel_rfl) (by kernel_rfl) (fun _ _ _ h => h) (Or.inl ⟨by rfl, ?q1xy6⟩) (by assumption) ?_; (case q1xy6 => (intro w hSw; (try dsimp only at hSw); go_simp; (try with_reducible rfl))); (try simp only [Act.put, List.setIfInBounds_toArray, List.set_cons_zero, List.set_cons_succ]); refine wpAnyH_take (i := 7) (v := ?q1xv7) (by simp only [List.getElem?_toArray, List.getElem?_cons_zero, List.getElem?_cons_succ]; exact rfl) (by kernel_rfl) (by kernel_rfl) (by kernel_rfl) (fun _ _ _ h => h) (Or.inl ⟨by rfl, ?q1xy7⟩) (by assumption) ?_; (case q1xy7 => (intro w hSw; (try dsimp only at hSw); go_simp; (try with_reducible rfl))); (try simp only [Act.put, List.setIfInBounds_toArray, List.set_cons_zero, List.set_cons_succ]); refine wpAnyH_ready (rs := [8]) (by kernel_rfl) (by simp) ?_; refine AllReadyH.cons (by simp only [List.getElem?_toArray, List.getElem?_cons_zero, List.getElem?_cons_succ]; exact rfl) (fun K hK => ?_) AllReadyH.nil; go_simp; refine hK.out _ _ ?q1xs8 (fun hHeld => ?_); (case q1xs8 => ((try dsimp only); ((go_split_ands; (try dsimp only); (repeat' apply And.intro); all_goals (repeat (first | with_reducible assumption | (with_reducible refine (cell_set_ne ?_).trans ?_; omega) | (with_reducible refine cell_alloc _ ?_) | (with_reducible refine cell_drew ?_) | (with_reducible refine cell_below' hb3 ?_) | (with_reducible refine cell_below' hb2 ?_))))))); clear hK K; (try simp only [Act.put, List.setIfInBounds_toArray, List.set_cons_zero, List.set_cons_succ]); refine wpAnyH_take (i := 9) (v := ?q1xv9) (by simp only [List.getElem?_toArray, List.getElem?_cons_zero, List.getElem?_cons_succ]; exact rfl) (by kernel_rfl) (by kernel_rfl) (by kernel_rfl) (fun _ _ _ h => h) (Or.inl ⟨by rfl, ?q1xy9⟩) (by assumption) ?_; (case q1xy9 => (intro w hSw; (try dsimp only at hSw); go_simp; (try with_reducible rfl))); (try simp only [Act.put, List.setIfInBounds_toArray, List.set_cons_zero, List.set_cons_succ]); refine wpAnyH_take (i := 10) (v := ?q1xv10) (by simp only [List.getElem?_toArray, List.getElem?_cons_zero, List.getElem?_cons_succ]; exact rfl) (by kernel_rfl) (by kernel_rfl) (by kernel_rfl) (fun _ _ _ h => h) (Or.inl ⟨by rfl, ?q1xy10⟩) (by assumption) ?_; (case q1xy10 => (intro w hSw; (try dsimp only at hSw); go_simp; (try with_reducible rfl))); (try simp only [Act.put, List.setIfInBounds_toArray, List.set_cons_zero, List.set_cons_succ]); refine wpAnyH_done (by kernel_rfl) ?_ _; refine NoPanic.normal ?_)
  have O1 := own_block_lt o1
  have O2 := own_block_lt o2
  have s2 := hb2.size
  have s3 := hb3.size
  simp at s2 O1
  have K := Lib.hid (BkAt.mk (B := w.heap.size) (w := w3.alloc (.cells #[.slice x1 L.length y1, .slice x2 R.length y2] 56)) (p := w3.heap.size) (v1 := .slice x1 L.length y1) (v2 := .slice x2 R.length y2) (L := L) (R := R) (by omega) (heap_at _ rfl) (own_keep (own_keep (own_rebase o1 (by simp; omega)) hb3) ((Below.refl _ _).alloc (Nat.le_refl _) _)) (own_keep (own_rebase o2 (by omega)) ((Below.refl _ _).alloc (Nat.le_refl _) _)) (fun b hb => by have := O1 b hb; omega) (fun b hb => by have := O2 b hb; omega) (fun b hb hb2 => by have := O1 b hb; have := O2 b hb2; omega))
  have B3 : Hid (Below w.heap.size w (w3.alloc (.cells #[.slice x1 L.length y1, .slice x2 R.length y2] 56))) := (((B1.out.trans ((Below.drew (Below.refl _ _)))).trans (hb2.mono (by simp; omega))).trans (hb3.mono (by omega))).alloc (by omega) _
  clear o1 o2 hb2 hb3 O1 O2
  go_wp2
  refine bodyPost_ret (v := .tuple #[.pointer (some ⟨w3.heap.size, 0, none⟩), .int .i64 0]) ?_ rfl ⟨_, _, _, rfl, K.out, B3.out⟩
  simp [results, Try.results26, go_sem, *]

set_option maxRecDepth 100000 in
theorem find1 (x : Lf) (b : Nat) (backend : Int) (w : World) (h : w.cell? ⟨b, 0, none⟩ = some (.int .i64 backend)) : Calls Try.prog 39 #[Lf.agg x, .pointer (some ⟨b, 0, none⟩)] w fun e w' => e = .returned (.bool (x.backend == backend)) ∧ Below w.heap.size w w' := by
  obtain ⟨bk, st, wt, si, un, rq⟩ := x
  have lb := cell_lt h
  unfold Lf.agg
  go_enter Try.func39, Try.ntmps39
  go_wp2
  all_goals first | (go_ret; exact ⟨rfl, (by repeat (first | (with_reducible exact Below.refl _ _) | (with_reducible assumption) | (with_reducible refine Below.drew ?_) | (with_reducible refine Below_drewN ?_) | (with_reducible refine Below.alloc ?_ (by first | omega | (simp; done) | (simp; omega)) _) | (with_reducible refine Below.setCell ?_ (by first | omega | (simp; done) | (simp; omega)) _) | (with_reducible refine Below.trans ?_ (Below.mono (by assumption) (by first | omega | (simp; done) | (simp; omega))))))⟩) | (exfalso; first | omega | (simp at *; omega) | (simp at *; done))
/-- Where find leads. -/
def fdV (v : Value) (i : Int) : Value := match v with
  | .slice (some a) _ _ => if i < 0 then .pointer none else .pointer (some ⟨a.block, i.toNat * 6, none⟩)
  | _ => .pointer none
def lfIs (b : Int) (x : Lf) : Bool := x.backend == b

set_option maxHeartbeats 2000000 in
set_option maxRecDepth 100000 in
theorem prog_find (B p : Nat) (v1 v2 : Value) (L : List Lf) (R : List Rq) (backend : Int) (w : World) (h : BkAt B w p v1 v2 L R) (hn : L.length ≤ 12) :
    Calls Try.prog 34 #[.pointer (some ⟨p, 0, none⟩), .int .i64 backend] w fun e w' => e = .returned (fdV v1 (idxOf (lfIs backend) L)) ∧ Below w.heap.size w w' := by
  have c0 := blk_cell h.hh 0
  simp at c0
  have lp := h.lt
  have RR := Lib.hid h.r1.1
  have HAd := fun {i : Nat} (hi : i < L.length) => h.addr hi
  obtain ⟨a, cap, rfl, _⟩ := owns_shape h.o1
  clear h
  rcases idxOf_cases (lfIs backend) L Lf.zero with ⟨hi, _⟩ | ⟨i, hi, he, _⟩
  · have hV : fdV (.slice a L.length cap) (idxOf (lfIs backend) L) = .pointer none := by rw [hi]; cases a <;> simp [fdV]
    have HV := Lib.hid hV
    have HI := Lib.hid hi
    clear hi hV HAd
    go_enter Try.func34, Try.ntmps34
    go_wp2_with fail
    refine (ixcLf_any 39 ⟨w.heap.size, 0, none⟩ (fun _ _ => rfl) (lfIs backend) _ L _ (RowAt_alloc RR.out _) (by omega) (fun x _ w' hb' => find1 x _ backend w' (cell_below' hb' (by go_simp)))).mono ?_
    rintro e w1 ⟨rfl, hb1⟩
    rw [HI.out]
    obtain ⟨hc1, hf1⟩ := bcell hb1
    go_wp2
    all_goals first | (go_ret; exact ⟨congrArg Ending.returned HV.out.symm, (by repeat (first | (with_reducible exact Below.refl _ _) | (with_reducible assumption) | (with_reducible refine Below.drew ?_) | (with_reducible refine Below_drewN ?_) | (with_reducible refine Below.alloc ?_ (by first | omega | (simp; done) | (simp; omega)) _) | (with_reducible refine Below.setCell ?_ (by first | omega | (simp; done) | (simp; omega)) _) | (with_reducible refine Below.trans ?_ (Below.mono (by assumption) (by first | omega | (simp; done) | (simp; omega))))))⟩) | (exfalso; first | omega | (simp at *; omega) | (simp at *; done))
  · obtain ⟨g, cap', hg, _⟩ := HAd hi
    simp only [Value.slice.injEq] at hg
    obtain ⟨rfl, _, rfl⟩ := hg
    clear HAd
    have hV : fdV (.slice (some ⟨g, 0, none⟩) L.length cap) (idxOf (lfIs backend) L) = .pointer (some ⟨g, i * 6, none⟩) := by rw [he]; simp [fdV]
    have HV := Lib.hid hV
    have HI := Lib.hid he
    have hi' : (i : Int) < (L.length : Int) := by omega
    have p0 : (0 : Int) ≤ (i : Int) := by omega
    clear he hV
    go_enter Try.func34, Try.ntmps34
    go_wp2_with fail
    refine (ixcLf_any 39 ⟨w.heap.size, 0, none⟩ (fun _ _ => rfl) (lfIs backend) _ L _ (RowAt_alloc RR.out _) (by omega) (fun x _ w' hb' => find1 x _ backend w' (cell_below' hb' (by go_simp)))).mono ?_
    rintro e w1 ⟨rfl, hb1⟩
    rw [HI.out]
    obtain ⟨hc1, hf1⟩ := bcell hb1
    have hz1 := blt hb1
    go_wp2
    all_goals first | (go_ret; exact ⟨congrArg Ending.returned HV.out.symm, (by repeat (first | (with_reducible exact Below.refl _ _) | (with_reducible assumption) | (with_reducible refine Below.drew ?_) | (with_reducible refine Below_drewN ?_) | (with_reducible refine Below.alloc ?_ (by first | omega | (simp; done) | (simp; omega)) _) | (with_reducible refine Below.setCell ?_ (by first | omega | (simp; done) | (simp; omega)) _) | (with_reducible refine Below.trans ?_ (Below.mono (by assumption) (by first | omega | (simp; done) | (simp; omega))))))⟩) | (exfalso; first | omega | (simp at *; omega) | (simp at *; done))
end Go.Proofs.Ythngedmmeiiklaa
