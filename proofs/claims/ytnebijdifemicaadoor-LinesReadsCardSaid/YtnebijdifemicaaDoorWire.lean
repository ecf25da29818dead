/- wire.fields: its contract. -/
import Derived.Test.YtnebijdifemicaaDoorOpen
import Derived.Test.YtnebijdifemicaaDoorOwn
import Derived.Deep.RegionHeld3
namespace Go.Proofs.YtnebijdifemicaaDoor
open Go.RowKit

/-- A field of an event, as wire.fields lays it: where it stands, its bounds; and its value. -/
structure FD where
  a : Addr
  lo : Int
  hi : Int
  val : Int
def FD.cells (f : FD) : List Value := [.pointer (some f.a), .int .i64 f.lo, .int .i64 f.hi]
def evF (e : Ev) (be bg : Nat) (g : Int) : List FD :=
  if e.kind = 1 then [⟨⟨be, 1, none⟩, 0, 4294967295, e.key⟩]
  else if e.kind = 2 ∨ e.kind = 3 then [⟨⟨be, 2, none⟩, 0, 39, e.slot⟩, ⟨⟨be, 3, none⟩, 0, 1048576, e.gen⟩]
  else if e.kind = 4 then [⟨⟨be, 2, none⟩, 0, 39, e.slot⟩, ⟨⟨be, 3, none⟩, 0, 1048576, e.gen⟩, ⟨⟨bg, 0, none⟩, 0, 1, g⟩]
  else if e.kind = 5 then [⟨⟨be, 5, none⟩, 0, 1048576, e.request⟩, ⟨⟨be, 6, none⟩, 0, 11, e.backend⟩, ⟨⟨be, 7, none⟩, 1, 8, e.weight⟩]
  else if e.kind = 6 then [⟨⟨be, 5, none⟩, 0, 1048576, e.request⟩, ⟨⟨be, 6, none⟩, 0, 11, e.backend⟩]
  else []
def FdPost (w : World) (F : List FD) (ok : Bool) (e : Ending) (w' : World) : Prop := ∃ v, e = .returned (.tuple #[v, .bool ok]) ∧ RowNew w.heap.size w' 3 v (F.map FD.cells) ∧ Below w.heap.size w w'
theorem hp_drewN (w : World) (n : Nat) : (w.drewN n).heap = w.heap := rfl
theorem own_lit {w : World} {base b n T sz : Nat} {cs : List Value} (hb : base ≤ b) (hh : w.heap[b]? = some (.cells cs.toArray T (0, 0))) (hn : n ≤ maxLen) (hl : cs.length = n * sz) : w.ownsRow base T sz (.slice (some ⟨b, 0, none⟩) n n) n cs :=
  ⟨hl, .inr ⟨b, n, cs.toArray, rfl, hb, hh, Nat.le_refl _, hn, by simpa using hl, by simp [← hl]⟩⟩
theorem lenF (F : List FD) : ∀ c ∈ F.map FD.cells, c.length = 3 := by
  intro c hc; simp only [List.mem_map] at hc; obtain ⟨x, _, rfl⟩ := hc; rfl
theorem news_litD {w : World} {n k : Nat} (h : n = w.heap.size) (cs : List Value) (t : TypeId) : ∀ (j : Nat) (u : Value), cs[j]? = some u → ((w.alloc (Obj.cells cs.toArray t)).drewN k).cell? ((⟨n, 0, none⟩ : Addr).add j) = some u := news_lit h cs t
theorem info_fd : (Tryd.prog.info? 55).map (fun i => (i.zero, i.size, i.bytes)) = some (some (.agg #[.pointer none, .int .i64 0, .int .i64 0]), 3, 24) := by kernel_rfl

set_option maxHeartbeats 4000000 in
set_option maxRecDepth 100000 in
theorem prog_fields (x : Ev) (be bg : Nat) (g : Int) (ok : Bool) (w : World) (hk : w.cell? ⟨be, 0, none⟩ = some (.int .i64 x.kind)) (hok : ok = decide (1 ≤ x.kind ∧ x.kind ≤ 7)) :
    Calls Tryd.prog 20 #[.pointer (some ⟨be, 0, none⟩), .pointer (some ⟨bg, 0, none⟩)] w (FdPost w (evF x be bg g) ok) := by
  have lb := cell_lt hk
  obtain ⟨kd, ky, sl, gn, gd, rq, bk, wt⟩ := x
  simp only at hk hok
  obtain ⟨i0, ji, ji0, ji1, ji2⟩ := info_parts info_fd
  have HOK := Lib.hid hok
  clear hok
  go_enter Tryd.func20, Tryd.ntmps20
  go_wp2_with fail
  (refine wp_region_noPanic ?_; refine wp_region_held_drew (S := (fun _ => True)) (by kernel_rfl) ?q1xb (fun hHeld => ?_); (case q1xb => ((try dsimp only); (try trivial))); refine wpAnyH_take (i := 0) (v := ?q1xv0) (by simp only [List.getElem?_toArray, List.getElem?_cons_zero]; exact rfl) (by kernel_rfl) (by kernel_rfl) (by kernel_rfl) (fun _ _ _ h => h) (Or.inl ⟨by rfl, ?q1xy0⟩) (by assumption) ?_; (case q1xy0 => (intro w hSw; (try dsimp only at hSw); go_simp; (try with_reducible rfl))); (try simp only [Act.put, List.setIfInBounds_toArray, List.set_cons_zero, List.set_cons_succ]); refine wpAnyH_take (i := 1) (v := ?q1xv1) (by simp only [List.getElem?_toArray, List.getElem?_cons_zero, List.getElem?_cons_succ]; exact rfl) (by kernel_rfl) (by kernel_rfl) (by kernel_rfl) (fun _ _ _ h => h) (Or.inl ⟨by rfl, ?q1xy1⟩) (by assumption) ?_; (case q1xy1 => (intro w hSw; (try dsimp only at hSw); go_simp; (try with_reducible rfl))); (try simp only [Act.put, List.setIfInBounds_toArray, List.set_cons_zero, List.set_cons_succ]); refine wpAnyH_take (i := 2) (v := ?q1xv2) (by simp only [List.getElem?_toArray, List.getElem?_cons_zero, List.getElem?_cons_succ]; exact rfl) (by kernel_rfl) (by kernel_rfl) (by kernel_rfl) (fun _ _ _ h => h) (Or.inl ⟨by rfl, ?q1xy2⟩) (by assumption) ?_; (case q1xy2 => (intro w hSw; (try dsimp only at hSw); go_simp; (try with_reducible rfl))); (try simp only [Act.put, List.setIfInBounds_toArray, List.set_cons_zero, List.set_cons_succ]); refine wpAnyH_take (i := 3) (v := ?q1xv3) (by simp only [List.getElem?_toArray, List.getElem?_cons_zero, List.getElem?_cons_succ]; exact rfl) (by kernel_rfl) (by kernel_rfl) (by kernel_rfl) (fun _ _ _ h => h) (Or.inl ⟨by rfl, ?q1xy3⟩) (by assumption) ?_; (case q1xy3 => (intro w hSw; (try dsimp only at hSw); go_simp; (try with_reducible rfl))); (try simp only [Act.put, List.setIfInBounds_toArray, List.set_cons_zero, List.set_cons_succ]); refine wpAnyH_take (i := 4) (v := ?q1xv4) (by simp only [List.getElem?_toArray, List.getElem?_cons_zero, List.getElem?_cons_succ]; exact rfl) (by kernel_rfl) (by kernel_rfl) (by kernel_rfl) (fun _ _ _ h => h) (Or.inl ⟨by rfl, ?q1xy4⟩) (by assumption) ?_; (case q1xy4 => (intro w hSw; (try dsimp only at hSw); go_simp; (try with_reducible rfl))); (try simp only [Act.put, List.setIfInBounds_toArray, List.set_cons_zero, List.set_cons_succ]); refine wpAnyH_take (i := 5) (v := ?q1xv5) (by simp only [List.getElem?_toArray, List.getElem?_cons_zero, List.getElem?_cons_succ]; exact rfl) (by kernel_rfl) (by kernel_rfl) (by kernel_rfl) (fun _ _ _ h => h) (Or.inl ⟨by rfl, ?q1xy5⟩) (by assumption) ?_; (case q1xy5 => (intro w hSw; (try dsimp only at hSw); go_simp; (try with_reducible rfl))); (try simp only [Act.put, List.setIfInBounds_toArray, List.set_cons_zero, List.set_cons_succ]); refine wpAnyH_take (i := 6) (v := ?q1xv6) (by simp only [List.getElem?_toArray, List.getElem?_cons_zero, List.getElem?_cons_succ]; exact rfl) (by kernel_rfl) (by kernel_rfl) (by kernel_rfl) (fun _ _ _ h => h) (Or.inl ⟨by rfl, ?q1xy6⟩) (by assumption) ?_; (case q1xy6 => (intro w hSw; (try dsimp only at hSw); go_simp; (try with_reducible rfl))); (try simp only [Act.put, List.setIfInBounds_toArray, List.set_cons_zero, List.set_cons_succ]); refine wpAnyH_take (i := 7) (v := ?q1xv7) (by simp only [List.getElem?_toArray, List.getElem?_cons_zero, List.getElem?_cons_succ]; exact rfl) (by kernel_rfl) (by kernel_rfl) (by kernel_rfl) (fun _ _ _ h => h) (Or.inl ⟨by rfl, ?q1xy7⟩) (by assumption) ?_; (case q1xy7 => (intro w hSw; (try dsimp only at hSw); go_simp; (try with_reducible rfl))); (try simp only [Act.put, List.setIfInBounds_toArray, List.set_cons_zero, List.set_cons_succ]); refine wpAnyH_ready (rs := [8]) (by kernel_rfl) (by simp) ?_; refine AllReadyH.cons (by simp only [List.getElem?_toArray, List.getElem?_cons_zero, List.getElem?_cons_succ]; exact rfl) (fun K hK => ?_) AllReadyH.nil; go_simp; refine hK.out _ _ ?q1xs8 (fun hHeld => ?_); (case q1xs8 => ((try dsimp only); (try trivial))); clear hK K; (try simp only [Act.put, List.setIfInBounds_toArray, List.set_cons_zero, List.set_cons_succ]); refine wpAnyH_take (i := 9) (v := ?q1xv9) (by simp only [List.getElem?_toArray, List.getElem?_cons_zero, List.getElem?_cons_succ]; exact rfl) (by kernel_rfl) (by kernel_rfl) (by kernel_rfl) (fun _ _ _ h => h) (Or.inl ⟨by rfl, ?q1xy9⟩) (by assumption) ?_; (case q1xy9 => (intro w hSw; (try dsimp only at hSw); go_simp; (try with_reducible rfl))); (try simp only [Act.put, List.setIfInBounds_toArray, List.set_cons_zero, List.set_cons_succ]); refine wpAnyH_done (by kernel_rfl) ?_ _; refine NoPanic.normal ?_)
  go_wp2_with fail
  (refine wp_region_noPanic ?_; refine wp_region_held_drew (S := (fun _ => True)) (by kernel_rfl) ?q2xb (fun hHeld => ?_); (case q2xb => ((try dsimp only); (try trivial))); refine wpAnyH_take (i := 0) (v := ?q2xv0) (by simp only [List.getElem?_toArray, List.getElem?_cons_zero]; exact rfl) (by kernel_rfl) (by kernel_rfl) (by kernel_rfl) (fun _ _ _ h => h) (Or.inl ⟨by rfl, ?q2xy0⟩) (by assumption) ?_; (case q2xy0 => (intro w hSw; (try dsimp only at hSw); go_simp; (try with_reducible rfl))); (try simp only [Act.put, List.setIfInBounds_toArray, List.set_cons_zero, List.set_cons_succ]); refine wpAnyH_take (i := 1) (v := ?q2xv1) (by simp only [List.getElem?_toArray, List.getElem?_cons_zero, List.getElem?_cons_succ]; exact rfl) (by kernel_rfl) (by kernel_rfl) (by kernel_rfl) (fun _ _ _ h => h) (Or.inl ⟨by rfl, ?q2xy1⟩) (by assumption) ?_; (case q2xy1 => (intro w hSw; (try dsimp only at hSw); go_simp; (try with_reducible rfl))); (try simp only [Act.put, List.setIfInBounds_toArray, List.set_cons_zero, List.set_cons_succ]); refine wpAnyH_take (i := 2) (v := ?q2xv2) (by simp only [List.getElem?_toArray, List.getElem?_cons_zero, List.getElem?_cons_succ]; exact rfl) (by kernel_rfl) (by kernel_rfl) (by kernel_rfl) (fun _ _ _ h => h) (Or.inl ⟨by rfl, ?q2xy2⟩) (by assumption) ?_; (case q2xy2 => (intro w hSw; (try dsimp only at hSw); go_simp; (try with_reducible rfl))); (try simp only [Act.put, List.setIfInBounds_toArray, List.set_cons_zero, List.set_cons_succ]); refine wpAnyH_take (i := 3) (v := ?q2xv3) (by simp only [List.getElem?_toArray, List.getElem?_cons_zero, List.getElem?_cons_succ]; exact rfl) (by kernel_rfl) (by kernel_rfl) (by kernel_rfl) (fun _ _ _ h => h) (Or.inl ⟨by rfl, ?q2xy3⟩) (by assumption) ?_; (case q2xy3 => (intro w hSw; (try dsimp only at hSw); go_simp; (try with_reducible rfl))); (try simp only [Act.put, List.setIfInBounds_toArray, List.set_cons_zero, List.set_cons_succ]); refine wpAnyH_take (i := 4) (v := ?q2xv4) (by simp only [List.getElem?_toArray, List.getElem?_cons_zero, List.getElem?_cons_succ]; exact rfl) (by kernel_rfl) (by kernel_rfl) (by kernel_rfl) (fun _ _ _ h => h) (Or.inl ⟨by rfl, ?q2xy4⟩) (by assumption) ?_; (case q2xy4 => (intro w hSw; (try dsimp only at hSw); go_simp; (try with_reducible rfl))); (try simp only [Act.put, List.setIfInBounds_toArray, List.set_cons_zero, List.set_cons_succ]); refine wpAnyH_take (i := 5) (v := ?q2xv5) (by simp only [List.getElem?_toArray, List.getElem?_cons_zero, List.getElem?_cons_succ]; exact rfl) (by kernel_rfl) (by kernel_rfl) (by kernel_rfl) (fun _ _ _ h => h) (Or.inl ⟨by rfl, ?q2xy5⟩) (by assumption) ?_; (case q2xy5 => (intro w hSw; (try dsimp only at hSw); go_simp; (try with_reducible rfl))); (try simp only [Act.put, List.setIfInBounds_toArray, List.set_cons_zero, List.set_cons_succ]); refine wpAnyH_take (i := 6) (v := ?q2xv6) (by simp only [List.getElem?_toArray, List.getElem?_cons_zero, List.getElem?_cons_succ]; exact rfl) (by kernel_rfl) (by kernel_rfl) (by kernel_rfl) (fun _ _ _ h => h) (Or.inl ⟨by rfl, ?q2xy6⟩) (by assumption) ?_; (case q2xy6 => (intro w hSw; (try dsimp only at hSw); go_simp; (try with_reducible rfl))); (try simp only [Act.put, List.setIfInBounds_toArray, List.set_cons_zero, List.set_cons_succ]); refine wpAnyH_take (i := 7) (v := ?q2xv7) (by simp only [List.getElem?_toArray, List.getElem?_cons_zero, List.getElem?_cons_succ]; exact rfl) (by kernel_rfl) (by kernel_rfl) (by kernel_rfl) (fun _ _ _ h => h) (Or.inl ⟨by rfl, ?q2xy7⟩) (by assumption) ?_; (case q2xy7 => (intro w hSw; (try dsimp only at hSw); go_simp; (try with_reducible rfl))); (try simp only [Act.put, List.setIfInBounds_toArray, List.set_cons_zero, List.set_cons_succ]); refine wpAnyH_ready (rs := [8]) (by kernel_rfl) (by simp) ?_; refine AllReadyH.cons (by simp only [List.getElem?_toArray, List.getElem?_cons_zero, List.getElem?_cons_succ]; exact rfl) (fun K hK => ?_) AllReadyH.nil; go_simp; refine hK.out _ _ ?q2xs8 (fun hHeld => ?_); (case q2xs8 => ((try dsimp only); (try trivial))); clear hK K; (try simp only [Act.put, List.setIfInBounds_toArray, List.set_cons_zero, List.set_cons_succ]); refine wpAnyH_take (i := 9) (v := ?q2xv9) (by simp only [List.getElem?_toArray, List.getElem?_cons_zero, List.getElem?_cons_succ]; exact rfl) (by kernel_rfl) (by kernel_rfl) (by kernel_rfl) (fun _ _ _ h => h) (Or.inl ⟨by rfl, ?q2xy9⟩) (by assumption) ?_; (case q2xy9 => (intro w hSw; (try dsimp only at hSw); go_simp; (try with_reducible rfl))); (try simp only [Act.put, List.setIfInBounds_toArray, List.set_cons_zero, List.set_cons_succ]); refine wpAnyH_done (by kernel_rfl) ?_ _; refine NoPanic.normal ?_)
  rcases (show kd = 1 ∨ kd = 2 ∨ kd = 3 ∨ kd = 4 ∨ kd = 5 ∨ kd = 6 ∨ kd = 7 ∨ (kd < 1 ∨ 7 < kd) by omega) with rfl | rfl | rfl | rfl | rfl | rfl | rfl | hno
  · obtain rfl : ok = true := by rw [HOK.out]; rfl
    clear HOK
    go_wp2
    refine bodyPost_ret (v := .tuple #[.slice (some ⟨w.heap.size + 1 + 1, 0, none⟩) 1 1, .bool true]) ?_ rfl ⟨_, rfl, RowNew_of_owns (base := w.heap.size) (e := 55) (n := 1) (L := (evF ⟨1, ky, sl, gn, gd, rq, bk, wt⟩ be bg g).map FD.cells) (own_lit (by omega) (by (try simp only [hp_drewN]); first | exact heap_at _ rfl | exact heap_at _ (by simp) | (refine (Below.heap_alloc _ _ _ (by first | omega | (simp; done) | (simp; omega))).trans ?_; first | exact heap_at _ rfl | exact heap_at _ (by simp)) | (refine (Below.heap_alloc _ _ _ (by first | omega | (simp; done) | (simp; omega))).trans ((Below.heap_alloc _ _ _ (by first | omega | (simp; done) | (simp; omega))).trans ?_); first | exact heap_at _ rfl | exact heap_at _ (by simp))) (by decide) rfl) rfl (lenF _), (by repeat (first | (with_reducible exact Below.refl _ _) | (with_reducible assumption) | (with_reducible refine Below.drew ?_) | (with_reducible refine Below_drewN ?_) | (with_reducible refine Below.alloc ?_ (by first | omega | (simp; done) | (simp; omega)) _) | (with_reducible refine Below.setCell ?_ (by first | omega | (simp; done) | (simp; omega)) _) | (with_reducible refine Below.trans ?_ (Below.mono (by assumption) (by first | omega | (simp; done) | (simp; omega))))))⟩
    simp [results, Tryd.results20, go_sem, *]
  · obtain rfl : ok = true := by rw [HOK.out]; rfl
    clear HOK
    go_wp2
    refine bodyPost_ret (v := .tuple #[.slice (some ⟨w.heap.size, 0, none⟩) 2 2, .bool true]) ?_ rfl ⟨_, rfl, RowNew_of_owns (base := w.heap.size) (e := 55) (n := 2) (L := (evF ⟨2, ky, sl, gn, gd, rq, bk, wt⟩ be bg g).map FD.cells) (own_lit (by omega) (by (try simp only [hp_drewN]); first | exact heap_at _ rfl | exact heap_at _ (by simp) | (refine (Below.heap_alloc _ _ _ (by first | omega | (simp; done) | (simp; omega))).trans ?_; first | exact heap_at _ rfl | exact heap_at _ (by simp)) | (refine (Below.heap_alloc _ _ _ (by first | omega | (simp; done) | (simp; omega))).trans ((Below.heap_alloc _ _ _ (by first | omega | (simp; done) | (simp; omega))).trans ?_); first | exact heap_at _ rfl | exact heap_at _ (by simp))) (by decide) rfl) rfl (lenF _), (by repeat (first | (with_reducible exact Below.refl _ _) | (with_reducible assumption) | (with_reducible refine Below.drew ?_) | (with_reducible refine Below_drewN ?_) | (with_reducible refine Below.alloc ?_ (by first | omega | (simp; done) | (simp; omega)) _) | (with_reducible refine Below.setCell ?_ (by first | omega | (simp; done) | (simp; omega)) _) | (with_reducible refine Below.trans ?_ (Below.mono (by assumption) (by first | omega | (simp; done) | (simp; omega))))))⟩
    simp [results, Tryd.results20, go_sem, *]
  · obtain rfl : ok = true := by rw [HOK.out]; rfl
    clear HOK
    go_wp2
    refine bodyPost_ret (v := .tuple #[.slice (some ⟨w.heap.size, 0, none⟩) 2 2, .bool true]) ?_ rfl ⟨_, rfl, RowNew_of_owns (base := w.heap.size) (e := 55) (n := 2) (L := (evF ⟨3, ky, sl, gn, gd, rq, bk, wt⟩ be bg g).map FD.cells) (own_lit (by omega) (by (try simp only [hp_drewN]); first | exact heap_at _ rfl | exact heap_at _ (by simp) | (refine (Below.heap_alloc _ _ _ (by first | omega | (simp; done) | (simp; omega))).trans ?_; first | exact heap_at _ rfl | exact heap_at _ (by simp)) | (refine (Below.heap_alloc _ _ _ (by first | omega | (simp; done) | (simp; omega))).trans ((Below.heap_alloc _ _ _ (by first | omega | (simp; done) | (simp; omega))).trans ?_); first | exact heap_at _ rfl | exact heap_at _ (by simp))) (by decide) rfl) rfl (lenF _), (by repeat (first | (with_reducible exact Below.refl _ _) | (with_reducible assumption) | (with_reducible refine Below.drew ?_) | (with_reducible refine Below_drewN ?_) | (with_reducible refine Below.alloc ?_ (by first | omega | (simp; done) | (simp; omega)) _) | (with_reducible refine Below.setCell ?_ (by first | omega | (simp; done) | (simp; omega)) _) | (with_reducible refine Below.trans ?_ (Below.mono (by assumption) (by first | omega | (simp; done) | (simp; omega))))))⟩
    simp [results, Tryd.results20, go_sem, *]
  · obtain rfl : ok = true := by rw [HOK.out]; rfl
    clear HOK
    have OW := Lib.hid (own_lit (w := (w.alloc (.cells #[.pointer (some ⟨be, 2, none⟩), .int .i64 0, .int .i64 39, .pointer (some ⟨be, 3, none⟩), .int .i64 0, .int .i64 1048576] 55)).alloc (.cells #[.pointer (some ⟨be, 5, none⟩), .int .i64 0, .int .i64 1048576, .pointer (some ⟨be, 6, none⟩), .int .i64 0, .int .i64 11] 55)) (base := w.heap.size) (b := w.heap.size) (n := 2) (T := 55) (sz := 3) (cs := ((evF ⟨2, ky, sl, gn, gd, rq, bk, wt⟩ be bg g).map FD.cells).flatten) (by omega) ((Below.heap_alloc _ _ _ (by simp)).trans (heap_at _ rfl)) (by decide) rfl)
    have HSZ : Hid (w.heap.size + 1 + 1 = ((w.alloc (.cells #[.pointer (some ⟨be, 2, none⟩), .int .i64 0, .int .i64 39, .pointer (some ⟨be, 3, none⟩), .int .i64 0, .int .i64 1048576] 55)).alloc (.cells #[.pointer (some ⟨be, 5, none⟩), .int .i64 0, .int .i64 1048576, .pointer (some ⟨be, 6, none⟩), .int .i64 0, .int .i64 11] 55)).heap.size) := by simp [Hid]
    go_wp2_with (at_builtin; go_loud (refine wpList_append_own _ rfl _ _ 49 rfl w.heap.size 55 i0 (.agg #[.pointer none, .int .i64 0, .int .i64 0]) 3 24 Tryd.underlying49 ji ji0 ji1 ji2 rfl (by decide) _ 2 ((evF ⟨2, ky, sl, gn, gd, rq, bk, wt⟩ be bg g).map FD.cells).flatten rfl ?c5 ⟨w.heap.size + 1 + 1, 0, none⟩ 1 1 [.pointer (some ⟨bg, 0, none⟩), .int .i64 0, .int .i64 1] rfl rfl ?c6 ?c1 ?c2 ?c3 ?c4 ?_))
    case c5 => exact ((OW.out.alloc _).drew).drew
    case c6 => exact news_litD (k := 2) HSZ.out _ 55
    case c1 => intro u hu; simp at hu; rcases hu with rfl | rfl | rfl <;> rfl
    case c2 => unfold maxLen; omega
    case c3 => omega
    case c4 => first | omega | (simp; omega)
    intro v' w1 hown' hgrow _
    obtain ⟨a', cap', rfl, _, _⟩ := owns_shape hown'
    have B1 : Hid (Below w.heap.size w w1) := by
      refine Below.grown ?_ hgrow ?_ ?_
      · (repeat (first | (with_reducible exact Below.refl _ _) | (with_reducible assumption) | (with_reducible refine Below.drew ?_) | (with_reducible refine Below_drewN ?_) | (with_reducible refine Below.alloc ?_ (by first | omega | (simp; done) | (simp; omega)) _) | (with_reducible refine Below.setCell ?_ (by first | omega | (simp; done) | (simp; omega)) _)))
      · first | omega | (simp; omega)
      · intro r hr; simp [Value.ownBlock] at hr; omega
    have O1 : Hid (RowNew w.heap.size w1 3 (.slice a' 3 cap') ((evF ⟨4, ky, sl, gn, gd, rq, bk, wt⟩ be bg g).map FD.cells)) := RowNew_of_owns (e := 55) (n := 3) hown' rfl (lenF _)
    clear hown' hgrow
    have B1' := B1.out
    go_wp2
    refine bodyPost_ret (v := .tuple #[.slice a' 3 cap', .bool true]) ?_ rfl ⟨_, rfl, O1.out, B1'⟩
    simp [results, Tryd.results20, go_sem, *]
  · obtain rfl : ok = true := by rw [HOK.out]; rfl
    clear HOK
    have OW := Lib.hid (own_lit (w := (w.alloc (.cells #[.pointer (some ⟨be, 2, none⟩), .int .i64 0, .int .i64 39, .pointer (some ⟨be, 3, none⟩), .int .i64 0, .int .i64 1048576] 55)).alloc (.cells #[.pointer (some ⟨be, 5, none⟩), .int .i64 0, .int .i64 1048576, .pointer (some ⟨be, 6, none⟩), .int .i64 0, .int .i64 11] 55)) (base := w.heap.size) (b := w.heap.size + 1) (n := 2) (T := 55) (sz := 3) (cs := ((evF ⟨6, ky, sl, gn, gd, rq, bk, wt⟩ be bg g).map FD.cells).flatten) (by omega) (heap_at _ (by simp)) (by decide) rfl)
    have HSZ : Hid (w.heap.size + 1 + 1 = ((w.alloc (.cells #[.pointer (some ⟨be, 2, none⟩), .int .i64 0, .int .i64 39, .pointer (some ⟨be, 3, none⟩), .int .i64 0, .int .i64 1048576] 55)).alloc (.cells #[.pointer (some ⟨be, 5, none⟩), .int .i64 0, .int .i64 1048576, .pointer (some ⟨be, 6, none⟩), .int .i64 0, .int .i64 11] 55)).heap.size) := by simp [Hid]
    go_wp2_with (at_builtin; go_loud (refine wpList_append_own _ rfl _ _ 49 rfl w.heap.size 55 i0 (.agg #[.pointer none, .int .i64 0, .int .i64 0]) 3 24 Tryd.underlying49 ji ji0 ji1 ji2 rfl (by decide) _ 2 ((evF ⟨6, ky, sl, gn, gd, rq, bk, wt⟩ be bg g).map FD.cells).flatten rfl ?c5 ⟨w.heap.size + 1 + 1, 0, none⟩ 1 1 [.pointer (some ⟨be, 7, none⟩), .int .i64 1, .int .i64 8] rfl rfl ?c6 ?c1 ?c2 ?c3 ?c4 ?_))
    case c5 => exact ((OW.out.alloc _).drew).drew
    case c6 => exact news_litD (k := 2) HSZ.out _ 55
    case c1 => intro u hu; simp at hu; rcases hu with rfl | rfl | rfl <;> rfl
    case c2 => unfold maxLen; omega
    case c3 => omega
    case c4 => first | omega | (simp; omega)
    intro v' w1 hown' hgrow _
    obtain ⟨a', cap', rfl, _, _⟩ := owns_shape hown'
    have B1 : Hid (Below w.heap.size w w1) := by
      refine Below.grown ?_ hgrow ?_ ?_
      · (repeat (first | (with_reducible exact Below.refl _ _) | (with_reducible assumption) | (with_reducible refine Below.drew ?_) | (with_reducible refine Below_drewN ?_) | (with_reducible refine Below.alloc ?_ (by first | omega | (simp; done) | (simp; omega)) _) | (with_reducible refine Below.setCell ?_ (by first | omega | (simp; done) | (simp; omega)) _)))
      · first | omega | (simp; omega)
      · intro r hr; simp [Value.ownBlock] at hr; omega
    have O1 : Hid (RowNew w.heap.size w1 3 (.slice a' 3 cap') ((evF ⟨5, ky, sl, gn, gd, rq, bk, wt⟩ be bg g).map FD.cells)) := RowNew_of_owns (e := 55) (n := 3) hown' rfl (lenF _)
    clear hown' hgrow
    have B1' := B1.out
    go_wp2
    refine bodyPost_ret (v := .tuple #[.slice a' 3 cap', .bool true]) ?_ rfl ⟨_, rfl, O1.out, B1'⟩
    simp [results, Tryd.results20, go_sem, *]
  · obtain rfl : ok = true := by rw [HOK.out]; rfl
    clear HOK
    go_wp2
    refine bodyPost_ret (v := .tuple #[.slice (some ⟨w.heap.size + 1, 0, none⟩) 2 2, .bool true]) ?_ rfl ⟨_, rfl, RowNew_of_owns (base := w.heap.size) (e := 55) (n := 2) (L := (evF ⟨6, ky, sl, gn, gd, rq, bk, wt⟩ be bg g).map FD.cells) (own_lit (by omega) (by (try simp only [hp_drewN]); first | exact heap_at _ rfl | exact heap_at _ (by simp) | (refine (Below.heap_alloc _ _ _ (by first | omega | (simp; done) | (simp; omega))).trans ?_; first | exact heap_at _ rfl | exact heap_at _ (by simp)) | (refine (Below.heap_alloc _ _ _ (by first | omega | (simp; done) | (simp; omega))).trans ((Below.heap_alloc _ _ _ (by first | omega | (simp; done) | (simp; omega))).trans ?_); first | exact heap_at _ rfl | exact heap_at _ (by simp))) (by decide) rfl) rfl (lenF _), (by repeat (first | (with_reducible exact Below.refl _ _) | (with_reducible assumption) | (with_reducible refine Below.drew ?_) | (with_reducible refine Below_drewN ?_) | (with_reducible refine Below.alloc ?_ (by first | omega | (simp; done) | (simp; omega)) _) | (with_reducible refine Below.setCell ?_ (by first | omega | (simp; done) | (simp; omega)) _) | (with_reducible refine Below.trans ?_ (Below.mono (by assumption) (by first | omega | (simp; done) | (simp; omega))))))⟩
    simp [results, Tryd.results20, go_sem, *]
  · obtain rfl : ok = true := by rw [HOK.out]; rfl
    clear HOK
    go_wp2
    refine bodyPost_ret (v := .tuple #[.slice none 0 0, .bool true]) ?_ rfl ⟨_, rfl, RowNew_nil _ _ _, (by repeat (first | (with_reducible exact Below.refl _ _) | (with_reducible assumption) | (with_reducible refine Below.drew ?_) | (with_reducible refine Below_drewN ?_) | (with_reducible refine Below.alloc ?_ (by first | omega | (simp; done) | (simp; omega)) _) | (with_reducible refine Below.setCell ?_ (by first | omega | (simp; done) | (simp; omega)) _) | (with_reducible refine Below.trans ?_ (Below.mono (by assumption) (by first | omega | (simp; done) | (simp; omega))))))⟩
    simp [results, Tryd.results20, go_sem, *]
  · obtain rfl : ok = false := by rw [HOK.out]; simp; omega
    have HE : Hid (evF ⟨kd, ky, sl, gn, gd, rq, bk, wt⟩ be bg g = []) := by
      show _ = _
      unfold evF
      simp only
      rw [if_neg (by omega), if_neg (by omega), if_neg (by omega), if_neg (by omega), if_neg (by omega)]
    have e1 : (kd == 1) = false := by simp; omega
    have e2 : (kd == 2) = false := by simp; omega
    have e3 : (kd == 3) = false := by simp; omega
    have e4 : (kd == 4) = false := by simp; omega
    have e5 : (kd == 5) = false := by simp; omega
    have e6 : (kd == 6) = false := by simp; omega
    have e7 : (kd == 7) = false := by simp; omega
    clear HOK hno
    go_wp2
    refine bodyPost_ret (v := .tuple #[.slice none 0 0, .bool false]) ?_ rfl ⟨_, rfl, by rw [HE.out]; exact RowNew_nil _ _ _, (by repeat (first | (with_reducible exact Below.refl _ _) | (with_reducible assumption) | (with_reducible refine Below.drew ?_) | (with_reducible refine Below_drewN ?_) | (with_reducible refine Below.alloc ?_ (by first | omega | (simp; done) | (simp; omega)) _) | (with_reducible refine Below.setCell ?_ (by first | omega | (simp; done) | (simp; omega)) _) | (with_reducible refine Below.trans ?_ (Below.mono (by assumption) (by first | omega | (simp; done) | (simp; omega))))))⟩
    simp [results, Tryd.results20, go_sem, *]
end Go.Proofs.YtnebijdifemicaaDoor
