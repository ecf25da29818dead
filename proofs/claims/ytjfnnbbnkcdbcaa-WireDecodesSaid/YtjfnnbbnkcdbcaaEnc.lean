/- wire.Encode: its contract. -/
import Derived.Test.YtjfnnbbnkcdbcaaNumB
namespace Go.Proofs.Ytjfnnbbnkcdbcaa
open Go.RowKit

def encV (V : List Int) (k : Nat) : List Int := (V.take k).flatMap fun v => encN v.toNat
theorem encV_snoc {F : List FD} {k : Nat} {f : FD} (hk : k < F.length) (hf : f = F.getD k FD.zero) : encV (F.map FD.val) (k + 1) = encV (F.map FD.val) k ++ encN f.val.toNat := by
  unfold encV
  rw [List.take_succ_eq_append_getElem (by simpa using hk), List.flatMap_append]
  congr 1
  rw [hf]
  simp [List.getD, hk]
theorem encV_all (V : List Int) {k : Nat} (h : V.length = k) : encV V k = V.flatMap fun v => encN v.toNat := by unfold encV; rw [List.take_of_length_le (by omega)]
theorem encV_len (V : List Int) (h : ∀ v ∈ V, v.toNat < 34359738368) (k : Nat) : (encV V k).length ≤ 5 * k := by
  unfold encV
  induction V generalizing k with
  | nil => simp
  | cons v V ih =>
    cases k with
    | zero => simp
    | succ k =>
      have h1 := ih (fun x hx => h x (List.mem_cons_of_mem _ hx)) k
      have h2 := encN_len 4 v.toNat (by simpa using h v List.mem_cons_self)
      simp only [List.take_succ_cons, List.flatMap_cons, List.length_append]
      omega
/-- An event's bytes (P2.2). -/
def encE (x : Ev) : List Int := x.kind :: ((evF x 0 0 (gdI x.good)).map FD.val).flatMap fun v => encN v.toNat
theorem evF_val (x : Ev) (be bg : Nat) (g : Int) : (evF x be bg g).map FD.val = (evF x 0 0 g).map FD.val := by
  unfold evF
  repeat' split
  all_goals rfl
theorem evF_bd (x : Ev) (be bg : Nat) (g : Int) : ∀ f ∈ evF x be bg g, 0 ≤ f.lo ∧ f.hi ≤ 4294967295 := by
  intro f hf
  unfold evF at hf
  repeat' split at hf
  all_goals simp at hf
  · subst hf; simp
  · rcases hf with rfl | rfl <;> simp
  · rcases hf with rfl | rfl | rfl <;> simp
  · rcases hf with rfl | rfl | rfl <;> simp
  · rcases hf with rfl | rfl <;> simp
theorem evF_ing {x : Ev} (h : 1 ≤ x.kind ∧ x.kind ≤ 7) (be bg : Nat) (hi : EvIn x) : ∀ f ∈ evF x be bg (gdI x.good), InF f := by
  obtain ⟨kd, ky, sl, gn, gd, rq, bk, wt⟩ := x
  revert hi
  rcases kinds h with h | h | h | h | h | h | h <;> simp only at h <;> subst h <;> cases gd <;> simp [EvIn, evF, InF, gdI]
def EncPost (w : World) (x : Ev) (code : Int) (e : Ending) (w' : World) : Prop := ∃ v, e = .returned (.tuple #[v, .int .i64 code]) ∧ RowAt w' 1 v (byts (if code = 0 then encE x else [])) ∧ Below w.heap.size w w'
theorem byts_len (L : List Int) : ∀ c ∈ byts L, c.length = 1 := by
  intro c hc; simp only [byts, List.mem_map] at hc; obtain ⟨x, _, rfl⟩ := hc; rfl
theorem own_byts {B : Nat} {w : World} {v : Value} {L : List Int} {n : Nat} (h : w.ownsRow B 5 1 v n (flatB L)) (hn : n = L.length) : RowAt w 1 v (byts L) := by
  subst hn
  exact (RowNew_of_owns (L := byts L) (by rw [flat_byts]; exact h) (by simp [byts]) (byts_len L)).1

set_option maxHeartbeats 8000000 in
set_option maxRecDepth 100000 in
theorem prog_Encode_bad (kd ky sl gn : Int) (gd : Bool) (rq bk wt : Int) (code : Int) (w : World) (h : EvCode ⟨kd, ky, sl, gn, gd, rq, bk, wt⟩ code) (hc : code ≠ 0) :
    Calls Try.prog 11 #[.agg #[.int .i64 kd, .int .i64 ky, .int .i64 sl, .int .i64 gn, .bool gd, .int .i64 rq, .int .i64 bk, .int .i64 wt]] w (EncPost w ⟨kd, ky, sl, gn, gd, rq, bk, wt⟩ code) := by
  have HC := Lib.hid h
  have e1 : (code == 0) = false := by simpa using hc
  have e2 : (code != 0) = true := by simpa using hc
  have HN := Lib.hid hc
  clear h hc
  go_enter Try.func11, Try.ntmps11
  go_wp2_with ((go_at_call 9; refine (prog_WCheck kd ky sl gn gd rq bk wt code _ HC.out).mono ?_; rintro e w1 ⟨rfl, hb1⟩; obtain ⟨hc1, hf1⟩ := bcell hb1; have hz1 := blt hb1; have hy1 := hb1.size; (try simp at hy1)))
  all_goals first | (refine bodyPost_ret (v := .tuple #[.slice none 0 0, .int .i64 code]) ?_ rfl ⟨_, rfl, by rw [if_neg HN.out]; exact RowAt_nil _ _, (by repeat (first | (with_reducible exact Below.refl _ _) | (with_reducible assumption) | (with_reducible refine Below.drew ?_) | (with_reducible refine Below_drewN ?_) | (with_reducible refine Below.alloc ?_ (by first | omega | (simp; done) | (simp; omega)) _) | (with_reducible refine Below.setCell ?_ (by first | omega | (simp; done) | (simp; omega)) _) | (with_reducible refine Below.trans ?_ (Below.mono (by assumption) (by first | omega | (simp; done) | (simp; omega))))))⟩; simp [results, Try.results11, go_sem, *]; done) | (exfalso; first | omega | (simp at *; omega) | (simp at *; done))

set_option maxHeartbeats 8000000 in
set_option maxRecDepth 100000 in
theorem prog_Encode_false (kd ky sl gn rq bk wt : Int) (w : World) (h : EvCode ⟨kd, ky, sl, gn, false, rq, bk, wt⟩ 0) :
    Calls Try.prog 11 #[.agg #[.int .i64 kd, .int .i64 ky, .int .i64 sl, .int .i64 gn, .bool false, .int .i64 rq, .int .i64 bk, .int .i64 wt]] w (EncPost w ⟨kd, ky, sl, gn, false, rq, bk, wt⟩ 0) := by
  have HC := Lib.hid h
  have hyes : 1 ≤ kd ∧ kd ≤ 7 := by
    rcases h with ⟨_, h⟩ | ⟨_, _, h⟩ | ⟨_, _, _, h⟩ | ⟨h, _⟩
    · omega
    · omega
    · omega
    · exact h
  have hin : EvIn ⟨kd, ky, sl, gn, false, rq, bk, wt⟩ := by
    rcases h with ⟨_, h⟩ | ⟨_, _, h⟩ | ⟨_, _, _, h⟩ | ⟨_, h, _⟩
    · omega
    · omega
    · omega
    · exact h
  obtain ⟨i0, ji, ji0, ji1, ji2⟩ := info_parts info_u8
  have HOK : Hid (true = decide (1 ≤ kd ∧ kd ≤ 7)) := by show true = _; simp [hyes]
  have HY := Lib.hid hyes
  have HI := Lib.hid hin
  clear h hyes hin
  go_enter Try.func11, Try.ntmps11
  go_wp2_with (go_at_call 9; refine (prog_WCheck kd ky sl gn false rq bk wt 0 _ HC.out).mono ?_; rintro e wc ⟨rfl, hbc⟩; obtain ⟨hcc, hfc⟩ := bcell hbc; have hzc := blt hbc; have hyc := hbc.size; (try simp at hyc))
  have xc := blk_below hbc (heap_at (w := w) (.cells #[.int .i64 kd, .int .i64 ky, .int .i64 sl, .int .i64 gn, .bool false, .int .i64 rq, .int .i64 bk, .int .i64 wt] 23) rfl) (by first | omega | (simp; done) | (simp; omega))
  have BC := Lib.hid (((Below.refl w.heap.size w).alloc (Nat.le_refl _) (.cells #[.int .i64 kd, .int .i64 ky, .int .i64 sl, .int .i64 gn, .bool false, .int .i64 rq, .int .i64 bk, .int .i64 wt] 23)).trans (hbc.mono (by first | omega | (simp; done) | (simp; omega))))
  have XC := Lib.hid xc
  have HG : Hid ((wc.alloc (.cells #[.int .i64 0] 3)).heap[wc.heap.size]? = some (.cells #[.int .i64 0] 3 (0, 0))) := by
    exact heap_at _ rfl
  have HX : Hid ((wc.alloc (.cells #[.int .i64 0] 3)).heap[w.heap.size]? = some (.cells #[.int .i64 kd, .int .i64 ky, .int .i64 sl, .int .i64 gn, .bool false, .int .i64 rq, .int .i64 bk, .int .i64 wt] 23 (0, 0))) := by
    exact (Below.heap_alloc _ _ _ (by first | omega | (simp; done) | (simp; omega))).trans XC.out
  have HBX : Hid (Below w.heap.size w (wc.alloc (.cells #[.int .i64 0] 3))) := by
    exact BC.out.alloc BC.out.size _
  have HF := Lib.hid (prog_fields ⟨kd, ky, sl, gn, false, rq, bk, wt⟩ w.heap.size wc.heap.size 0 true (wc.alloc (.cells #[.int .i64 0] 3)) ((blk_cell HX.out 0).trans rfl) HOK.out)
  have HSX : Hid ((wc.alloc (.cells #[.int .i64 0] 3)).heap.size = wc.heap.size + 1) := by show _ = _; simp
  clear hbc xc hcc hfc
  refine HF.out.mono ?_
  rintro e w1 ⟨v1, rfl, R1, hb1⟩
  have hs1 := HSX.out
  have B1 := Lib.hid (HBX.out.trans (hb1.mono HBX.out.size))
  have x0 := Lib.hid (blk_below hb1 HX.out (by omega))
  have x1 := Lib.hid (blk_below hb1 HG.out (by omega))
  have hs2 := hb1.size
  rw [hs1] at hs2
  have m1 : w.heap.size < w1.heap.size := by omega
  have HAt := Lib.hid (fd_at (x := ⟨kd, ky, sl, gn, false, rq, bk, wt⟩) (g := 0) HY.out x0.out ((blk_cell x1.out 0).trans rfl))
  have HSp := Lib.hid (fd_spot (x := ⟨kd, ky, sl, gn, false, rq, bk, wt⟩) (be := w.heap.size) (bg := wc.heap.size) (g := 0))
  have HIn : Hid (∀ f ∈ evF ⟨kd, ky, sl, gn, false, rq, bk, wt⟩ w.heap.size wc.heap.size 0, 0 ≤ f.val ∧ f.val < 4294967296) := by
    intro f hf
    have h1 := evF_bd _ _ _ _ f hf
    have h2 := evF_ing (x := ⟨kd, ky, sl, gn, false, rq, bk, wt⟩) HY.out _ _ HI.out f hf
    unfold InF at h2
    omega
  have HV : Hid ((evF ⟨kd, ky, sl, gn, false, rq, bk, wt⟩ w.heap.size wc.heap.size 0).map FD.val = (evF ⟨kd, ky, sl, gn, false, rq, bk, wt⟩ 0 0 0).map FD.val) := evF_val _ _ _ _
  have hlen := evF_len ⟨kd, ky, sl, gn, false, rq, bk, wt⟩ w.heap.size wc.heap.size 0
  clear hb1 HF HG HX HBX HSX HC BC XC
  generalize evF ⟨kd, ky, sl, gn, false, rq, bk, wt⟩ w.heap.size wc.heap.size 0 = F at R1 HAt HSp HIn hlen HV
  obtain ⟨a, cap, rfl, _, _, _, p⟩ := RowAt_fn FD.zero R1.1
  have P := Lib.hid p
  have d0 := blk_cell x0.out 0
  simp at d0
  have hkm : kd % 256 = kd := by have := HY.out; omega
  clear R1 p hs1
  go_wp2_with fail
  go_loopw [8, 28] (fun b i wr => ∃ (k : Nat) (ab : Option Addr) (cb : Nat), k ≤ F.length ∧ b = .slice ab ((encV (F.map FD.val) k).length + 1) cb ∧ i = .int .i64 k ∧ Below w1.heap.size w1 wr ∧ wr.ownsRow w1.heap.size 5 1 (.slice ab ((encV (F.map FD.val) k).length + 1) cb) ((encV (F.map FD.val) k).length + 1) (flatB (kd :: encV (F.map FD.val) k))) (fun _ i _ => F.length - (intOf i).toNat)
  case atStart => exact ⟨0, _, _, Nat.zero_le _, rfl, rfl, (Below.refl _ _).alloc (Nat.le_refl _) _, own_lit (n := 1) (sz := 1) (cs := [.int .u8 kd]) (Nat.le_refl _) (heap_at _ rfl) (by unfold maxLen; omega) rfl⟩
  case round =>
    obtain ⟨k, ab, cb, hk, rfl, rfl, hb, hown⟩ := hrel
    have HB := Lib.hid hb
    have HO := Lib.hid hown
    have hL : (encV (F.map FD.val) k).length ≤ 15 := Nat.le_trans (encV_len _ (by intro v hv; obtain ⟨f, hf, rfl⟩ := List.mem_map.1 hv; have := HIn.out f hf; omega) k) (by omega)
    have hsz := hb.size
    clear hown
    rcases (show k < F.length ∨ F.length = k by omega) with hlt | heq
    · have hlt' : (k : Int) < (F.length : Int) := by omega
      obtain ⟨b0, o0, rfl, hb0, q⟩ := P.out (by intro h; rw [h] at hlt; simp at hlt)
      obtain ⟨f, hf⟩ : ∃ f, f = F.getD k FD.zero := ⟨_, rfl⟩
      have hmem : f ∈ F := by rw [hf]; simp only [List.getD, List.getElem?_eq_getElem hlt, Option.getD_some]; exact List.getElem_mem _
      have hold : ∀ j, j < 3 → wr.cell? ⟨b0, o0 + k * 3 + j, none⟩ = f.cells[j]? := fun j hj => by
        rw [hb.cell (p := ⟨b0, o0 + k * 3 + j, none⟩) hb0, hf]; exact q k j hlt hj
      have a0 := hold 0 (by omega)
      have a1 := hold 1 (by omega)
      have a2 := hold 2 (by omega)
      obtain ⟨l3, v3⟩ := HAt.out f hmem
      obtain ⟨bb, oo, hsp⟩ := HSp.out f hmem
      have hr := HIn.out f hmem
      have HSn := Lib.hid (encV_snoc hlt hf)
      clear hold hf q hmem
      obtain ⟨fa, lo, hi, vl⟩ := f
      simp only at hsp l3 v3 hr
      subst hsp
      simp only [FD.cells, List.getElem?_cons_zero, List.getElem?_cons_succ, Nat.add_zero] at a0 a1 a2
      simp only at l3
      obtain ⟨n, rfl⟩ : ∃ n : Nat, vl = (n : Int) := ⟨vl.toNat, by omega⟩
      have a3 : wr.cell? ⟨bb, oo, none⟩ = some (.int .i64 n) := (hb.cell (p := ⟨bb, oo, none⟩) l3).trans v3
      have lb : b0 < wr.heap.size := cell_lt a0
      have l4 : bb < wr.heap.size := cell_lt a3
      have HN : Hid (n < 34359738368) := by show n < _; omega
      clear hb v3 hr
      go_wp2_with (go_at_call 33; refine (prog_put w1.heap.size ab cb (kd :: encV (F.map FD.val) k) n _ ?c1 HN.out ?c2 ?c3).mono ?_)
      case c1 => first | omega | (simp; omega)
      case c2 => first | omega | (simp; omega)
      case c3 => exact own_keep HO.out (by repeat (first | (with_reducible exact Below.refl _ _) | (with_reducible assumption) | (with_reducible refine Below.drew ?_) | (with_reducible refine Below_drewN ?_) | (with_reducible refine Below.alloc ?_ (by first | omega | (simp; done) | (simp; omega)) _) | (with_reducible refine Below.setCell ?_ (by first | omega | (simp; done) | (simp; omega)) _) | (with_reducible refine Below.trans ?_ (Below.mono (by assumption) (by first | omega | (simp; done) | (simp; omega))))))
      rintro e w2 ⟨v2, rfl, hown2, hb2⟩
      obtain ⟨a2', cap2, rfl, _, _⟩ := owns_shape hown2
      have HB2 := Lib.hid ((HB.out.alloc HB.out.size _).trans hb2)
      have HO2 : Hid (w2.ownsRow w1.heap.size 5 1 (.slice a2' ((kd :: encV (F.map FD.val) k) ++ encN n).length cap2) ((encV (F.map FD.val) (k + 1)).length + 1) (flatB (kd :: encV (F.map FD.val) (k + 1)))) := by
        show World.ownsRow _ _ _ _ _ _ _
        have e := HSn.out
        simp only [Int.toNat_natCast] at e
        have := hown2
        simp only [List.cons_append, ← e, List.length_cons] at this ⊢
        exact this
      have HLn : Hid (((kd :: encV (F.map FD.val) k) ++ encN n).length = (encV (F.map FD.val) (k + 1)).length + 1) := by
        show _ = _
        have e := HSn.out
        simp only [Int.toNat_natCast] at e
        rw [List.cons_append, ← e]
        rfl
      clear hown2 hb2
      go_wp2
      go_roundw
      case rel =>
        have hln := HLn.out
        have ho := HO2.out
        rw [hln] at ho
        refine ⟨k + 1, a2', cap2, by omega, ?_, by go_num, HB2.out, ho⟩
        simpa using hln
      case measure => simp [intOf]; omega
    · have hge : ¬ (k : Int) < (F.length : Int) := by omega
      have HBw := Lib.hid (B1.out.trans (hb.mono (by omega)))
      have HR : Hid (RowAt wr 1 (.slice ab ((encV (F.map FD.val) k).length + 1) cb) (byts (encE ⟨kd, ky, sl, gn, false, rq, bk, wt⟩))) := by
        have := HO.out
        have e : kd :: encV (F.map FD.val) k = encE ⟨kd, ky, sl, gn, false, rq, bk, wt⟩ := by
          unfold encE
          rw [encV_all _ (by simpa using heq), HV.out]
          rfl
        rw [e] at this
        exact own_byts this (by rw [← e]; rfl)
      clear hb
      go_wp2
      refine bodyPost_ret (v := .tuple #[.slice ab ((encV (F.map FD.val) k).length + 1) cb, .int .i64 0]) ?_ rfl ⟨_, rfl, by rw [if_pos rfl]; exact HR.out, HBw.out⟩
      simp [results, Try.results11, go_sem, *]

set_option maxHeartbeats 8000000 in
set_option maxRecDepth 100000 in
theorem prog_Encode_true (kd ky sl gn rq bk wt : Int) (w : World) (h : EvCode ⟨kd, ky, sl, gn, true, rq, bk, wt⟩ 0) :
    Calls Try.prog 11 #[.agg #[.int .i64 kd, .int .i64 ky, .int .i64 sl, .int .i64 gn, .bool true, .int .i64 rq, .int .i64 bk, .int .i64 wt]] w (EncPost w ⟨kd, ky, sl, gn, true, rq, bk, wt⟩ 0) := by
  have HC := Lib.hid h
  have hyes : 1 ≤ kd ∧ kd ≤ 7 := by
    rcases h with ⟨_, h⟩ | ⟨_, _, h⟩ | ⟨_, _, _, h⟩ | ⟨h, _⟩
    · omega
    · omega
    · omega
    · exact h
  have hin : EvIn ⟨kd, ky, sl, gn, true, rq, bk, wt⟩ := by
    rcases h with ⟨_, h⟩ | ⟨_, _, h⟩ | ⟨_, _, _, h⟩ | ⟨_, h, _⟩
    · omega
    · omega
    · omega
    · exact h
  obtain ⟨i0, ji, ji0, ji1, ji2⟩ := info_parts info_u8
  have HOK : Hid (true = decide (1 ≤ kd ∧ kd ≤ 7)) := by show true = _; simp [hyes]
  have HY := Lib.hid hyes
  have HI := Lib.hid hin
  clear h hyes hin
  go_enter Try.func11, Try.ntmps11
  go_wp2_with (go_at_call 9; refine (prog_WCheck kd ky sl gn true rq bk wt 0 _ HC.out).mono ?_; rintro e wc ⟨rfl, hbc⟩; obtain ⟨hcc, hfc⟩ := bcell hbc; have hzc := blt hbc; have hyc := hbc.size; (try simp at hyc))
  have xc := blk_below hbc (heap_at (w := w) (.cells #[.int .i64 kd, .int .i64 ky, .int .i64 sl, .int .i64 gn, .bool true, .int .i64 rq, .int .i64 bk, .int .i64 wt] 23) rfl) (by first | omega | (simp; done) | (simp; omega))
  have BC := Lib.hid (((Below.refl w.heap.size w).alloc (Nat.le_refl _) (.cells #[.int .i64 kd, .int .i64 ky, .int .i64 sl, .int .i64 gn, .bool true, .int .i64 rq, .int .i64 bk, .int .i64 wt] 23)).trans (hbc.mono (by first | omega | (simp; done) | (simp; omega))))
  have XC := Lib.hid xc
  have HG : Hid ((wc.alloc (.cells #[.int .i64 1] 3)).heap[wc.heap.size]? = some (.cells #[.int .i64 1] 3 (0, 0))) := by
    exact heap_at _ rfl
  have HX : Hid ((wc.alloc (.cells #[.int .i64 1] 3)).heap[w.heap.size]? = some (.cells #[.int .i64 kd, .int .i64 ky, .int .i64 sl, .int .i64 gn, .bool true, .int .i64 rq, .int .i64 bk, .int .i64 wt] 23 (0, 0))) := by
    exact (Below.heap_alloc _ _ _ (by first | omega | (simp; done) | (simp; omega))).trans XC.out
  have HBX : Hid (Below w.heap.size w (wc.alloc (.cells #[.int .i64 1] 3))) := by
    exact BC.out.alloc BC.out.size _
  have HF := Lib.hid (prog_fields ⟨kd, ky, sl, gn, true, rq, bk, wt⟩ w.heap.size wc.heap.size 1 true (wc.alloc (.cells #[.int .i64 1] 3)) ((blk_cell HX.out 0).trans rfl) HOK.out)
  have HSX : Hid ((wc.alloc (.cells #[.int .i64 1] 3)).heap.size = wc.heap.size + 1) := by show _ = _; simp
  clear hbc xc hcc hfc
  refine HF.out.mono ?_
  rintro e w1 ⟨v1, rfl, R1, hb1⟩
  have hs1 := HSX.out
  have B1 := Lib.hid (HBX.out.trans (hb1.mono HBX.out.size))
  have x0 := Lib.hid (blk_below hb1 HX.out (by omega))
  have x1 := Lib.hid (blk_below hb1 HG.out (by omega))
  have hs2 := hb1.size
  rw [hs1] at hs2
  have m1 : w.heap.size < w1.heap.size := by omega
  have HAt := Lib.hid (fd_at (x := ⟨kd, ky, sl, gn, true, rq, bk, wt⟩) (g := 1) HY.out x0.out ((blk_cell x1.out 0).trans rfl))
  have HSp := Lib.hid (fd_spot (x := ⟨kd, ky, sl, gn, true, rq, bk, wt⟩) (be := w.heap.size) (bg := wc.heap.size) (g := 1))
  have HIn : Hid (∀ f ∈ evF ⟨kd, ky, sl, gn, true, rq, bk, wt⟩ w.heap.size wc.heap.size 1, 0 ≤ f.val ∧ f.val < 4294967296) := by
    intro f hf
    have h1 := evF_bd _ _ _ _ f hf
    have h2 := evF_ing (x := ⟨kd, ky, sl, gn, true, rq, bk, wt⟩) HY.out _ _ HI.out f hf
    unfold InF at h2
    omega
  have HV : Hid ((evF ⟨kd, ky, sl, gn, true, rq, bk, wt⟩ w.heap.size wc.heap.size 1).map FD.val = (evF ⟨kd, ky, sl, gn, true, rq, bk, wt⟩ 0 0 1).map FD.val) := evF_val _ _ _ _
  have hlen := evF_len ⟨kd, ky, sl, gn, true, rq, bk, wt⟩ w.heap.size wc.heap.size 1
  clear hb1 HF HG HX HBX HSX HC BC XC
  generalize evF ⟨kd, ky, sl, gn, true, rq, bk, wt⟩ w.heap.size wc.heap.size 1 = F at R1 HAt HSp HIn hlen HV
  obtain ⟨a, cap, rfl, _, _, _, p⟩ := RowAt_fn FD.zero R1.1
  have P := Lib.hid p
  have d0 := blk_cell x0.out 0
  simp at d0
  have hkm : kd % 256 = kd := by have := HY.out; omega
  clear R1 p hs1
  go_wp2_with fail
  go_loopw [8, 28] (fun b i wr => ∃ (k : Nat) (ab : Option Addr) (cb : Nat), k ≤ F.length ∧ b = .slice ab ((encV (F.map FD.val) k).length + 1) cb ∧ i = .int .i64 k ∧ Below w1.heap.size w1 wr ∧ wr.ownsRow w1.heap.size 5 1 (.slice ab ((encV (F.map FD.val) k).length + 1) cb) ((encV (F.map FD.val) k).length + 1) (flatB (kd :: encV (F.map FD.val) k))) (fun _ i _ => F.length - (intOf i).toNat)
  case atStart => exact ⟨0, _, _, Nat.zero_le _, rfl, rfl, (Below.refl _ _).alloc (Nat.le_refl _) _, own_lit (n := 1) (sz := 1) (cs := [.int .u8 kd]) (Nat.le_refl _) (heap_at _ rfl) (by unfold maxLen; omega) rfl⟩
  case round =>
    obtain ⟨k, ab, cb, hk, rfl, rfl, hb, hown⟩ := hrel
    have HB := Lib.hid hb
    have HO := Lib.hid hown
    have hL : (encV (F.map FD.val) k).length ≤ 15 := Nat.le_trans (encV_len _ (by intro v hv; obtain ⟨f, hf, rfl⟩ := List.mem_map.1 hv; have := HIn.out f hf; omega) k) (by omega)
    have hsz := hb.size
    clear hown
    rcases (show k < F.length ∨ F.length = k by omega) with hlt | heq
    · have hlt' : (k : Int) < (F.length : Int) := by omega
      obtain ⟨b0, o0, rfl, hb0, q⟩ := P.out (by intro h; rw [h] at hlt; simp at hlt)
      obtain ⟨f, hf⟩ : ∃ f, f = F.getD k FD.zero := ⟨_, rfl⟩
      have hmem : f ∈ F := by rw [hf]; simp only [List.getD, List.getElem?_eq_getElem hlt, Option.getD_some]; exact List.getElem_mem _
      have hold : ∀ j, j < 3 → wr.cell? ⟨b0, o0 + k * 3 + j, none⟩ = f.cells[j]? := fun j hj => by
        rw [hb.cell (p := ⟨b0, o0 + k * 3 + j, none⟩) hb0, hf]; exact q k j hlt hj
      have a0 := hold 0 (by omega)
      have a1 := hold 1 (by omega)
      have a2 := hold 2 (by omega)
      obtain ⟨l3, v3⟩ := HAt.out f hmem
      obtain ⟨bb, oo, hsp⟩ := HSp.out f hmem
      have hr := HIn.out f hmem
      have HSn := Lib.hid (encV_snoc hlt hf)
      clear hold hf q hmem
      obtain ⟨fa, lo, hi, vl⟩ := f
      simp only at hsp l3 v3 hr
      subst hsp
      simp only [FD.cells, List.getElem?_cons_zero, List.getElem?_cons_succ, Nat.add_zero] at a0 a1 a2
      simp only at l3
      obtain ⟨n, rfl⟩ : ∃ n : Nat, vl = (n : Int) := ⟨vl.toNat, by omega⟩
      have a3 : wr.cell? ⟨bb, oo, none⟩ = some (.int .i64 n) := (hb.cell (p := ⟨bb, oo, none⟩) l3).trans v3
      have lb : b0 < wr.heap.size := cell_lt a0
      have l4 : bb < wr.heap.size := cell_lt a3
      have HN : Hid (n < 34359738368) := by show n < _; omega
      clear hb v3 hr
      go_wp2_with (go_at_call 33; refine (prog_put w1.heap.size ab cb (kd :: encV (F.map FD.val) k) n _ ?c1 HN.out ?c2 ?c3).mono ?_)
      case c1 => first | omega | (simp; omega)
      case c2 => first | omega | (simp; omega)
      case c3 => exact own_keep HO.out (by repeat (first | (with_reducible exact Below.refl _ _) | (with_reducible assumption) | (with_reducible refine Below.drew ?_) | (with_reducible refine Below_drewN ?_) | (with_reducible refine Below.alloc ?_ (by first | omega | (simp; done) | (simp; omega)) _) | (with_reducible refine Below.setCell ?_ (by first | omega | (simp; done) | (simp; omega)) _) | (with_reducible refine Below.trans ?_ (Below.mono (by assumption) (by first | omega | (simp; done) | (simp; omega))))))
      rintro e w2 ⟨v2, rfl, hown2, hb2⟩
      obtain ⟨a2', cap2, rfl, _, _⟩ := owns_shape hown2
      have HB2 := Lib.hid ((HB.out.alloc HB.out.size _).trans hb2)
      have HO2 : Hid (w2.ownsRow w1.heap.size 5 1 (.slice a2' ((kd :: encV (F.map FD.val) k) ++ encN n).length cap2) ((encV (F.map FD.val) (k + 1)).length + 1) (flatB (kd :: encV (F.map FD.val) (k + 1)))) := by
        show World.ownsRow _ _ _ _ _ _ _
        have e := HSn.out
        simp only [Int.toNat_natCast] at e
        have := hown2
        simp only [List.cons_append, ← e, List.length_cons] at this ⊢
        exact this
      have HLn : Hid (((kd :: encV (F.map FD.val) k) ++ encN n).length = (encV (F.map FD.val) (k + 1)).length + 1) := by
        show _ = _
        have e := HSn.out
        simp only [Int.toNat_natCast] at e
        rw [List.cons_append, ← e]
        rfl
      clear hown2 hb2
      go_wp2
      go_roundw
      case rel =>
        have hln := HLn.out
        have ho := HO2.out
        rw [hln] at ho
        refine ⟨k + 1, a2', cap2, by omega, ?_, by go_num, HB2.out, ho⟩
        simpa using hln
      case measure => simp [intOf]; omega
    · have hge : ¬ (k : Int) < (F.length : Int) := by omega
      have HBw := Lib.hid (B1.out.trans (hb.mono (by omega)))
      have HR : Hid (RowAt wr 1 (.slice ab ((encV (F.map FD.val) k).length + 1) cb) (byts (encE ⟨kd, ky, sl, gn, true, rq, bk, wt⟩))) := by
        have := HO.out
        have e : kd :: encV (F.map FD.val) k = encE ⟨kd, ky, sl, gn, true, rq, bk, wt⟩ := by
          unfold encE
          rw [encV_all _ (by simpa using heq), HV.out]
          rfl
        rw [e] at this
        exact own_byts this (by rw [← e]; rfl)
      clear hb
      go_wp2
      refine bodyPost_ret (v := .tuple #[.slice ab ((encV (F.map FD.val) k).length + 1) cb, .int .i64 0]) ?_ rfl ⟨_, rfl, by rw [if_pos rfl]; exact HR.out, HBw.out⟩
      simp [results, Try.results11, go_sem, *]
end Go.Proofs.Ytjfnnbbnkcdbcaa
