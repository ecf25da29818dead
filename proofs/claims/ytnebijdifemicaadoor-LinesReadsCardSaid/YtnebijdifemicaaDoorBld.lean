/- strings.Builder at this program: what its writers do to a builder that the call has made. -/
import Derived.Test.YtnebijdifemicaaDoorOwn
import Derived.Lib.Builder
import Derived.Lib.AppendStr
import Derived.Lib.OthersKept
namespace Go.Proofs.YtnebijdifemicaaDoor
open Go.RowKit
theorem info_bld : (Tryd.prog.info? 35).map (·.size) = some 2 := by kernel_rfl
theorem info_u8 : (Tryd.prog.info? 5).map (fun i => (i.zero, i.size, i.bytes)) = some (some (.int .u8 0), 1, 1) := by kernel_rfl
/-- A builder behind a step: its bytes; what else stands. -/
def BldPost (B b : Nat) (w : World) (bs : List Value) (w' : World) : Prop := Lib.BuilderAt 35 5 B b (.pointer (some ⟨b, 0, none⟩)) bs w' ∧ Below B w w' ∧ Lib.OthersKept 5 (some b) w w'
set_option maxHeartbeats 1000000 in
set_option maxRecDepth 100000 in
theorem prog_bCheck {B b : Nat} {bs : List Value} {w : World} (h : Lib.IsBuilder 35 5 B b bs w) :
    Calls Tryd.prog 22 #[.pointer (some ⟨b, 0, none⟩)] w fun e w' => e = .returned (.tuple #[]) ∧ BldPost B b w bs w' := by
  obtain ⟨j, hj, hjs⟩ := Option.map_eq_some_iff.1 info_bld
  have hq : ∀ w : World, (binOp .neq 32 (.pointer (some ⟨b, 0, none⟩)) (.pointer (some ⟨b, 0, none⟩))).run Tryd.prog w = .ok (.bool false) w := fun w => Lib.run_neq_ptr_same w _ Tryd.underlying32 hj
  rcases h with h | h
  · have c0 := h.cell0
    have f0 := h.frozen0
    have hsh := h.shape
    have q1 : (convert 32 73 (.pointer (some ⟨b, 0, none⟩))).run Tryd.prog w = .ok (.pointer (some ⟨b, 0, none⟩)) w := Lib.run_to_unsafe w ⟨b, 0, none⟩ Tryd.underlying32 Tryd.underlying73 hj (by rw [hjs]; decide) hsh (Nat.zero_lt_succ 1)
    have q2 : (convert 73 32 (.pointer (some ⟨b, 0, none⟩))).run Tryd.prog w = .ok (.pointer (some ⟨b, 0, none⟩)) w := Lib.run_from_unsafe w ⟨b, 0, none⟩ Tryd.underlying73 Tryd.underlying32 hj hsh (by kernel_rfl)
    have q3 : ∀ (x : Value) (w : World), (Extern.AbiNoEscape.same #[x]).run Tryd.prog w = .ok x w := fun x w => Lib.run_noEscape w x
    have q4 := @run_callFunc_extern Tryd.prog 37 _ Extern.AbiNoEscape.same Tryd.func37 (by kernel_rfl) (by kernel_rfl) (by kernel_rfl) (by kernel_rfl)
    go_enter Tryd.func22, Tryd.ntmps22
    go_wp2
    go_end0
    exact ⟨rfl, h.used _, (Below.refl B w).setCell (p := ⟨b, 0, none⟩) h.1 _, (Lib.OthersKept.refl 5 (some b) w).setCell ⟨b, 0, none⟩ rfl _⟩
  · have c0 := h.cell0
    go_enter Tryd.func22, Tryd.ntmps22
    go_wp2
    go_end0
    exact ⟨rfl, h, Below.refl B _, Lib.OthersKept.refl _ _ _⟩
/-- A builder that got a new row of bytes. -/
theorem bld_put {B b : Nat} {bs bs' : List Value} {w w1 w2 : World} {v v' : Value} (hB : B ≤ b) (hbw : B ≤ w.heap.size) (b1 : Below B w w1) (k1 : Lib.OthersKept 5 (some b) w w1) (hbk : w1.heap[b]? = some (.cells #[.pointer (some ⟨b, 0, none⟩), v] 35 (0, 0)))
    (hown : w1.ownsRow B 5 1 v bs.length bs) (hne : v.ownBlock ≠ some b) (wx : World) (hx : Below w1.heap.size w1 wx) (kx : Lib.OthersKept 5 (some b) w1 wx) (hg : wx.grownBy w2 v.ownBlock) (hown2 : w2.ownsRow B 5 1 v' bs'.length bs') :
    w2.heap[b]? = some (.cells #[.pointer (some ⟨b, 0, none⟩), v] 35 (0, 0)) ∧ BldPost B b w bs' (w2.setCell ⟨b, 1, none⟩ v') := by
  have hlt := lt_of_block hbk
  have hs := hx.size
  have hb2 : w2.heap[b]? = some (.cells #[.pointer (some ⟨b, 0, none⟩), v] 35 (0, 0)) := by
    rw [hg.block b (by omega) (fun e => hne e.symm), hx.block b hlt]; exact hbk
  refine ⟨hb2, Lib.BuilderAt.put hB hb2 hown2 (by decide), ?_, ?_⟩
  · exact ((b1.trans (hx.mono (Nat.le_trans hbw b1.size))).grown hg (Nat.le_trans hbw (Nat.le_trans b1.size hs)) (fun k hk => (hown.lt k hk).1)).setCell (p := ⟨b, 1, none⟩) hB _
  · refine ((k1.trans kx).grown hg (fun g e => ?_)).setCell ⟨b, 1, none⟩ rfl _
    rcases hown.2 with ⟨hv, _⟩ | ⟨g', cap, cur, hv, _, hg', _⟩
    · rw [hv] at e; simp [Value.ownBlock] at e
    · rw [hv] at e
      simp only [Value.ownBlock, Option.some.injEq] at e
      subst e
      exact ⟨_, _, (hx.block _ (lt_of_block hg')).trans hg'⟩
set_option maxHeartbeats 2000000 in
set_option maxRecDepth 100000 in
theorem prog_bStr {B b : Nat} {bs : List Value} {w : World} (h : Lib.IsBuilder 35 5 B b bs w) (s : ByteArray) (hlen : bs.length + s.size ≤ 140737488355328) (hBw : B ≤ w.heap.size) :
    Calls Tryd.prog 12 #[.pointer (some ⟨b, 0, none⟩), .string s] w fun e w' => e = .returned (.tuple #[.int .i64 s.size, .nilIface]) ∧ BldPost B b w (bs ++ Lib.strCells s) w' := by
  obtain ⟨i0, hi, hz0, hz1, hz2⟩ := info_parts info_u8
  have HC := Lib.hid (prog_bCheck h)
  clear h
  go_enter Tryd.func12, Tryd.ntmps12
  go_wp2_with fail
  refine HC.out.mono ?_
  rintro e w1 ⟨rfl, h1, hb1, hk1⟩
  obtain ⟨hB, v, hbk, hown, hne⟩ := h1
  have c1 : w1.cell? ⟨b, 1, none⟩ = some v := by rw [Lib.cell_of_heap hbk]; rfl
  go_wp2_with (at_builtin; refine Lib.wpList_append_own_string _ rfl _ _ 33 9 rfl B 5 i0 Tryd.underlying33 Tryd.underlying9 hi hz0 hz1 hz2 _ _ _ rfl hown s rfl ?c3 ?c4 ?c5 ?_)
  case c3 => unfold maxLen; omega
  case c4 => omega
  case c5 => have := hb1.size; omega
  intro v' w2 hown' hgrow _
  have hP := bld_put (bs' := bs ++ Lib.strCells s) hB hBw hb1 hk1 hbk hown hne w1 (Below.refl _ _) (Lib.OthersKept.refl _ _ _) hgrow (by simpa [Lib.strCells_length] using hown')
  have HP := Lib.hid hP.2
  have d1 : w2.cell? ⟨b, 1, none⟩ = some v := by rw [Lib.cell_of_heap hP.1]; rfl
  have f1 : w2.frozen? ⟨b, 1, none⟩ = false := Lib.frozen_of_heap hP.1 1
  obtain ⟨ao, n', cap, rfl⟩ : ∃ ao n' cap, v' = .slice ao n' cap := by
    rcases hown'.2 with ⟨hv, _⟩ | ⟨g, cap, cur, hv, _⟩
    · exact ⟨_, _, _, hv⟩
    · exact ⟨_, _, _, hv⟩
  clear hP hgrow hown hown' hbk
  go_wp2
  go_ret2
  exact ⟨rfl, HP.out⟩
set_option maxHeartbeats 2000000 in
set_option maxRecDepth 100000 in
theorem prog_bByte {B b : Nat} {bs : List Value} {w : World} (h : Lib.IsBuilder 35 5 B b bs w) (c : Int) (hlen : bs.length + 1 ≤ 140737488355328) (hBw : B ≤ w.heap.size) :
    Calls Tryd.prog 25 #[.pointer (some ⟨b, 0, none⟩), .int .u8 c] w fun e w' => e = .returned .nilIface ∧ BldPost B b w (bs ++ [.int .u8 c]) w' := by
  obtain ⟨i0, hi, hz0, hz1, hz2⟩ := info_parts info_u8
  have HC := Lib.hid (prog_bCheck h)
  clear h
  go_enter Tryd.func25, Tryd.ntmps25
  go_wp2_with fail
  refine HC.out.mono ?_
  rintro e w1 ⟨rfl, h1, hb1, hk1⟩
  obtain ⟨hB, v, hbk, hown, hne⟩ := h1
  have c1 : w1.cell? ⟨b, 1, none⟩ = some v := by rw [Lib.cell_of_heap hbk]; rfl
  have hlt := lt_of_block hbk
  go_wp2_with (at_builtin; refine wpList_append_own _ rfl _ _ 33 rfl B 5 i0 (.int .u8 0) 1 1 Tryd.underlying33 hi hz0 hz1 hz2 rfl (by decide) _ _ _ rfl (hown.alloc _) ⟨w1.heap.size, 0, none⟩ 1 1 [.int .u8 c] rfl rfl (news_one [.int .u8 c] 5) ?c2 ?c3 ?c4 ?c5 ?_)
  case c2 => intro u hu; simp at hu; subst hu; rfl
  case c3 => unfold maxLen; omega
  case c4 => omega
  case c5 => have := hb1.size; simp; omega
  intro v' w2 hown' hgrow _
  have hP := bld_put (bs' := bs ++ [.int .u8 c]) hB hBw hb1 hk1 hbk hown hne _ ((Below.refl _ _).alloc (Nat.le_refl _) _) ((Lib.OthersKept.refl _ _ _).alloc _) hgrow (by simpa using hown')
  have HP := Lib.hid hP.2
  have d1 : w2.cell? ⟨b, 1, none⟩ = some v := by rw [Lib.cell_of_heap hP.1]; rfl
  have f1 : w2.frozen? ⟨b, 1, none⟩ = false := Lib.frozen_of_heap hP.1 1
  obtain ⟨ao, n', cap, rfl⟩ : ∃ ao n' cap, v' = .slice ao n' cap := by
    rcases hown'.2 with ⟨hv, _⟩ | ⟨g, cap, cur, hv, _⟩
    · exact ⟨_, _, _, hv⟩
    · exact ⟨_, _, _, hv⟩
  clear hP hgrow hown hown' hbk
  go_wp2
  go_ret
  exact ⟨rfl, HP.out⟩
end Go.Proofs.YtnebijdifemicaaDoor
