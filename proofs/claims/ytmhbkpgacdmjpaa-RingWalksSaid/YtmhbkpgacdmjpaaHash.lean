/- hash.mix and usherref.mixed over four bytes; hash.Key, hash.Spot. -/
import Derived.Test.YtmhbkpgacdmjpaaOpen
import Derived.Laws.BitsAllLaws
namespace Go.Proofs.Ytmhbkpgacdmjpaa
open Go.RowKit

/-- One step of the mix. -/
def mixStep (h b : Nat) : Nat := (h ^^^ b) * 16777619 % 4294967296
theorem mixStep_lt (h b : Nat) : mixStep h b < 4294967296 := Nat.mod_lt _ (by decide)
/-- The mix of four bytes. -/
def mix4 (a b c d : Nat) : Nat := mixStep (mixStep (mixStep (mixStep 2166136261 a) b) c) d

theorem xor_lt32 (a b : Nat) (ha : a < 4294967296) (hb : b < 4294967296) : a ^^^ b < 4294967296 := Nat.xor_lt_two_pow (n := 32) ha hb
theorem xor64 (a b : Nat) (ha : a < 4294967296) (hb : b < 4294967296) : bits .xor .i64 (a : Int) (b : Int) = ((a ^^^ b : Nat) : Int) := by
  have hx := xor_lt32 a b ha hb
  show IntKind.i64.wrap ((BitVec.ofInt 64 (a : Int) ^^^ BitVec.ofInt 64 (b : Int)).toNat : Int) = _
  rw [BitVec.toNat_xor, ofInt_u64 a (by omega), ofInt_u64 b (by omega), IntKind.wrap_i64]
  omega
theorem step32 (h b : Nat) (hh : h < 4294967296) (hb : b < 4294967296) : bits .xor .u32 (h : Int) (b : Int) * 16777619 % 4294967296 = ((mixStep h b : Nat) : Int) := by
  rw [u32_xor_nat h b hh hb]; unfold mixStep; omega
theorem step64 (h b : Nat) : ((h ^^^ b : Nat) : Int) * 16777619 % 4294967296 = ((mixStep h b : Nat) : Int) := by
  unfold mixStep; omega

set_option maxHeartbeats 4000000 in
theorem prog_mix (B a b c d : Nat) (w : World) (ha : a < 256) (hb : b < 256) (hc : c < 256) (hd : d < 256) (h0 : w.cell? ⟨B, 0, none⟩ = some (.int .u8 a)) (h1 : w.cell? ⟨B, 1, none⟩ = some (.int .u8 b)) (h2 : w.cell? ⟨B, 2, none⟩ = some (.int .u8 c)) (h3 : w.cell? ⟨B, 3, none⟩ = some (.int .u8 d)) :
    Calls Try.prog 41 #[.slice (some ⟨B, 0, none⟩) 4 4] w fun e w' => e = .returned (.int .i64 (mix4 a b c d)) ∧ w = w' := by
  have e1 : bits .xor .u32 2166136261 (a : Int) * 16777619 % 4294967296 = ((mixStep 2166136261 a : Nat) : Int) := step32 2166136261 a (by decide) (by omega)
  have e2 := step32 (mixStep 2166136261 a) b (mixStep_lt _ _) (by omega)
  have e3 := step32 (mixStep (mixStep 2166136261 a) b) c (mixStep_lt _ _) (by omega)
  have e4 := step32 (mixStep (mixStep (mixStep 2166136261 a) b) c) d (mixStep_lt _ _) (by omega)
  go_enter Try.func41, Try.ntmps41
  go_wp2
  refine wp_loop_rounds 5 ?_
  rw [rounds_succ]
  go_wp2
  rw [rounds_succ]
  go_wp2
  rw [rounds_succ]
  go_wp2
  rw [rounds_succ]
  go_wp2
  rw [rounds_succ]
  go_wp2
  go_ret
  exact ⟨rI (by unfold mix4; have := mixStep_lt (mixStep (mixStep (mixStep 2166136261 a) b) c) d; first | rfl | omega | (simp only [IntKind.wrap_i64]; omega)), rfl⟩

set_option maxHeartbeats 4000000 in
theorem ref_mixed (B a b c d : Nat) (w : World) (ha : a < 256) (hb : b < 256) (hc : c < 256) (hd : d < 256) (h0 : w.cell? ⟨B, 0, none⟩ = some (.int .i64 a)) (h1 : w.cell? ⟨B, 1, none⟩ = some (.int .i64 b)) (h2 : w.cell? ⟨B, 2, none⟩ = some (.int .i64 c)) (h3 : w.cell? ⟨B, 3, none⟩ = some (.int .i64 d)) :
    Calls Try.prog 45 #[.slice (some ⟨B, 0, none⟩) 4 4] w fun e w' => e = .returned (.int .i64 (mix4 a b c d)) ∧ w = w' := by
  obtain ⟨m1, hm1⟩ : ∃ m, m = mixStep 2166136261 a := ⟨_, rfl⟩
  obtain ⟨m2, hm2⟩ : ∃ m, m = mixStep m1 b := ⟨_, rfl⟩
  obtain ⟨m3, hm3⟩ : ∃ m, m = mixStep m2 c := ⟨_, rfl⟩
  obtain ⟨m4, hm4⟩ : ∃ m, m = mixStep m3 d := ⟨_, rfl⟩
  have l1 : m1 < 4294967296 := by rw [hm1]; exact mixStep_lt _ _
  have l2 : m2 < 4294967296 := by rw [hm2]; exact mixStep_lt _ _
  have l3 : m3 < 4294967296 := by rw [hm3]; exact mixStep_lt _ _
  obtain ⟨x1, hx1⟩ : ∃ x, x = 2166136261 ^^^ a := ⟨_, rfl⟩
  obtain ⟨x2, hx2⟩ : ∃ x, x = m1 ^^^ b := ⟨_, rfl⟩
  obtain ⟨x3, hx3⟩ : ∃ x, x = m2 ^^^ c := ⟨_, rfl⟩
  obtain ⟨x4, hx4⟩ : ∃ x, x = m3 ^^^ d := ⟨_, rfl⟩
  have y1 : x1 < 4294967296 := by rw [hx1]; exact xor_lt32 _ _ (by decide) (by omega)
  have y2 : x2 < 4294967296 := by rw [hx2]; exact xor_lt32 _ _ l1 (by omega)
  have y3 : x3 < 4294967296 := by rw [hx3]; exact xor_lt32 _ _ l2 (by omega)
  have y4 : x4 < 4294967296 := by rw [hx4]; exact xor_lt32 _ _ l3 (by omega)
  have e1 : bits .xor .i64 2166136261 (a : Int) = (x1 : Int) := by rw [hx1]; exact xor64 2166136261 a (by decide) (by omega)
  have e2 : bits .xor .i64 (m1 : Int) (b : Int) = (x2 : Int) := by rw [hx2]; exact xor64 m1 b l1 (by omega)
  have e3 : bits .xor .i64 (m2 : Int) (c : Int) = (x3 : Int) := by rw [hx3]; exact xor64 m2 c l2 (by omega)
  have e4 : bits .xor .i64 (m3 : Int) (d : Int) = (x4 : Int) := by rw [hx4]; exact xor64 m3 d l3 (by omega)
  have f1 : (x1 : Int) * 16777619 % 4294967296 = (m1 : Int) := by rw [hx1, hm1]; exact step64 _ _
  have f2 : (x2 : Int) * 16777619 % 4294967296 = (m2 : Int) := by rw [hx2, hm2]; exact step64 _ _
  have f3 : (x3 : Int) * 16777619 % 4294967296 = (m3 : Int) := by rw [hx3, hm3]; exact step64 _ _
  have f4 : (x4 : Int) * 16777619 % 4294967296 = (m4 : Int) := by rw [hx4, hm4]; exact step64 _ _
  have H := Lib.hid (show m4 = mix4 a b c d by rw [hm4, hm3, hm2, hm1]; rfl)
  clear hm1 hm2 hm3 hm4 hx1 hx2 hx3 hx4 l1 l2 l3
  go_enter Try.func45, Try.ntmps45
  go_wp2
  refine wp_loop_rounds 5 ?_
  rw [rounds_succ]
  go_wp2
  rw [rounds_succ]
  go_wp2
  rw [rounds_succ]
  go_wp2
  rw [rounds_succ]
  go_wp2
  rw [rounds_succ]
  go_wp2
  go_ret
  exact ⟨rI (by rw [← H.out]; exact f4), rfl⟩
end Go.Proofs.Ytmhbkpgacdmjpaa
