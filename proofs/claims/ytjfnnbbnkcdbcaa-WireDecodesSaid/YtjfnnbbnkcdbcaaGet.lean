/- How a number is read (P2.3), in plain words; wire.get: its contract. -/
import Derived.Test.YtjfnnbbnkcdbcaaEncR
import Derived.Laws.BitsLemmas
namespace Go.Proofs.Ytjfnnbbnkcdbcaa
open Go.RowKit

/-- A number's value: seven bits a byte, the least first. -/
def numV : List Int → Int
  | [] => 0
  | c :: cs => c % 128 + 128 * numV cs
def IsB (L : List Int) : Prop := ∀ x ∈ L, 0 ≤ x ∧ x ≤ 255
theorem numV_bd : ∀ (L : List Int), 0 ≤ numV L ∧ numV L < 128 ^ L.length
  | [] => by simp [numV]
  | c :: cs => by
    have h := numV_bd cs
    simp only [numV, List.length_cons]
    have e : (128 : Int) ^ (cs.length + 1) = 128 * 128 ^ cs.length := by rw [Int.pow_succ, Int.mul_comm]
    rw [e]
    have h1 : 0 ≤ c % 128 ∧ c % 128 < 128 := by omega
    generalize (128 : Int) ^ cs.length = p at h ⊢
    omega
theorem numV_snoc : ∀ (L : List Int) (c : Int), numV (L ++ [c]) = numV L + 128 ^ L.length * (c % 128)
  | [], c => by simp [numV]
  | d :: L, c => by
    simp only [List.cons_append, numV, numV_snoc L c, List.length_cons]
    rw [Int.pow_succ, Int.mul_add, Int.mul_comm (128 ^ L.length) 128, Int.mul_assoc, Int.add_assoc]
/-- Where a number's last byte stands, among the first six. -/
def endF : Nat → List Int → Nat
  | 0, _ => 0
  | _ + 1, [] => 0
  | f + 1, c :: cs => if 128 ≤ c then endF f cs + 1 else 0
theorem endF_at : ∀ (f : Nat) (R : List Int), endF f R ≤ f ∧ endF f R ≤ R.length ∧ (∀ j, j < endF f R → 128 ≤ R.getD j 0) ∧ (endF f R < f → endF f R < R.length → R.getD (endF f R) 0 < 128)
  | 0, R => by simp [endF]
  | f + 1, [] => by simp [endF]
  | f + 1, c :: cs => by
    obtain ⟨h1, h2, h3, h4⟩ := endF_at f cs
    by_cases hc : 128 ≤ c
    · have e : endF (f + 1) (c :: cs) = endF f cs + 1 := by simp only [endF]; rw [if_pos hc]
      rw [e]
      refine ⟨by omega, by simpa using h2, fun j hj => ?_, fun h5 h6 => ?_⟩
      · cases j with
        | zero => simpa using hc
        | succ j => simpa using h3 j (by omega)
      · simpa using h4 (by omega) (by simpa using h6)
    · have e : endF (f + 1) (c :: cs) = 0 := by simp only [endF]; rw [if_neg hc]
      rw [e]
      refine ⟨by omega, by simp, fun j hj => by omega, fun _ _ => ?_⟩
      simpa using hc
def endOf (R : List Int) : Nat := endF 6 R
def getC (R : List Int) : Int := if endOf R = 6 ∧ 6 < R.length then 2 else if endOf R = R.length then 4 else if R.getD (endOf R) 0 = 0 ∧ 0 < endOf R then 3 else 0
def getV (R : List Int) : Int := numV (R.take (endOf R + 1))
theorem take_snocI {R : List Int} {i : Nat} (h : i < R.length) : R.take (i + 1) = R.take i ++ [R.getD i 0] := by
  rw [List.take_succ_eq_append_getElem h]; simp [List.getD, h]
theorem or_add (V x : Int) (i : Nat) (hi : i ≤ 5) (h0 : 0 ≤ V) (h1 : V < 128 ^ i) (h2 : 0 ≤ x) (h3 : x < 128) : bits BinOp.or IntKind.i64 V (128 ^ i * x) = V + 128 ^ i * x := by
  obtain ⟨a, rfl⟩ := Int.eq_ofNat_of_zero_le h0
  obtain ⟨b, rfl⟩ := Int.eq_ofNat_of_zero_le h2
  have e7 : (128 : Nat) ^ i = 2 ^ (7 * i) := by rw [Nat.pow_mul]
  have ha : a < 2 ^ (7 * i) := by rw [← e7]; exact_mod_cast h1
  have hb : b < 2 ^ 7 := by have : (b : Int) < 128 := h3; omega
  have hm : 2 ^ (7 * i) * b < 2 ^ 62 := by
    have : 2 ^ (7 * i) * b < 2 ^ (7 * i) * 2 ^ 7 := Nat.mul_lt_mul_of_pos_left hb (Nat.two_pow_pos _)
    have h4 : 2 ^ (7 * i) * 2 ^ 7 ≤ 2 ^ 62 := by rw [← Nat.pow_add]; exact Nat.pow_le_pow_right (by decide) (by omega)
    omega
  have ha2 : a < 2 ^ 62 := Nat.lt_of_lt_of_le ha (Nat.pow_le_pow_right (by decide) (by omega))
  have hw : ∀ n : Int, 0 ≤ n → n < 2 ^ 62 → IntKind.i64.wrap n = n := by intro n h5 h6; rw [IntKind.wrap_i64]; omega
  have hor := (bits_nat .i64 62 (by decide) hw a (2 ^ (7 * i) * b) ha2 hm).2
  have e8 : ((128 : Int) ^ i * (b : Int)) = ((2 ^ (7 * i) * b : Nat) : Int) := by rw [← e7]; push_cast; rfl
  rw [e8, hor]
  have e9 : 2 ^ (7 * i) * b + a = 2 ^ (7 * i) * b ||| a := by
    have := Nat.shiftLeft_add_eq_or_of_lt ha b
    rwa [Nat.shiftLeft_eq, Nat.mul_comm] at this
  rw [Nat.or_comm, ← e9]
  push_cast
  omega
set_option maxRecDepth 100000 in
theorem and_bits (c : Int) (h0 : 0 ≤ c) (h1 : c ≤ 255) : bits BinOp.and IntKind.u8 c 127 = c % 128 := by
  have key : ∀ r : Fin 256, bits BinOp.and IntKind.u8 ((r.1 : Nat) : Int) 127 = (((r.1 % 128 : Nat)) : Int) := by decide
  have := key ⟨c.toNat, by omega⟩
  simp only at this
  rw [show ((c.toNat : Nat) : Int) = c by omega] at this
  rw [this]; omega
end Go.Proofs.Ytjfnnbbnkcdbcaa
