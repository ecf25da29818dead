/- Lines in plain words: pieces, lines of a text, what a line spells. -/
import Derived.Test.YtnebijdifemicaaDoorRln
import Derived.Lib.AtoiTie
import Derived.Lib.Split
import Derived.Lib.SplitLaws
import Derived.Lib.IndexBytes
import Derived.Lib.IndexLaws
namespace Go.Proofs.YtnebijdifemicaaDoor
open Go.RowKit
/-- The pieces between spaces. -/
def spl : List UInt8 → List (List UInt8)
  | [] => [[]]
  | b :: r => if b = 32 then [] :: spl r else match spl r with
    | [] => [[b]]
    | p :: ps => (b :: p) :: ps
/-- The lines of a text, each with its end. -/
def lns : List UInt8 → List (List UInt8)
  | [] => []
  | b :: r => if b = 10 then [10] :: lns r else match lns r with
    | [] => [[b]]
    | p :: ps => (b :: p) :: ps
def jn : List (List UInt8) → List UInt8
  | [] => []
  | [p] => p
  | p :: q :: ps => p ++ 32 :: jn (q :: ps)
theorem spl_32 (r : List UInt8) : spl (32 :: r) = [] :: spl r := by simp [spl]
theorem spl_b {b : UInt8} (h : b ≠ 32) (r : List UInt8) : spl (b :: r) = match spl r with
    | [] => [[b]]
    | p :: ps => (b :: p) :: ps := by simp [spl, h]
theorem lns_10 (r : List UInt8) : lns (10 :: r) = [10] :: lns r := by simp [lns]
theorem lns_b {b : UInt8} (h : b ≠ 10) (r : List UInt8) : lns (b :: r) = match lns r with
    | [] => [[b]]
    | p :: ps => (b :: p) :: ps := by simp [lns, h]
theorem spl_ne : ∀ s, spl s ≠ []
  | [] => by simp [spl]
  | b :: r => by
    by_cases h : b = 32
    · subst h; rw [spl_32]; simp
    · rw [spl_b h]; split <;> simp
theorem spl_none : ∀ {a : List UInt8}, (∀ b ∈ a, b ≠ 32) → spl a = [a]
  | [], _ => rfl
  | b :: r, h => by
    rw [spl_b (h b (List.mem_cons_self ..)), spl_none (a := r) (fun c hc => h c (List.mem_cons_of_mem _ hc))]
theorem spl_cons : ∀ {a : List UInt8} (r : List UInt8), (∀ b ∈ a, b ≠ 32) → spl (a ++ 32 :: r) = a :: spl r
  | [], r, _ => spl_32 r
  | b :: a, r, h => by
    show spl (b :: (a ++ 32 :: r)) = _
    rw [spl_b (h b (List.mem_cons_self ..)), spl_cons (a := a) r (fun c hc => h c (List.mem_cons_of_mem _ hc))]
theorem jn_spl : ∀ s, jn (spl s) = s
  | [] => rfl
  | b :: r => by
    have ih := jn_spl r
    have hne := spl_ne r
    by_cases h : b = 32
    · subst h
      rw [spl_32]
      cases hs : spl r with
      | nil => exact absurd hs hne
      | cons p ps => rw [hs] at ih; show [] ++ 32 :: jn (p :: ps) = _; rw [ih]; rfl
    · rw [spl_b h]
      cases hs : spl r with
      | nil => exact absurd hs hne
      | cons p ps =>
        rw [hs] at ih
        cases ps with
        | nil => show b :: p = _; rw [← ih]; rfl
        | cons q qs => show (b :: p) ++ 32 :: jn (q :: qs) = _; rw [← ih]; rfl
theorem spl_inj {a b : List UInt8} (h : spl a = spl b) : a = b := by rw [← jn_spl a, ← jn_spl b, h]
theorem lns_none : ∀ {a : List UInt8}, (∀ b ∈ a, b ≠ 10) → a ≠ [] → lns a = [a]
  | [], _, h => absurd rfl h
  | b :: r, h, _ => by
    rw [lns_b (h b (List.mem_cons_self ..))]
    by_cases hr : r = []
    · subst hr; rfl
    · rw [lns_none (a := r) (fun c hc => h c (List.mem_cons_of_mem _ hc)) hr]
theorem lns_cons : ∀ {a : List UInt8} (r : List UInt8), (∀ b ∈ a, b ≠ 10) → lns (a ++ 10 :: r) = (a ++ [10]) :: lns r
  | [], r, _ => by
    exact lns_10 r
  | b :: a, r, h => by
    show lns (b :: (a ++ 10 :: r)) = _
    rw [lns_b (h b (List.mem_cons_self ..)), lns_cons (a := a) r (fun c hc => h c (List.mem_cons_of_mem _ hc))]
    rfl
/-- A line without its end. -/
def bodyB (e : Ev) : List UInt8 := wordB e.kind.toNat ++ (evNs e).flatMap spB ++ goodB e
theorem line_body (e : Ev) : lineB e = bodyB e ++ [10] := rfl
theorem dec_dig : ∀ (n : Nat), ∀ b ∈ Lib.decDigits n, 48 ≤ b.toNat ∧ b.toNat ≤ 57 := by
  intro n
  induction n using Nat.strongRecOn with
  | _ n ih =>
    intro b hb
    rw [Lib.decDigits] at hb
    split at hb
    · rename_i h
      rw [List.mem_singleton] at hb
      subst hb
      rw [UInt8.toNat_ofNat', Nat.mod_eq_of_lt (by omega)]; omega
    · rename_i h
      rcases List.mem_append.1 hb with hb | hb
      · exact ih (n / 10) (by omega) b hb
      · rw [List.mem_singleton] at hb
        subst hb
        rw [UInt8.toNat_ofNat', Nat.mod_eq_of_lt (by omega)]; omega
theorem dec_no {n : Nat} {c : UInt8} (hc : c.toNat < 48) : ∀ b ∈ Lib.decDigits n, b ≠ c := fun b hb e => by
  have := dec_dig n b hb
  rw [e] at this; omega
theorem dec_ne (n : Nat) : Lib.decDigits n ≠ [] := by
  rw [Lib.decDigits]
  split
  · simp
  · simp
theorem decFrom_app : ∀ (l m : List UInt8) (acc : Nat), Lib.decFrom acc (l ++ m) = (Lib.decFrom acc l).bind fun a => Lib.decFrom a m
  | [], _, _ => rfl
  | b :: r, m, acc => by
    simp only [List.cons_append, Lib.decFrom]
    cases Lib.digitVal b with
    | none => rfl
    | some d => exact decFrom_app r m _
theorem dig_val {d : Nat} (h : d < 10) : Lib.digitVal (UInt8.ofNat (48 + d)) = some d := by
  unfold Lib.digitVal
  rw [UInt8.toNat_ofNat', Nat.mod_eq_of_lt (by omega), if_pos (by omega)]
  congr 1; omega
theorem dec_val : ∀ n : Nat, Lib.decFrom 0 (Lib.decDigits n) = some n := by
  intro n
  induction n using Nat.strongRecOn with
  | _ n ih =>
    rw [Lib.decDigits]
    split
    · rename_i h
      simp only [Lib.decFrom, dig_val h]
      simp
    · rename_i h
      rw [decFrom_app, ih (n / 10) (by omega)]
      simp only [Option.bind_some, Lib.decFrom, dig_val (show n % 10 < 10 by omega)]
      congr 1; omega
theorem dec_inj {a b : Nat} (h : Lib.decDigits a = Lib.decDigits b) : a = b := by
  have := dec_val a
  rw [h, dec_val b] at this
  exact (Option.some.inj this).symm
theorem dec_len : ∀ (k n : Nat), 1 ≤ k → n < 10 ^ k → (Lib.decDigits n).length ≤ k
  | 0, _, h, _ => by omega
  | k + 1, n, _, hn => by
    rw [Lib.decDigits]
    split
    · simp
    · rename_i h
      rw [List.length_append, List.length_singleton]
      rcases Nat.eq_zero_or_pos k with rfl | hk
      · simp at hn; omega
      · have := dec_len k (n / 10) hk (by rw [Nat.div_lt_iff_lt_mul (by omega)]; rw [Nat.pow_succ] at hn; exact hn)
        omega
/-- What Atoi answers. -/
def atV (w : List UInt8) : Int := match Lib.atoiAll w with
  | .ok v => v
  | .range => Lib.atoiSat w
  | _ => 0
theorem atV_dec {n : Nat} (h : n ≤ 4294967295) : atV (Lib.decDigits n) = n := by
  have hl : (Lib.decDigits n).length ≤ 18 := Nat.le_trans (dec_len 10 n (by omega) (by omega)) (by omega)
  unfold atV
  rw [Lib.atoiAll_short _ hl]
  have h2 : Lib.atoi (Lib.decDigits n) = some (n : Int) := by
    have h3 := dec_val n
    have h4 := dec_dig n
    cases hd : Lib.decDigits n with
    | nil => exact absurd hd (dec_ne n)
    | cons b r =>
      rw [hd] at h3 h4
      have hb := h4 b (List.mem_cons_self ..)
      have b1 : ¬ b = 45 := by intro e; subst e; revert hb; decide
      have b2 : ¬ b = 43 := by intro e; subst e; revert hb; decide
      simp [Lib.atoi, b1, b2, Lib.decNat, h3]
  rw [h2]
  rfl
theorem splitK_spl : ∀ (k : Nat) (s : List UInt8), s.count 32 ≤ k → Lib.splitK [32] 0 k s = spl s := by
  have hnone : ∀ s : List UInt8, Lib.indexByte s 32 = -1 → ∀ b ∈ s, b ≠ 32 := by
    intro s h b hb e
    obtain ⟨i, hi⟩ := List.getElem?_of_mem hb
    exact Lib.indexByte_none h i (by rw [hi, e])
  intro k
  induction k with
  | zero =>
    intro s hs
    have h0 : ∀ b ∈ s, b ≠ 32 := by
      intro b hb e
      subst e
      have := List.count_pos_iff.2 hb
      omega
    rw [spl_none h0]; rfl
  | succ k ih =>
    intro s hs
    have hge := Lib.indexByte_ge s 32
    rcases (show Lib.indexByte s 32 = -1 ∨ 0 ≤ Lib.indexByte s 32 by omega) with h | h
    · rw [spl_none (hnone s h)]
      unfold Lib.splitK
      rw [Lib.index_one, h]; rfl
    · obtain ⟨o, ho⟩ := Int.eq_ofNat_of_zero_le h
      obtain ⟨h1, h2⟩ := Lib.indexByte_some ho
      have hlt : o < s.length := by
        rcases Nat.lt_or_ge o s.length with g | g
        · exact g
        · rw [List.getElem?_eq_none g] at h1; cases h1
      have hs2 : s = s.take o ++ 32 :: s.drop (o + 1) := by
        have e := List.take_append_drop o s
        rw [List.drop_eq_getElem_cons hlt] at e
        rw [List.getElem?_eq_getElem hlt] at h1
        rw [Option.some.inj h1] at e
        exact e.symm
      have hno : ∀ b ∈ s.take o, b ≠ 32 := by
        intro b hb e
        obtain ⟨i, hi⟩ := List.getElem?_of_mem hb
        rw [List.getElem?_take] at hi
        split at hi
        · rename_i g
          exact h2 i g (by rw [hi, e])
        · cases hi
      have hc : (s.drop (o + 1)).count 32 ≤ k := by
        have := congrArg (List.count 32) hs2
        rw [List.count_append, List.count_cons_self] at this
        omega
      have hx : Lib.splitK [32] 0 (k + 1) s = s.take o :: Lib.splitK [32] 0 k (s.drop (o + 1)) := by
        conv => lhs; unfold Lib.splitK
        rw [Lib.index_one, ho, if_neg (by intro e; rw [beq_iff_eq] at e; omega)]
        simp
      rw [hx, ih _ hc]
      conv => rhs; rw [hs2]
      rw [spl_cons _ hno]
end Go.Proofs.YtnebijdifemicaaDoor
