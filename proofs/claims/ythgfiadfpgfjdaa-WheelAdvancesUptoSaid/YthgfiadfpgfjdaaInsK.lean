/- Laws for slices.Insert at elements of several cells: copy, the row behind it. -/
import Derived.Test.YthgfiadfpgfjdaaOwn
import Derived.Laws.CopyRow
import Derived.ArgAppend
import Derived.Deep.DeepAppendRoom
import Derived.Deep.Onto
import Derived.Laws.AppendOwnNone
import Derived.Deep.RegionLaw
import Derived.Lib.Overlaps
import Derived.Lib.AppendZerosOnto
import Derived.Lib.Hide
namespace Go.Proofs.Ythgfiadfpgfjdaa
open Go.RowKit

theorem run_copyK {P : Program} (w : World) (dT sT ty elem : TypeId) (sz g o dLen dCap : Nat) (a : Addr) (sLen sCap : Nat) (cur : Array Value) (t : TypeId) (cs : List Value)
    (hu : P.underlying dT = some (.slice elem)) (hs : (P.info? elem).map (·.size) = some sz)
    (hg : w.heap[g]? = some (.cells cur t (0, 0))) (hn : cs.length = Nat.min sLen dLen * sz)
    (hsrc : ∀ j v, cs[j]? = some v → w.cell? (a.add j) = some v) (hfit : o + cs.length ≤ cur.size) (h1 : ∀ v ∈ cs, v.oneCell' = true) :
    (Builtin.copy_ #[dT, sT] ty #[.slice (some ⟨g, o, none⟩) dLen dCap, .slice (some a) sLen sCap]).run P w =
      .ok (goInt (Nat.min sLen dLen : Nat)) (w.setRow g (cur.toList.take o ++ cs ++ cur.toList.drop (o + cs.length)).toArray) := by
  have hl := run_loadCells_list (P := P) w a cs hsrc
  have hst := run_storeCells_at P g o t cs 0 cur w hg (by simpa using hfit) h1
  cases hq : P.info? elem with
  | none => simp [hq] at hs
  | some i =>
    have hi : i.size = sz := by simpa [hq] using hs
    simp [Builtin.copy_, run_underlying hu, Builtin.lenOf, Builtin.firstCells, sizeOf, typeInfo, hq, hi, ← hn, hl, hst]
theorem wpList_copyK {P : Program} (w : World) {ops : Array Oper} {rest : List Oper} {o : Oper} {a : Act} {Q : Exit → Act → World → Prop} (hgd : o.guard = none) (d s : Operand) (t t' : TypeId)
    (ho : o.op = .call { callee := .builtin .copy, args := #[d, s], argTypes := #[t, t'] }) (v u : Value) (hd : a.eval d = v) (hs : a.eval s = u) {v' : Value} {w' : World}
    (hr : ∀ ty, (Builtin.copy_ #[t, t'] ty #[v, u]).run P w = .ok v' w') (h : wpList P ops Q rest (a.put o.dst v') w') : wpList P ops Q (o :: rest) a w := by
  refine wpList_plain hgd fun K hK => ?_
  unfold Oper.wp
  simp [execOp, ho, resolve, invoke, builtin, hd, hs, hr, Result.andThen]
  exact hK _ _ h
theorem wpList_appendK {P : Program} (w : World) {ops : Array Oper} {rest : List Oper} {o : Oper} {a : Act} {Q : Exit → Act → World → Prop} (hgd : o.guard = none) (d s : Operand) (t t' : TypeId)
    (ho : o.op = .call { callee := .builtin .append, args := #[d, s], argTypes := #[t, t'] }) (v u : Value) (hd : a.eval d = v) (hs : a.eval s = u) {v' : Value} {w' : World}
    (hr : ∀ ty, (Builtin.append_ #[t, t'] ty #[v, u]).run P w = .ok v' w') (h : wpList P ops Q rest (a.put o.dst v') w') : wpList P ops Q (o :: rest) a w := by
  refine wpList_plain hgd fun K hK => ?_
  unfold Oper.wp
  simp [execOp, ho, resolve, invoke, builtin, hd, hs, hr, Result.andThen]
  exact hK _ _ h
theorem step_copyK {P : Program} {ops : Array Oper} {o : Oper} {a : Act} {w : World} {K : Act → World → Prop} {Q : Exit → Act → World → Prop} {E : Prop}
    (hg : o.guard = none) (d x : Operand) (dT sT : TypeId) (hop : o.op = Op.call { callee := Callee.builtin Builtin.copy, args := #[d, x], argTypes := #[dT, sT] })
    (v u : Value) (hd : a.eval d = v) (hx : a.eval x = u) {v' : Value} {w' : World} (hr : ∀ ty, (Builtin.copy_ #[dT, sT] ty #[v, u]).run P w = .ok v' w') (hK : K (a.put o.dst v') w') :
    if Region.wanted o (yielded ops a.tmps) = true then Oper.wp P o a w K Q else E := by
  have hw : Region.wanted o (yielded ops a.tmps) = true := by simp [Region.wanted, hg]
  rw [if_pos hw]
  unfold Oper.wp
  simp [execOp, hop, resolve, invoke, builtin, hd, hx, hr, Result.andThen]
  exact hK
/-- c laid in at place i. -/
def insL {α : Type} (X : List α) (i : Nat) (c : α) : List α := X.take i ++ c :: X.drop i
theorem insL_len {α : Type} (X : List α) (i : Nat) (c : α) (h : i ≤ X.length) : (insL X i c).length = X.length + 1 := by simp [insL]; omega
theorem insL_end {α : Type} (X : List α) (c : α) : insL X X.length c = X ++ [c] := by simp [insL]
theorem flat_take {sz : Nat} {X : List (List Value)} (hX : ∀ c ∈ X, c.length = sz) (i : Nat) (hi : i ≤ X.length) : X.flatten.take (i * sz) = (X.take i).flatten ∧ X.flatten.drop (i * sz) = (X.drop i).flatten ∧ (X.take i).flatten.length = i * sz ∧ (X.drop i).flatten.length = (X.length - i) * sz := by
  have h1 : (X.take i).flatten.length = i * sz := by rw [flatten_length (fun c hc => hX c (List.mem_of_mem_take hc)), List.length_take, Nat.min_eq_left hi]
  have h2 : (X.drop i).flatten.length = (X.length - i) * sz := by rw [flatten_length (fun c hc => hX c (List.mem_of_mem_drop hc)), List.length_drop]
  have e : X.flatten = (X.take i).flatten ++ (X.drop i).flatten := by rw [← List.flatten_append, List.take_append_drop]
  refine ⟨?_, ?_, h1, h2⟩
  · rw [e, List.take_append_of_le_length (by omega), List.take_of_length_le (by omega)]
  · rw [e, List.drop_append, List.drop_of_length_le (by omega), h1]; simp
/-- The row behind the two copies of the road on which there is room. -/
theorem ins_room {sz cap i : Nat} {X : List (List Value)} {c : List Value} {cur : List Value} (hX : ∀ c ∈ X, c.length = sz) (hc : c.length = sz) (hi : i < X.length) (hcap : X.length + 1 ≤ cap) (hl : cur.length = cap * sz) (ht : cur.take (X.length * sz) = X.flatten) :
    ∀ cur1, cur1 = cur.take ((i + 1) * sz) ++ (X.drop i).flatten ++ cur.drop ((i + 1) * sz + (X.drop i).flatten.length) → cur1.length = cap * sz ∧ (cur1.take (i * sz) ++ c ++ cur1.drop (i * sz + c.length)).length = cap * sz ∧ (cur1.take (i * sz) ++ c ++ cur1.drop (i * sz + c.length)).take ((X.length + 1) * sz) = (insL X i c).flatten := by
  intro cur1 h1
  obtain ⟨e1, e2, e3, e4⟩ := flat_take hX i (by omega)
  have m1 : (i + 1) * sz = i * sz + sz := Nat.succ_mul i sz
  have m2 : X.length * sz + sz ≤ cap * sz := by rw [← Nat.succ_mul]; exact Nat.mul_le_mul_right _ hcap
  have m3 : (X.length - i) * sz + i * sz = X.length * sz := by rw [← Nat.add_mul, Nat.sub_add_cancel (by omega)]
  have m4 : (X.length + 1) * sz = X.length * sz + sz := Nat.succ_mul _ _
  have m5 : i * sz + sz ≤ X.length * sz := by rw [← Nat.succ_mul]; exact Nat.mul_le_mul_right _ hi
  have l0 : (cur.take ((i + 1) * sz)).length = i * sz + sz := by rw [List.length_take]; omega
  have l1 : cur1.length = cap * sz := by rw [h1]; simp only [List.length_append, l0, e4, List.length_drop]; omega
  have t1 : cur1.take (i * sz) = (X.take i).flatten := by
    rw [h1, List.append_assoc, List.take_append_of_le_length (by omega), List.take_take, Nat.min_eq_left (by omega)]
    have : cur.take (i * sz) = (cur.take (X.length * sz)).take (i * sz) := by rw [List.take_take, Nat.min_eq_left (by omega)]
    rw [this, ht, e1]
  have d1 : cur1.drop (i * sz + c.length) = (X.drop i).flatten ++ cur.drop ((i + 1) * sz + (X.drop i).flatten.length) := by
    rw [h1, List.append_assoc, List.drop_append, List.drop_of_length_le (by omega), l0, hc]; simp
  refine ⟨l1, ?_, ?_⟩
  · simp only [List.length_append, List.length_take, List.length_drop, l1, hc]; omega
  · rw [t1, d1]
    have : (insL X i c).flatten = (X.take i).flatten ++ c ++ (X.drop i).flatten := by simp [insL]
    rw [this, ← List.append_assoc, List.take_append_of_le_length (by simp only [List.length_append, e3, e4, hc]; omega), List.take_of_length_le (by simp only [List.length_append, e3, e4, hc]; omega)]
/-- The row behind the two copies of the road on which there is no room. -/
theorem ins_grow {sz cap i : Nat} {X : List (List Value)} {c : List Value} {row : List Value} (hX : ∀ c ∈ X, c.length = sz) (hc : c.length = sz) (hi : i < X.length) (hcap : X.length + 1 ≤ cap) (hl : row.length = cap * sz) (ht : row.take (i * sz) = (X.take i).flatten) :
    ∀ r1, r1 = row.take (i * sz) ++ c ++ row.drop (i * sz + c.length) → r1.length = cap * sz ∧ (r1.take ((i + 1) * sz) ++ (X.drop i).flatten ++ r1.drop ((i + 1) * sz + (X.drop i).flatten.length)).length = cap * sz ∧ (r1.take ((i + 1) * sz) ++ (X.drop i).flatten ++ r1.drop ((i + 1) * sz + (X.drop i).flatten.length)).take ((X.length + 1) * sz) = (insL X i c).flatten := by
  intro r1 h1
  obtain ⟨e1, e2, e3, e4⟩ := flat_take hX i (by omega)
  have m1 : (i + 1) * sz = i * sz + sz := Nat.succ_mul i sz
  have m2 : X.length * sz + sz ≤ cap * sz := by rw [← Nat.succ_mul]; exact Nat.mul_le_mul_right _ hcap
  have m3 : (X.length - i) * sz + i * sz = X.length * sz := by rw [← Nat.add_mul, Nat.sub_add_cancel (by omega)]
  have m4 : (X.length + 1) * sz = X.length * sz + sz := Nat.succ_mul _ _
  have m5 : i * sz + sz ≤ X.length * sz := by rw [← Nat.succ_mul]; exact Nat.mul_le_mul_right _ hi
  have l1 : r1.length = cap * sz := by rw [h1]; simp only [List.length_append, List.length_take, List.length_drop, hc]; omega
  have t1 : r1.take ((i + 1) * sz) = (X.take i).flatten ++ c := by
    rw [h1, ht, List.take_append_of_le_length (by simp only [List.length_append, e3, hc]; omega), List.take_of_length_le (by simp only [List.length_append, e3, hc]; omega)]
  refine ⟨l1, ?_, ?_⟩
  · simp only [List.length_append, List.length_take, List.length_drop, l1, e4]; omega
  · rw [t1]
    have : (insL X i c).flatten = (X.take i).flatten ++ c ++ (X.drop i).flatten := by simp [insL]
    rw [this, List.take_append_of_le_length (by simp only [List.length_append, e3, e4, hc]; omega), List.take_of_length_le (by simp only [List.length_append, e3, e4, hc]; omega)]
def InsPost (B : Nat) (w : World) (E : TypeId) (sz : Nat) (v : Value) (X : List (List Value)) (i : Nat) (c : List Value) (e : Ending) (w' : World) : Prop := ∃ v', e = .returned v' ∧ w'.ownsRow B E sz v' (X.length + 1) (insL X i c).flatten ∧ w.grownBy w' v.ownBlock
/-- As InsPost; the new row's block is the old one or a new one. -/
def InsPost2 (B : Nat) (w : World) (E : TypeId) (sz : Nat) (v : Value) (X : List (List Value)) (i : Nat) (c : List Value) (e : Ending) (w' : World) : Prop := ∃ v', e = .returned v' ∧ w'.ownsRow B E sz v' (X.length + 1) (insL X i c).flatten ∧ w.grownBy w' v.ownBlock ∧ ∀ b, v'.ownBlock = some b → v.ownBlock = some b ∨ w.heap.size ≤ b
theorem InsPost2.one {B : Nat} {w : World} {E : TypeId} {sz : Nat} {v : Value} {X : List (List Value)} {i : Nat} {c : List Value} {e : Ending} {w' : World} (h : InsPost2 B w E sz v X i c e w') : InsPost B w E sz v X i c e w' := by
  obtain ⟨v', h1, h2, h3, _⟩ := h; exact ⟨v', h1, h2, h3⟩
theorem grown_none {w w' : World} (h : w.grownBy w' none) (o : Option Nat) : w.grownBy w' o := ⟨h.os, h.tape, h.output, h.size, fun k hk _ => h.block k hk (by simp)⟩
/-- append to a row of one's own: the new row's block is the old one or a new one. -/
theorem wpList_append_own2 {P : Program} (w : World) {ops : Array Oper} {rest : List Oper} {o : Oper} {a : Act} {Q : Exit → Act → World → Prop} (hgd : o.guard = none) (s x : Operand) (t : TypeId)
    (ho : o.op = .call { callee := .builtin .append, args := #[s, x], argTypes := #[t, t] })
    (base : Nat) (e : TypeId) (i : TypeInfo) (z : Value) (size bytes : Nat) (ht : P.underlying t = some (.slice e)) (hi : P.info? e = some i) (hz : i.zero = some z)
    (hsize : i.size = size) (hby : i.bytes = bytes) (hzs : z.cells.size = size) (hsz : 0 < size)
    (v : Value) (n : Nat) (xs : List Value) (hs : a.eval s = v) (hown : w.ownsRow base e size v n xs)
    (ad : Addr) (m c : Nat) (news : List Value) (hx : a.eval x = .slice (some ad) m c) (hl : news.length = m * size) (hnews : ∀ j u, news[j]? = some u → w.cell? (ad.add j) = some u) (h1 : ∀ u ∈ news, u.oneCell' = true) (hm : 0 < m)
    (h63 : n + m ≤ maxLen) (hbytes : (n + m) * bytes ≤ 140737488355328) (hbase : base ≤ w.heap.size)
    (h : ∀ v' w', w'.ownsRow base e size v' (n + m) (xs ++ news) → w.grownBy w' v.ownBlock → (∀ b, v'.ownBlock = some b → v.ownBlock = some b ∨ w.heap.size ≤ b) → wpList P ops Q rest (a.put o.dst v') w') : wpList P ops Q (o :: rest) a w := by
  have hxl := hown.1
  rcases hown.2 with ⟨rfl, rfl⟩ | ⟨g, cap, cur, rfl, hbg, hg, hnc, hcm, hcs, htake⟩
  · obtain rfl : xs = [] := List.eq_nil_of_length_eq_zero (by simpa using hxl)
    exact wpList_append_grows w hgd s x t ho e i z size bytes ht hi hz hsize hby hzs hsz none 0 0 [] hs (fun _ => ⟨rfl, rfl⟩) (by simp) (fun b hb => by cases hb) ad m c news hx hl hnews h1 (by omega) h63 hbytes
      (fun v' w' h2 h3 => h v' w' (h2.mono hbase) (grown_none h3 _) (fun b hb => Or.inr (h2.lt b hb).1))
  · by_cases hroom : n + m ≤ cap
    · exact wpList_append_own_spare w hgd s x t ho base e i size ht hi hsize g n cap xs hs hown ad m c news hx hl hnews h1 hroom (fun w' h2 h3 => h _ w' h2 h3 (fun b hb => Or.inl hb))
    · exact wpList_append_grows w hgd s x t ho e i z size bytes ht hi hz hsize hby hzs hsz (some ⟨g, 0, none⟩) n cap xs hs (fun e => by cases e) hxl (fun b hb => by injection hb with hb; subst hb; exact hown.cells (g := g) rfl) ad m c news hx hl hnews h1 (by omega) h63 hbytes
        (fun v' w' h2 h3 => h v' w' (h2.mono hbase) (grown_none h3 _) (fun b hb => Or.inr (h2.lt b hb).1))
end Go.Proofs.Ythgfiadfpgfjdaa
