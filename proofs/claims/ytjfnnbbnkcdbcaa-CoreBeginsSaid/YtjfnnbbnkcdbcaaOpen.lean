/- What is known of each parameter of a law: by its Go type. Conditions: none. -/
import Derived.Test.YtjfnnbbnkcdbcaaTypes
import Derived.Lib.Hide
namespace Go.Proofs.Ytjfnnbbnkcdbcaa
open Go.ChangeShapes Go.WideShapes Go.ChangeAt Go.RowKit

set_option maxRecDepth 100000
section
variable {H : Type} {enc : TypeId × Value → H} {W : World} {base : Nat} {v : Value} {d : DataW H} {p : List MemPlace}

def Is_int (_ : World) (v : Value) : Prop := ∃ n, v = .int .i64 n ∧ I64 n
theorem opn_int (hv : Value.okWide Try.prog W .any base 3 v) (h : DataW.Trod enc Try.prog W 0 (fun _ => true) true 3 v d p) (_hz : ∀ y ∈ d.weights Try.prog 3, y ≤ reachBytes) : Is_int W v := by
  obtain ⟨x, rfl, _, _, wx⟩ := ChangeShapes.open_int Try.underlying3 hv h
  exact ⟨x, rfl, I64_of_wf wx⟩
def Is_bool (_ : World) (v : Value) : Prop := ∃ b, v = .bool b
theorem opn_bool (hv : Value.okWide Try.prog W .any base 4 v) (h : DataW.Trod enc Try.prog W 0 (fun _ => true) true 4 v d p) (_hz : ∀ y ∈ d.weights Try.prog 4, y ≤ reachBytes) : Is_bool W v := by
  obtain ⟨x, rfl, _, _⟩ := RowKit.open_bool Try.underlying4 hv h
  exact ⟨x, rfl⟩

def Is_Budget (_ : World) (v : Value) : Prop := ∃ a b c, v = .agg #[.int .i64 a, .int .i64 b, .int .i64 c] ∧ I64 a ∧ I64 b ∧ I64 c
theorem opn_Budget (hv : Value.okWide Try.prog W .any base 36 v) (h : DataW.Trod enc Try.prog W 0 (fun _ => true) true 36 v d p) (_hz : ∀ y ∈ d.weights Try.prog 36, y ≤ reachBytes) : Is_Budget W v := by
  obtain ⟨cs, rfl, hc⟩ := open_flat 6 Try.underlying36 (by kernel_rfl : flatK Try.prog 6 36 = some [some .i64, some .i64, some .i64]) hv h
  obtain ⟨a, _, rfl, wa, hc0⟩ := FlatC_int hc
  obtain ⟨b, _, rfl, wb, hc1⟩ := FlatC_int hc0
  obtain ⟨c, _, rfl, wc, hc2⟩ := FlatC_int hc1
  obtain rfl := FlatC_nil hc2
  exact ⟨a, b, c, rfl, I64_of_wf wa, I64_of_wf wb, I64_of_wf wc⟩

def Is_Bucket (_ : World) (v : Value) : Prop := ∃ a, v = .agg #[.int .i64 a] ∧ I64 a
theorem opn_Bucket (hv : Value.okWide Try.prog W .any base 56 v) (h : DataW.Trod enc Try.prog W 0 (fun _ => true) true 56 v d p) (_hz : ∀ y ∈ d.weights Try.prog 56, y ≤ reachBytes) : Is_Bucket W v := by
  obtain ⟨cs, rfl, hc⟩ := open_flat 6 Try.underlying56 (by kernel_rfl : flatK Try.prog 6 56 = some [some .i64]) hv h
  obtain ⟨a, _, rfl, wa, hc0⟩ := FlatC_int hc
  obtain rfl := FlatC_nil hc0
  exact ⟨a, rfl, I64_of_wf wa⟩

def Is_Watch (_ : World) (v : Value) : Prop := ∃ a b c, v = .agg #[.int .i64 a, .int .i64 b, .int .i64 c] ∧ I64 a ∧ I64 b ∧ I64 c
theorem opn_Watch (hv : Value.okWide Try.prog W .any base 38 v) (h : DataW.Trod enc Try.prog W 0 (fun _ => true) true 38 v d p) (_hz : ∀ y ∈ d.weights Try.prog 38, y ≤ reachBytes) : Is_Watch W v := by
  obtain ⟨cs, rfl, hc⟩ := open_flat 6 Try.underlying38 (by kernel_rfl : flatK Try.prog 6 38 = some [some .i64, some .i64, some .i64]) hv h
  obtain ⟨a, _, rfl, wa, hc0⟩ := FlatC_int hc
  obtain ⟨b, _, rfl, wb, hc1⟩ := FlatC_int hc0
  obtain ⟨c, _, rfl, wc, hc2⟩ := FlatC_int hc1
  obtain rfl := FlatC_nil hc2
  exact ⟨a, b, c, rfl, I64_of_wf wa, I64_of_wf wb, I64_of_wf wc⟩

def Is_Event (_ : World) (v : Value) : Prop := ∃ a b c d e f g h, v = .agg #[.int .i64 a, .int .i64 b, .int .i64 c, .int .i64 d, .bool e, .int .i64 f, .int .i64 g, .int .i64 h] ∧ I64 a ∧ I64 b ∧ I64 c ∧ I64 d ∧ I64 f ∧ I64 g ∧ I64 h
theorem opn_Event (hv : Value.okWide Try.prog W .any base 23 v) (h : DataW.Trod enc Try.prog W 0 (fun _ => true) true 23 v d p) (_hz : ∀ y ∈ d.weights Try.prog 23, y ≤ reachBytes) : Is_Event W v := by
  obtain ⟨cs, rfl, hc⟩ := open_flat 6 Try.underlying23 (by kernel_rfl : flatK Try.prog 6 23 = some [some .i64, some .i64, some .i64, some .i64, none, some .i64, some .i64, some .i64]) hv h
  obtain ⟨a, _, rfl, wa, hc0⟩ := FlatC_int hc
  obtain ⟨b, _, rfl, wb, hc1⟩ := FlatC_int hc0
  obtain ⟨c, _, rfl, wc, hc2⟩ := FlatC_int hc1
  obtain ⟨d, _, rfl, wd, hc3⟩ := FlatC_int hc2
  obtain ⟨e, _, rfl, hc4⟩ := FlatC_bool hc3
  obtain ⟨f, _, rfl, wf, hc5⟩ := FlatC_int hc4
  obtain ⟨g, _, rfl, wg, hc6⟩ := FlatC_int hc5
  obtain ⟨z, _, rfl, wh, hc7⟩ := FlatC_int hc6
  obtain rfl := FlatC_nil hc7
  exact ⟨a, b, c, d, e, f, g, z, rfl, I64_of_wf wa, I64_of_wf wb, I64_of_wf wc, I64_of_wf wd, I64_of_wf wf, I64_of_wf wg, I64_of_wf wh⟩

def Is_Handle (_ : World) (v : Value) : Prop := ∃ a b, v = .agg #[.int .i64 a, .int .i64 b] ∧ I64 a ∧ I64 b
theorem opn_Handle (hv : Value.okWide Try.prog W .any base 106 v) (h : DataW.Trod enc Try.prog W 0 (fun _ => true) true 106 v d p) (_hz : ∀ y ∈ d.weights Try.prog 106, y ≤ reachBytes) : Is_Handle W v := by
  obtain ⟨cs, rfl, hc⟩ := open_flat 6 Try.underlying106 (by kernel_rfl : flatK Try.prog 6 106 = some [some .i64, some .i64]) hv h
  obtain ⟨a, _, rfl, wa, hc0⟩ := FlatC_int hc
  obtain ⟨b, _, rfl, wb, hc1⟩ := FlatC_int hc0
  obtain rfl := FlatC_nil hc1
  exact ⟨a, b, rfl, I64_of_wf wa, I64_of_wf wb⟩

def Is_Request (_ : World) (v : Value) : Prop := ∃ a b c d e, v = .agg #[.int .i64 a, .int .i64 b, .int .i64 c, .int .i64 d, .int .i64 e] ∧ I64 a ∧ I64 b ∧ I64 c ∧ I64 d ∧ I64 e
theorem opn_Request (hv : Value.okWide Try.prog W .any base 138 v) (h : DataW.Trod enc Try.prog W 0 (fun _ => true) true 138 v d p) (_hz : ∀ y ∈ d.weights Try.prog 138, y ≤ reachBytes) : Is_Request W v := by
  obtain ⟨cs, rfl, hc⟩ := open_flat 6 Try.underlying138 (by kernel_rfl : flatK Try.prog 6 138 = some [some .i64, some .i64, some .i64, some .i64, some .i64]) hv h
  obtain ⟨a, _, rfl, wa, hc0⟩ := FlatC_int hc
  obtain ⟨b, _, rfl, wb, hc1⟩ := FlatC_int hc0
  obtain ⟨c, _, rfl, wc, hc2⟩ := FlatC_int hc1
  obtain ⟨d, _, rfl, wd, hc3⟩ := FlatC_int hc2
  obtain ⟨e, _, rfl, we, hc4⟩ := FlatC_int hc3
  obtain rfl := FlatC_nil hc4
  exact ⟨a, b, c, d, e, rfl, I64_of_wf wa, I64_of_wf wb, I64_of_wf wc, I64_of_wf wd, I64_of_wf we⟩

def Is_Config (_ : World) (v : Value) : Prop := ∃ a b c d e f g h i j k l m n o q, v = .agg #[.int .i64 a, .int .i64 b, .int .i64 c, .int .i64 d, .int .i64 e, .int .i64 f, .int .i64 g, .int .i64 h, .int .i64 i, .int .i64 j, .int .i64 k, .int .i64 l, .int .i64 m, .int .i64 n, .int .i64 o, .int .i64 q] ∧ I64 a ∧ I64 b ∧ I64 c ∧ I64 d ∧ I64 e ∧ I64 f ∧ I64 g ∧ I64 h ∧ I64 i ∧ I64 j ∧ I64 k ∧ I64 l ∧ I64 m ∧ I64 n ∧ I64 o ∧ I64 q
theorem opn_Config (hv : Value.okWide Try.prog W .any base 40 v) (h : DataW.Trod enc Try.prog W 0 (fun _ => true) true 40 v d p) (_hz : ∀ y ∈ d.weights Try.prog 40, y ≤ reachBytes) : Is_Config W v := by
  obtain ⟨cs, rfl, hc⟩ := open_flat 6 Try.underlying40 (by kernel_rfl : flatK Try.prog 6 40 = some [some .i64, some .i64, some .i64, some .i64, some .i64, some .i64, some .i64, some .i64, some .i64, some .i64, some .i64, some .i64, some .i64, some .i64, some .i64, some .i64]) hv h
  obtain ⟨a, _, rfl, wa, hc0⟩ := FlatC_int hc
  obtain ⟨b, _, rfl, wb, hc1⟩ := FlatC_int hc0
  obtain ⟨c, _, rfl, wc, hc2⟩ := FlatC_int hc1
  obtain ⟨d, _, rfl, wd, hc3⟩ := FlatC_int hc2
  obtain ⟨e, _, rfl, we, hc4⟩ := FlatC_int hc3
  obtain ⟨f, _, rfl, wf, hc5⟩ := FlatC_int hc4
  obtain ⟨g, _, rfl, wg, hc6⟩ := FlatC_int hc5
  obtain ⟨z, _, rfl, wh, hc7⟩ := FlatC_int hc6
  obtain ⟨i, _, rfl, wi, hc8⟩ := FlatC_int hc7
  obtain ⟨j, _, rfl, wj, hc9⟩ := FlatC_int hc8
  obtain ⟨k, _, rfl, wk, hc10⟩ := FlatC_int hc9
  obtain ⟨l, _, rfl, wl, hc11⟩ := FlatC_int hc10
  obtain ⟨m, _, rfl, wm, hc12⟩ := FlatC_int hc11
  obtain ⟨n, _, rfl, wn, hc13⟩ := FlatC_int hc12
  obtain ⟨o, _, rfl, wo, hc14⟩ := FlatC_int hc13
  obtain ⟨q, _, rfl, wq, hc15⟩ := FlatC_int hc14
  obtain rfl := FlatC_nil hc15
  exact ⟨a, b, c, d, e, f, g, z, i, j, k, l, m, n, o, q, rfl, I64_of_wf wa, I64_of_wf wb, I64_of_wf wc, I64_of_wf wd, I64_of_wf we, I64_of_wf wf, I64_of_wf wg, I64_of_wf wh, I64_of_wf wi, I64_of_wf wj, I64_of_wf wk, I64_of_wf wl, I64_of_wf wm, I64_of_wf wn, I64_of_wf wo, I64_of_wf wq⟩

def Is_sl_Output (W : World) (v : Value) : Prop := ∃ X : List Out, RowAt W 7 v (X.map Out.cells) ∧ (∀ x ∈ X, x.ok) ∧ X.length * 56 ≤ 140737488351232

def Is_sl_Load (W : World) (v : Value) : Prop := ∃ X : List Ld, RowAt W 3 v (X.map Ld.cells) ∧ (∀ x ∈ X, x.ok) ∧ X.length * 24 ≤ 140737488351232
theorem opn_sl_Load (hv : Value.okWide Try.prog W .any base 66 v) (h : DataW.Trod enc Try.prog W 0 (fun _ => true) true 66 v d p) (hz : ∀ y ∈ d.weights Try.prog 66, y ≤ reachBytes) : Is_sl_Load W v := by
  obtain ⟨L, hL⟩ := open_slflat 6 Try.underlying66 (by kernel_rfl : flatK Try.prog 6 116 = some [some .i64, some .i64, some .i64]) (by kernel_rfl : Try.prog.cellsOf 116 = 3) hv h hz
  rw [show Try.prog.bytesOf 116 = 24 from by kernel_rfl] at hL
  exact open_rows (by decide) (fun _ => Ld.of_flat) hL

def Is_sl_Event (W : World) (v : Value) : Prop := ∃ X : List Ev, RowAt W 8 v (X.map Ev.cells) ∧ (∀ x ∈ X, x.ok) ∧ X.length * 64 ≤ 140737488351232

def Is_sl_Handle (W : World) (v : Value) : Prop := ∃ X : List Hd, RowAt W 2 v (X.map Hd.cells) ∧ (∀ x ∈ X, x.ok) ∧ X.length * 16 ≤ 140737488351232

def Is_Table (W : World) (v : Value) : Prop := ∃ (s : Value) (X : List Sl), v = .agg #[s] ∧ RowAt W 4 s (X.map Sl.cells) ∧ (∀ x ∈ X, x.ok) ∧ X.length * 32 ≤ 140737488351232
theorem opn_Table (hv : Value.okWide Try.prog W .any base 45 v) (h : DataW.Trod enc Try.prog W 0 (fun _ => true) true 45 v d p) (hz : ∀ y ∈ d.weights Try.prog 45, y ≤ reachBytes) : Is_Table W v := by
  obtain ⟨cs, rfl, hlen, n, hf⟩ := open_fields Try.underlying45 hv h hz
  rw [show Try.prog.cellsOf 45 = 1 from by kernel_rfl] at hlen
  obtain ⟨c0, rfl⟩ : ∃ c, cs = [c] := List.length_eq_one_iff.1 hlen
  obtain ⟨x0, h0, z0⟩ := hf 0 _ rfl
  have h0 : DataW.trod enc Try.prog W 0 (fun _ => true) true n 43 ((([c0] : List Value).drop 0).take (Try.prog.cellsOf 43)) = some x0 := h0
  rw [show Try.prog.cellsOf 43 = 1 from by kernel_rfl] at h0
  obtain ⟨s, L, hs, hL⟩ := open_slflat_cells 6 Try.underlying43 (by kernel_rfl : flatK Try.prog 6 128 = some [some .i64, none, some .i64, some .i64]) (by kernel_rfl : Try.prog.cellsOf 128 = 4) h0 z0
  simp only [List.drop_zero, List.take_succ_cons, List.take_zero, List.cons.injEq, and_true] at hs
  subst hs
  rw [show Try.prog.bytesOf 128 = 32 from by kernel_rfl] at hL
  obtain ⟨X, h1, h2, h3⟩ := open_rows (by decide) (fun _ => Sl.of_flat) hL
  exact ⟨_, X, rfl, h1, h2, h3⟩
end
end Go.Proofs.Ytjfnnbbnkcdbcaa
