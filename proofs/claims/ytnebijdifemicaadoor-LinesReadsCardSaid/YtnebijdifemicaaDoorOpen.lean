/- What is known of each parameter of a law: by its Go type. Conditions: none. -/
import Derived.Test.YtnebijdifemicaaDoorTypes
import Derived.Lib.Hide
namespace Go.Proofs.YtnebijdifemicaaDoor
open Go.ChangeShapes Go.WideShapes Go.ChangeAt Go.RowKit

set_option maxRecDepth 100000
section
variable {H : Type} {enc : TypeId × Value → H} {W : World} {base : Nat} {v : Value} {d : DataW H} {p : List MemPlace}

def Is_int (_ : World) (v : Value) : Prop := ∃ n, v = .int .i64 n ∧ I64 n
theorem opn_int (hv : Value.okWide Tryd.prog W .any base 3 v) (h : DataW.Trod enc Tryd.prog W 0 (fun _ => true) true 3 v d p) (_hz : ∀ y ∈ d.weights Tryd.prog 3, y ≤ reachBytes) : Is_int W v := by
  obtain ⟨x, rfl, _, _, wx⟩ := ChangeShapes.open_int Tryd.underlying3 hv h
  exact ⟨x, rfl, I64_of_wf wx⟩
def Is_bool (_ : World) (v : Value) : Prop := ∃ b, v = .bool b
theorem opn_bool (hv : Value.okWide Tryd.prog W .any base 4 v) (h : DataW.Trod enc Tryd.prog W 0 (fun _ => true) true 4 v d p) (_hz : ∀ y ∈ d.weights Tryd.prog 4, y ≤ reachBytes) : Is_bool W v := by
  obtain ⟨x, rfl, _, _⟩ := RowKit.open_bool Tryd.underlying4 hv h
  exact ⟨x, rfl⟩

def Is_Budget (_ : World) (v : Value) : Prop := ∃ a b c, v = .agg #[.int .i64 a, .int .i64 b, .int .i64 c] ∧ I64 a ∧ I64 b ∧ I64 c

def Is_Bucket (_ : World) (v : Value) : Prop := ∃ a, v = .agg #[.int .i64 a] ∧ I64 a

def Is_Watch (_ : World) (v : Value) : Prop := ∃ a b c, v = .agg #[.int .i64 a, .int .i64 b, .int .i64 c] ∧ I64 a ∧ I64 b ∧ I64 c

def Is_Event (_ : World) (v : Value) : Prop := ∃ a b c d e f g h, v = .agg #[.int .i64 a, .int .i64 b, .int .i64 c, .int .i64 d, .bool e, .int .i64 f, .int .i64 g, .int .i64 h] ∧ I64 a ∧ I64 b ∧ I64 c ∧ I64 d ∧ I64 f ∧ I64 g ∧ I64 h
theorem opn_Event (hv : Value.okWide Tryd.prog W .any base 37 v) (h : DataW.Trod enc Tryd.prog W 0 (fun _ => true) true 37 v d p) (_hz : ∀ y ∈ d.weights Tryd.prog 37, y ≤ reachBytes) : Is_Event W v := by
  obtain ⟨cs, rfl, hc⟩ := open_flat 6 Tryd.underlying37 (by kernel_rfl : flatK Tryd.prog 6 37 = some [some .i64, some .i64, some .i64, some .i64, none, some .i64, some .i64, some .i64]) hv h
  obtain ⟨a, _, rfl, wa, hc0⟩ := FlatC_int hc
  obtain ⟨b, _, rfl, wb, hc1⟩ := FlatC_int hc0
  obtain ⟨c, _, rfl, wc, hc2⟩ := FlatC_int hc1
  obtain ⟨d, _, rfl, wd, hc3⟩ := FlatC_int hc2
  obtain ⟨e, _, rfl, hc4⟩ := FlatC_bool hc3
  obtain ⟨f, _, rfl, wf, hc5⟩ := FlatC_int hc4
  obtain ⟨g, _, rfl, wg, hc6⟩ := FlatC_int hc5
  obtain ⟨z, _, rfl, wh, hc7⟩ := FlatC_int hc6
  obtain rfl := FlatC_nil hc7
  exact ⟨a, b, c, d, e, f, g, z, rfl, I64_of_wf wa, I64_of_wf wb, I64_of_wf wc, I64_of_wf wd, I64_of_wf wf, I64_of_wf wg, I64_of_wf wh⟩

def Is_Handle (_ : World) (v : Value) : Prop := ∃ a b, v = .agg #[.int .i64 a, .int .i64 b] ∧ I64 a ∧ I64 b

def Is_Request (_ : World) (v : Value) : Prop := ∃ a b c d e, v = .agg #[.int .i64 a, .int .i64 b, .int .i64 c, .int .i64 d, .int .i64 e] ∧ I64 a ∧ I64 b ∧ I64 c ∧ I64 d ∧ I64 e

def Is_Config (_ : World) (v : Value) : Prop := ∃ a b c d e f g h i j k l m n o q, v = .agg #[.int .i64 a, .int .i64 b, .int .i64 c, .int .i64 d, .int .i64 e, .int .i64 f, .int .i64 g, .int .i64 h, .int .i64 i, .int .i64 j, .int .i64 k, .int .i64 l, .int .i64 m, .int .i64 n, .int .i64 o, .int .i64 q] ∧ I64 a ∧ I64 b ∧ I64 c ∧ I64 d ∧ I64 e ∧ I64 f ∧ I64 g ∧ I64 h ∧ I64 i ∧ I64 j ∧ I64 k ∧ I64 l ∧ I64 m ∧ I64 n ∧ I64 o ∧ I64 q

def Is_sl_Output (W : World) (v : Value) : Prop := ∃ X : List Out, RowAt W 7 v (X.map Out.cells) ∧ (∀ x ∈ X, x.ok) ∧ X.length * 56 ≤ 140737488351232

def Is_sl_Load (W : World) (v : Value) : Prop := ∃ X : List Ld, RowAt W 3 v (X.map Ld.cells) ∧ (∀ x ∈ X, x.ok) ∧ X.length * 24 ≤ 140737488351232

def Is_sl_Event (W : World) (v : Value) : Prop := ∃ X : List Ev, RowAt W 8 v (X.map Ev.cells) ∧ (∀ x ∈ X, x.ok) ∧ X.length * 64 ≤ 140737488351232
theorem opn_sl_Event (hv : Value.okWide Tryd.prog W .any base 22 v) (h : DataW.Trod enc Tryd.prog W 0 (fun _ => true) true 22 v d p) (hz : ∀ y ∈ d.weights Tryd.prog 22, y ≤ reachBytes) : Is_sl_Event W v := by
  obtain ⟨L, hL⟩ := open_slflat 6 Tryd.underlying22 (by kernel_rfl : flatK Tryd.prog 6 37 = some [some .i64, some .i64, some .i64, some .i64, none, some .i64, some .i64, some .i64]) (by kernel_rfl : Tryd.prog.cellsOf 37 = 8) hv h hz
  rw [show Tryd.prog.bytesOf 37 = 64 from by kernel_rfl] at hL
  exact open_rows (by decide) (fun _ => Ev.of_flat) hL

def Is_sl_Handle (W : World) (v : Value) : Prop := ∃ X : List Hd, RowAt W 2 v (X.map Hd.cells) ∧ (∀ x ∈ X, x.ok) ∧ X.length * 16 ≤ 140737488351232

def Is_Table (W : World) (v : Value) : Prop := ∃ (s : Value) (X : List Sl), v = .agg #[s] ∧ RowAt W 4 s (X.map Sl.cells) ∧ (∀ x ∈ X, x.ok) ∧ X.length * 32 ≤ 140737488351232
end
end Go.Proofs.YtnebijdifemicaaDoor
