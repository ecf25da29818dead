/- What is known of each parameter of a law: by its Go type. Conditions: none. -/
import Derived.Test.YthgfiadfpgfjdaaTypes
import Derived.Lib.Hide
namespace Go.Proofs.Ythgfiadfpgfjdaa
open Go.ChangeShapes Go.WideShapes Go.ChangeAt Go.RowKit

set_option maxRecDepth 100000
section
variable {H : Type} {enc : TypeId × Value → H} {W : World} {base : Nat} {v : Value} {d : DataW H} {p : List MemPlace}

def Is_int (_ : World) (v : Value) : Prop := ∃ n, v = .int .i64 n ∧ I64 n
theorem opn_int (hv : Value.okWide Try.prog W .any base 3 v) (h : DataW.Trod enc Try.prog W 0 (fun _ => true) true 3 v d p) (_hz : ∀ y ∈ d.weights Try.prog 3, y ≤ reachBytes) : Is_int W v := by
  obtain ⟨x, rfl, _, _, wx⟩ := ChangeShapes.open_int Try.underlying3 hv h
  exact ⟨x, rfl, I64_of_wf wx⟩
def Is_bool (_ : World) (v : Value) : Prop := ∃ b, v = .bool b
theorem opn_bool (hv : Value.okWide Try.prog W .any base 4 v) (h : DataW.Trod enc Try.prog W 0 (fun _ => true) true 4 v d p) (_hz : ∀ y ∈ d.weights Try.prog 4, y ≤ reachBytes) : Is_bool W v := by
  obtain ⟨x, rfl, _, _⟩ := RowKit.open_bool Try.underlying4 hv h
  exact ⟨x, rfl⟩

def Is_Budget (_ : World) (v : Value) : Prop := ∃ a b c, v = .agg #[.int .i64 a, .int .i64 b, .int .i64 c] ∧ I64 a ∧ I64 b ∧ I64 c

def Is_Bucket (_ : World) (v : Value) : Prop := ∃ a, v = .agg #[.int .i64 a] ∧ I64 a

def Is_Watch (_ : World) (v : Value) : Prop := ∃ a b c, v = .agg #[.int .i64 a, .int .i64 b, .int .i64 c] ∧ I64 a ∧ I64 b ∧ I64 c

def Is_Event (_ : World) (v : Value) : Prop := ∃ a b c d e f g h, v = .agg #[.int .i64 a, .int .i64 b, .int .i64 c, .int .i64 d, .bool e, .int .i64 f, .int .i64 g, .int .i64 h] ∧ I64 a ∧ I64 b ∧ I64 c ∧ I64 d ∧ I64 f ∧ I64 g ∧ I64 h

def Is_Handle (_ : World) (v : Value) : Prop := ∃ a b, v = .agg #[.int .i64 a, .int .i64 b] ∧ I64 a ∧ I64 b

def Is_Request (_ : World) (v : Value) : Prop := ∃ a b c d e, v = .agg #[.int .i64 a, .int .i64 b, .int .i64 c, .int .i64 d, .int .i64 e] ∧ I64 a ∧ I64 b ∧ I64 c ∧ I64 d ∧ I64 e

def Is_Config (_ : World) (v : Value) : Prop := ∃ a b c d e f g h i j k l m n o q, v = .agg #[.int .i64 a, .int .i64 b, .int .i64 c, .int .i64 d, .int .i64 e, .int .i64 f, .int .i64 g, .int .i64 h, .int .i64 i, .int .i64 j, .int .i64 k, .int .i64 l, .int .i64 m, .int .i64 n, .int .i64 o, .int .i64 q] ∧ I64 a ∧ I64 b ∧ I64 c ∧ I64 d ∧ I64 e ∧ I64 f ∧ I64 g ∧ I64 h ∧ I64 i ∧ I64 j ∧ I64 k ∧ I64 l ∧ I64 m ∧ I64 n ∧ I64 o ∧ I64 q

def Is_sl_Output (W : World) (v : Value) : Prop := ∃ X : List Out, RowAt W 7 v (X.map Out.cells) ∧ (∀ x ∈ X, x.ok) ∧ X.length * 56 ≤ 140737488351232

def Is_sl_Load (W : World) (v : Value) : Prop := ∃ X : List Ld, RowAt W 3 v (X.map Ld.cells) ∧ (∀ x ∈ X, x.ok) ∧ X.length * 24 ≤ 140737488351232

def Is_sl_Event (W : World) (v : Value) : Prop := ∃ X : List Ev, RowAt W 8 v (X.map Ev.cells) ∧ (∀ x ∈ X, x.ok) ∧ X.length * 64 ≤ 140737488351232

def Is_sl_Handle (W : World) (v : Value) : Prop := ∃ X : List Hd, RowAt W 2 v (X.map Hd.cells) ∧ (∀ x ∈ X, x.ok) ∧ X.length * 16 ≤ 140737488351232

def Is_Table (W : World) (v : Value) : Prop := ∃ (s : Value) (X : List Sl), v = .agg #[s] ∧ RowAt W 4 s (X.map Sl.cells) ∧ (∀ x ∈ X, x.ok) ∧ X.length * 32 ≤ 140737488351232
end
end Go.Proofs.Ythgfiadfpgfjdaa
