/- What is known of each parameter of a law: by its Go type. Conditions: none. -/
import Derived.Test.YtehodcjnbkkkeaaRows
import Derived.Test.YtehodcjnbkkkeaaLib
namespace Go.Proofs.Ytehodcjnbkkkeaa
open Go.ChangeShapes Go.WideShapes Go.ChangeAt Go.RowKit

/-- The range of Go's int. -/
def I64 (n : Int) : Prop := -9223372036854775808 ≤ n ∧ n ≤ 9223372036854775807
theorem I64_of_wf {n : Int} (h : (Lit.int .i64 n).wf = true) : I64 n := by
  simp [Lit.wf, IntKind.min, IntKind.max, IntKind.signed, IntKind.bits] at h
  unfold I64; omega

theorem FlatC_int {k : IntKind} {ks : List (Option IntKind)} {cs : List Value} (h : FlatC (some k :: ks) cs) : ∃ n vs, cs = .int k n :: vs ∧ (Lit.int k n).wf = true ∧ FlatC ks vs := by
  cases cs with
  | nil => simp [FlatC] at h
  | cons v vs => simp only [FlatC] at h; obtain ⟨⟨n, rfl, hw⟩, h2⟩ := h; exact ⟨n, vs, rfl, hw, h2⟩
theorem FlatC_bool {ks : List (Option IntKind)} {cs : List Value} (h : FlatC (none :: ks) cs) : ∃ b vs, cs = .bool b :: vs ∧ FlatC ks vs := by
  cases cs with
  | nil => simp [FlatC] at h
  | cons v vs => simp only [FlatC] at h; obtain ⟨⟨n, rfl⟩, h2⟩ := h; exact ⟨n, vs, rfl, h2⟩
theorem FlatC_nil {cs : List Value} (h : FlatC [] cs) : cs = [] := by
  cases cs with
  | nil => rfl
  | cons v vs => simp [FlatC] at h

section
variable {H : Type} {enc : TypeId × Value → H} {W : World} {base : Nat} {v : Value} {d : DataW H} {p : List MemPlace}

def Is_int (_ : World) (v : Value) : Prop := ∃ n, v = .int .i64 n ∧ I64 n
theorem opn_int (hv : Value.okWide Try.prog W .any base 3 v) (h : DataW.Trod enc Try.prog W 0 (fun _ => true) true 3 v d p) : Is_int W v := by
  obtain ⟨x, rfl, _, _, wx⟩ := ChangeShapes.open_int Try.underlying3 hv h
  exact ⟨x, rfl, I64_of_wf wx⟩

def Is_Budget (_ : World) (v : Value) : Prop := ∃ a b c, v = .agg #[.int .i64 a, .int .i64 b, .int .i64 c] ∧ I64 a ∧ I64 b ∧ I64 c
theorem opn_Budget (hv : Value.okWide Try.prog W .any base 44 v) (h : DataW.Trod enc Try.prog W 0 (fun _ => true) true 44 v d p) : Is_Budget W v := by
  obtain ⟨cs, rfl, hc⟩ := open_flat 6 Try.underlying44 (by kernel_rfl : flatK Try.prog 6 44 = some [some .i64, some .i64, some .i64]) hv h
  obtain ⟨a, _, rfl, wa, hc⟩ := FlatC_int hc
  obtain ⟨b, _, rfl, wb, hc⟩ := FlatC_int hc
  obtain ⟨c, _, rfl, wc, hc⟩ := FlatC_int hc
  obtain rfl := FlatC_nil hc
  exact ⟨a, b, c, rfl, I64_of_wf wa, I64_of_wf wb, I64_of_wf wc⟩

def Is_Bucket (_ : World) (v : Value) : Prop := ∃ a, v = .agg #[.int .i64 a] ∧ I64 a
theorem opn_Bucket (hv : Value.okWide Try.prog W .any base 60 v) (h : DataW.Trod enc Try.prog W 0 (fun _ => true) true 60 v d p) : Is_Bucket W v := by
  obtain ⟨cs, rfl, hc⟩ := open_flat 6 Try.underlying60 (by kernel_rfl : flatK Try.prog 6 60 = some [some .i64]) hv h
  obtain ⟨a, _, rfl, wa, hc⟩ := FlatC_int hc
  obtain rfl := FlatC_nil hc
  exact ⟨a, rfl, I64_of_wf wa⟩

def Is_Watch (_ : World) (v : Value) : Prop := ∃ a b c, v = .agg #[.int .i64 a, .int .i64 b, .int .i64 c] ∧ I64 a ∧ I64 b ∧ I64 c
theorem opn_Watch (hv : Value.okWide Try.prog W .any base 48 v) (h : DataW.Trod enc Try.prog W 0 (fun _ => true) true 48 v d p) : Is_Watch W v := by
  obtain ⟨cs, rfl, hc⟩ := open_flat 6 Try.underlying48 (by kernel_rfl : flatK Try.prog 6 48 = some [some .i64, some .i64, some .i64]) hv h
  obtain ⟨a, _, rfl, wa, hc⟩ := FlatC_int hc
  obtain ⟨b, _, rfl, wb, hc⟩ := FlatC_int hc
  obtain ⟨c, _, rfl, wc, hc⟩ := FlatC_int hc
  obtain rfl := FlatC_nil hc
  exact ⟨a, b, c, rfl, I64_of_wf wa, I64_of_wf wb, I64_of_wf wc⟩

def Is_Event (_ : World) (v : Value) : Prop := ∃ a b c d e f g h, v = .agg #[.int .i64 a, .int .i64 b, .int .i64 c, .int .i64 d, .bool e, .int .i64 f, .int .i64 g, .int .i64 h] ∧ I64 a ∧ I64 b ∧ I64 c ∧ I64 d ∧ I64 f ∧ I64 g ∧ I64 h

def Is_Handle (_ : World) (v : Value) : Prop := ∃ a b, v = .agg #[.int .i64 a, .int .i64 b] ∧ I64 a ∧ I64 b

def Is_Request (_ : World) (v : Value) : Prop := ∃ a b c d e, v = .agg #[.int .i64 a, .int .i64 b, .int .i64 c, .int .i64 d, .int .i64 e] ∧ I64 a ∧ I64 b ∧ I64 c ∧ I64 d ∧ I64 e

def Is_Config (_ : World) (v : Value) : Prop := ∃ a b c d e f g h i j k l m n o q, v = .agg #[.int .i64 a, .int .i64 b, .int .i64 c, .int .i64 d, .int .i64 e, .int .i64 f, .int .i64 g, .int .i64 h, .int .i64 i, .int .i64 j, .int .i64 k, .int .i64 l, .int .i64 m, .int .i64 n, .int .i64 o, .int .i64 q] ∧ I64 a ∧ I64 b ∧ I64 c ∧ I64 d ∧ I64 e ∧ I64 f ∧ I64 g ∧ I64 h ∧ I64 i ∧ I64 j ∧ I64 k ∧ I64 l ∧ I64 m ∧ I64 n ∧ I64 o ∧ I64 q

def Is_sl_Output (W : World) (v : Value) : Prop := ∃ L, SlFlat W [some .i64, some .i64, some .i64, some .i64, some .i64, some .i64, some .i64] v L
theorem opn_sl_Output (hv : Value.okWide Try.prog W .any base 63 v) (h : DataW.Trod enc Try.prog W 0 (fun _ => true) true 63 v d p) : Is_sl_Output W v :=
  open_slflat 6 Try.underlying63 (by kernel_rfl) (by kernel_rfl : Try.prog.cellsOf 89 = 7) hv h

def Is_sl_Load (W : World) (v : Value) : Prop := ∃ L, SlFlat W [some .i64, some .i64, some .i64] v L

def Is_sl_Event (W : World) (v : Value) : Prop := ∃ L, SlFlat W [some .i64, some .i64, some .i64, some .i64, none, some .i64, some .i64, some .i64] v L

def Is_sl_int (W : World) (v : Value) : Prop := ∃ L, SlFlat W [some .i64] v L
theorem opn_sl_int (hv : Value.okWide Try.prog W .any base 24 v) (h : DataW.Trod enc Try.prog W 0 (fun _ => true) true 24 v d p) : Is_sl_int W v :=
  open_slflat 6 Try.underlying24 (by kernel_rfl) (by kernel_rfl : Try.prog.cellsOf 3 = 1) hv h

def Is_sl_uint8 (W : World) (v : Value) : Prop := ∃ L, SlFlat W [some .u8] v L
theorem opn_sl_uint8 (hv : Value.okWide Try.prog W .any base 100 v) (h : DataW.Trod enc Try.prog W 0 (fun _ => true) true 100 v d p) : Is_sl_uint8 W v :=
  open_slflat 6 Try.underlying100 (by kernel_rfl) (by kernel_rfl : Try.prog.cellsOf 5 = 1) hv h

end
end Go.Proofs.Ytehodcjnbkkkeaa
