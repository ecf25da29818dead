/- Generic lemmas: reading a flat struct, or a slice of flat structs, out of the form's reading of the arguments. Conditions: none. -/
import Derived.WalkKit
import Derived.ProofKit
import Derived.OpenShut
import Derived.ShutString
import Derived.Below
import Derived.Deep.Slices
import Derived.SizedLaws
namespace Go.Proofs.YtnebijdifemicaaDoor
open Go.ChangeShapes Go.WideShapes Go.ChangeAt Go.RowKit

/-- The kinds of a flat type's cells: some k: an integer of kind k; none: a bool. -/
def flatK (P : Program) : Nat → TypeId → Option (List (Option IntKind))
  | 0, _ => none
  | n + 1, t =>
    match P.underlying t with
    | some (.int k) => some [some k]
    | some .bool => some [none]
    | some (.struct fs) =>
      match fs.toList.foldl (fun (acc : Option (List (Option IntKind))) f => acc.bind fun l => (flatK P n f.type).bind fun m => if f.offset = l.length ∧ P.cellsOf f.type = m.length then some (l ++ m) else none) (some []) with
      | some l => if P.cellsOf t = l.length then some l else none
      | none => none
    | _ => none

/-- Cells of these kinds. -/
def FlatC : List (Option IntKind) → List Value → Prop
  | [], [] => True
  | some k :: ks, v :: vs => (∃ n, v = .int k n ∧ (Lit.int k n).wf = true) ∧ FlatC ks vs
  | none :: ks, v :: vs => (∃ b, v = .bool b) ∧ FlatC ks vs
  | _, _ => False

theorem FlatC_append {ks : List (Option IntKind)} : ∀ {cs : List Value} {ks' : List (Option IntKind)} {cs' : List Value}, FlatC ks cs → FlatC ks' cs' → FlatC (ks ++ ks') (cs ++ cs') := by
  induction ks with
  | nil => intro cs ks' cs' h h'; cases cs with
    | nil => simpa using h'
    | cons v vs => simp [FlatC] at h
  | cons k ks ih => intro cs ks' cs' h h'; cases cs with
    | nil => cases k <;> simp [FlatC] at h
    | cons v vs => cases k <;> (simp only [FlatC] at h; simp only [List.cons_append, FlatC]; exact ⟨h.1, ih h.2 h'⟩)

theorem FlatC_length {ks : List (Option IntKind)} : ∀ {cs : List Value}, FlatC ks cs → cs.length = ks.length := by
  induction ks with
  | nil => intro cs h; cases cs with
    | nil => rfl
    | cons v vs => simp [FlatC] at h
  | cons k ks ih => intro cs h; cases cs with
    | nil => cases k <;> simp [FlatC] at h
    | cons v vs => cases k <;> (simp only [FlatC] at h; simp [ih h.2])

section
variable {H : Type} {enc : TypeId × Value → H} {P : Program} {w : World} {base : Nat} {spare : Nat → Bool} {held : Bool}

theorem foldl_none (P : Program) (n : Nat) (l : List Field) : l.foldl (fun (acc : Option (List (Option IntKind))) f => acc.bind fun l => (flatK P n f.type).bind fun m => if f.offset = l.length ∧ P.cellsOf f.type = m.length then some (l ++ m) else none) none = none := by
  induction l with
  | nil => rfl
  | cons f l ih => simpa using ih

theorem flat_fields (n : Nat) (cs : List Value)
    (hrec : ∀ t ks, flatK P n t = some ks → ∀ (fuel : Nat) (c : List Value) (x : DataW H × List MemPlace), DataW.trod enc P w base spare held fuel t c = some x → FlatC ks c) :
    ∀ (fs : List Field) (l0 ks : List (Option IntKind)) (fuel : Nat), FlatC l0 (cs.take l0.length) →
      (∀ f ∈ fs, ∃ x : DataW H × List MemPlace, DataW.trod enc P w base spare held fuel f.type ((cs.drop f.offset).take (P.cellsOf f.type)) = some x) →
      fs.foldl (fun (acc : Option (List (Option IntKind))) f => acc.bind fun l => (flatK P n f.type).bind fun m => if f.offset = l.length ∧ P.cellsOf f.type = m.length then some (l ++ m) else none) (some l0) = some ks →
      FlatC ks (cs.take ks.length) := by
  intro fs
  induction fs with
  | nil => intro l0 ks fuel h _ he; simp at he; subst he; exact h
  | cons f fs ih =>
    intro l0 ks fuel h hf he
    simp only [List.foldl_cons, Option.bind_some] at he
    cases hm : flatK P n f.type with
    | none => rw [hm] at he; simp only [Option.bind_none] at he; rw [foldl_none] at he; cases he
    | some m =>
      rw [hm] at he
      simp only [Option.bind_some] at he
      by_cases hc : f.offset = l0.length ∧ P.cellsOf f.type = m.length
      · rw [if_pos hc] at he
        refine ih (l0 ++ m) ks fuel ?_ (fun g hg => hf g (List.mem_cons_of_mem _ hg)) he
        obtain ⟨x, hx⟩ := hf f List.mem_cons_self
        have h2 := hrec _ _ hm _ _ _ hx
        rw [hc.1, hc.2] at h2
        rw [List.length_append, List.take_add]
        exact FlatC_append h h2
      · rw [if_neg hc, foldl_none] at he; cases he

theorem flat_of_trod : ∀ (n : Nat) (t : TypeId) (ks : List (Option IntKind)), flatK P n t = some ks → ∀ (fuel : Nat) (cs : List Value) (x : DataW H × List MemPlace), DataW.trod enc P w base spare held fuel t cs = some x → FlatC ks cs := by
  intro n
  induction n with
  | zero => intro t ks h; simp [flatK] at h
  | succ n ih =>
    intro t ks h fuel cs x hx
    unfold flatK at h
    split at h
    · rename_i k hk
      simp at h; subst h
      cases fuel with
      | zero => simp [DataW.trod] at hx
      | succ fuel =>
        unfold DataW.trod at hx
        rw [hk] at hx
        split at hx <;> simp_all [FlatC]
    · rename_i hk
      simp at h; subst h
      cases fuel with
      | zero => simp [DataW.trod] at hx
      | succ fuel =>
        unfold DataW.trod at hx
        rw [hk] at hx
        split at hx <;> simp_all [FlatC]
    · rename_i fs hk
      split at h
      · rename_i l hl
        split at h
        · rename_i hcl
          simp at h; subst h
          obtain ⟨xs, m, rfl, rfl, hlen, hxl, hf⟩ := DataW.trod_struct hk hx
          have := flat_fields (P := P) n cs (fun t ks h fuel c x hx => ih t ks h fuel c x hx) fs.toList [] l m (by simp [FlatC]) ?_ hl
          · rw [← hcl, ← hlen, List.take_length] at this; exact this
          · intro f hfm
            obtain ⟨i, hi, hfi⟩ := List.mem_iff_getElem.1 hfm
            have h1 : fs[i]? = some f := by
              rw [← Array.getElem?_toList, List.getElem?_eq_getElem hi, hfi]
            have h2 := hf i f h1
            have hi' : i < xs.length := by rw [hxl]; simpa using hi
            rw [List.getElem?_eq_getElem hi'] at h2
            exact ⟨_, h2⟩
        · cases h
      · cases h
    · cases h

/-- A flat struct by value. -/
theorem open_flat {t : TypeId} {ks : List (Option IntKind)} {v : Value} {d : DataW H} {p : List MemPlace} {fs : Array Field} (n : Nat) (hs : P.underlying t = some (.struct fs)) (hk : flatK P n t = some ks)
    (hv : Value.okWide P w .any base t v) (h : DataW.Trod enc P w 0 (fun _ => true) true t v d p) : ∃ cs : List Value, v = .agg cs.toArray ∧ FlatC ks cs := by
  unfold Value.okWide at hv
  rw [hs] at hv
  obtain ⟨cs, rfl, _, _⟩ := hv
  obtain ⟨fuel, hf⟩ := h
  exact ⟨cs.toList, by simp, flat_of_trod n t ks hk fuel _ _ hf⟩

/-- A struct's fields, each with its own reading and its own weights. -/
theorem open_fields_cells {t : TypeId} {fs : Array Field} {fuel : Nat} {cs : List Value} {x : DataW H × List MemPlace} (hs : P.underlying t = some (.struct fs)) (h : DataW.trod enc P w base spare held fuel t cs = some x) (hz : ∀ y ∈ x.1.weights P t, y ≤ reachBytes) :
    cs.length = P.cellsOf t ∧ ∃ n, ∀ (i : Nat) (f : Field), fs[i]? = some f → ∃ x : DataW H × List MemPlace, DataW.trod enc P w base spare held n f.type ((cs.drop f.offset).take (P.cellsOf f.type)) = some x ∧ ∀ y ∈ x.1.weights P f.type, y ≤ reachBytes := by
  obtain ⟨xs, n, rfl, rfl, hlen, hxl, hf⟩ := DataW.trod_struct hs h
  refine ⟨hlen, n, fun i f hfi => ?_⟩
  have h2 := hf i f hfi
  have hi : i < fs.size := by
    rcases Nat.lt_or_ge i fs.size with h | h
    · exact h
    · rw [Array.getElem?_eq_none h] at hfi; cases hfi
  have hi' : i < xs.length := by omega
  rw [List.getElem?_eq_getElem hi'] at h2
  refine ⟨_, h2, fun y hy => hz y ?_⟩
  simp only [DataW.weights, hs]
  refine DataW.weights_mem_each (j := i) (t := f.type) ?_ ?_ y hy
  · rw [List.getElem?_map, Array.getElem?_toList, hfi]; rfl
  · rw [List.getElem?_map, List.getElem?_eq_getElem hi']; rfl

theorem open_fields {t : TypeId} {fs : Array Field} {v : Value} {d : DataW H} {p : List MemPlace} (hs : P.underlying t = some (.struct fs)) (hv : Value.okWide P w .any base t v) (h : DataW.Trod enc P w 0 (fun _ => true) true t v d p) (hz : ∀ y ∈ d.weights P t, y ≤ reachBytes) :
    ∃ cs : List Value, v = .agg cs.toArray ∧ cs.length = P.cellsOf t ∧ ∃ n, ∀ (i : Nat) (f : Field), fs[i]? = some f → ∃ x : DataW H × List MemPlace, DataW.trod enc P w 0 (fun _ => true) true n f.type ((cs.drop f.offset).take (P.cellsOf f.type)) = some x ∧ ∀ y ∈ x.1.weights P f.type, y ≤ reachBytes := by
  unfold Value.okWide at hv
  rw [hs] at hv
  obtain ⟨cs, rfl, _, _⟩ := hv
  obtain ⟨fuel, hf⟩ := h
  exact ⟨cs.toList, by simp, open_fields_cells hs hf hz⟩

/-- What is known of a slice of flat things that came in. -/
def SlFlat (w : World) (ks : List (Option IntKind)) (bytes : Nat) (v : Value) (L : List (List Value)) : Prop :=
  ∃ (a : Option Addr) (cap : Nat), v = .slice a L.length cap ∧ L.length ≤ cap ∧ cap ≤ maxLen ∧ L.length * bytes ≤ 140737488351232 ∧ (a = none → cap = 0) ∧ (∀ c ∈ L, FlatC ks c) ∧
    ∀ ad, a = some ad → ∀ i j, i < L.length → j < ks.length → w.cell? (ad.add (i * ks.length + j)) = (L.getD i [])[j]?

theorem cells?_spec {a : Addr} {n : Nat} {cs : List Value} (h : w.cells? base a n = some cs) : cs.length = n ∧ ∀ j, j < n → w.cell? (a.add j) = cs[j]? := by
  unfold World.cells? at h
  split at h
  · have key : ∀ (l : List Nat) (cs : List Value), l.mapM (fun i => w.cell? (a.add i)) = some cs → cs.length = l.length ∧ ∀ j (hj : j < l.length), w.cell? (a.add l[j]) = cs[j]? := by
      intro l
      induction l with
      | nil => intro cs h; simp at h; subst h; simp
      | cons i l ih =>
        intro cs h
        simp only [List.mapM_cons, Option.bind_eq_bind, Option.bind_eq_some_iff, Option.pure_def, Option.some.injEq] at h
        obtain ⟨v, hv, vs, hvs, rfl⟩ := h
        obtain ⟨h1, h2⟩ := ih vs hvs
        refine ⟨by simp [h1], fun j hj => ?_⟩
        cases j with
        | zero => simpa using hv
        | succ j => simpa using h2 j (by simpa using hj)
    obtain ⟨h1, h2⟩ := key _ _ h
    refine ⟨by simpa using h1, fun j hj => ?_⟩
    have := h2 j (by simpa using hj)
    simpa using this
  · cases h

/-- A slice's cells, of flat elements. -/
theorem open_slflat_cells {t e : TypeId} {ks : List (Option IntKind)} (n : Nat) (ht : P.underlying t = some (.slice e)) (hk : flatK P n e = some ks) (hc : P.cellsOf e = ks.length) {fuel : Nat} {cs : List Value}
    {x : DataW H × List MemPlace} (h : DataW.trod enc P w base spare held fuel t cs = some x) (hz : ∀ y ∈ x.1.weights P t, y ≤ reachBytes) : ∃ v L, cs = [v] ∧ SlFlat w ks (P.bytesOf e) v L := by
  rcases Go.Deep.open_slice ht h with ⟨rfl, rfl⟩ | ⟨a, len, cap, m, n', D, Pl, rfl, hb, hl, hm, rfl, rfl, hel⟩
  · exact ⟨_, [], rfl, none, 0, rfl, by simp, by unfold maxLen; omega, by simp, fun _ => rfl, by simp, by simp⟩
  · have hlt : ∀ i, i < len → i < (if spare a.block = true then cap else len) := by intro i hi; split <;> omega
    obtain ⟨f, hf⟩ := Go.Deep.choose_lt (α := List Value) (n := len) (p := fun i cs' => w.cells? base (a.add (i * P.cellsOf e)) (P.cellsOf e) = some cs' ∧ FlatC ks cs') (by
      intro i hi
      obtain ⟨cs', h1, h2⟩ := hel i (hlt i hi)
      exact ⟨cs', h1, flat_of_trod n e ks hk _ _ _ h2⟩)
    have hbd : len * P.bytesOf e ≤ 140737488351232 := by
      have h1 := hz ((len + ((if spare a.block = true then cap else len) - len)) * P.bytesOf e) (by simp [DataW.weights, ht])
      have h2 : len * P.bytesOf e ≤ (len + ((if spare a.block = true then cap else len) - len)) * P.bytesOf e := Nat.mul_le_mul_right _ (by omega)
      have h3 : reachBytes = 140737488351232 := by decide
      omega
    refine ⟨_, (List.range len).map f, rfl, some a, cap, by simp, by simpa using hl, hm, by simpa using hbd, by simp, ?_, ?_⟩
    · intro c hcm
      simp only [List.mem_map, List.mem_range] at hcm
      obtain ⟨i, hi, rfl⟩ := hcm
      exact (hf i hi).2
    · intro ad had i j hi hj
      simp only [Option.some.injEq] at had; subst had
      simp only [List.length_map, List.length_range] at hi
      have h1 := (cells?_spec (hf i hi).1).2 j (by rw [hc]; exact hj)
      rw [Go.Deep.add_add, hc] at h1
      rw [h1]
      simp [List.getD, hi]

/-- A slice of flat elements, as an argument. -/
theorem open_slflat {t e : TypeId} {ks : List (Option IntKind)} {v : Value} {d : DataW H} {p : List MemPlace} (n : Nat) (ht : P.underlying t = some (.slice e)) (hk : flatK P n e = some ks) (hc : P.cellsOf e = ks.length)
    (hv : Value.okWide P w .any base t v) (h : DataW.Trod enc P w 0 (fun _ => true) true t v d p) (hz : ∀ y ∈ d.weights P t, y ≤ reachBytes) : ∃ L, SlFlat w ks (P.bytesOf e) v L := by
  obtain ⟨a0, len, cap, rfl⟩ := okWide_slice ht hv
  obtain ⟨fuel, hf⟩ := h
  obtain ⟨v, L, hcs, hL⟩ := open_slflat_cells n ht hk hc hf hz
  simp [Value.cells] at hcs
  subst hcs
  exact ⟨L, hL⟩
end

/-- The range of Go's int. -/
def I64 (n : Int) : Prop := -9223372036854775808 ≤ n ∧ n ≤ 9223372036854775807
theorem I64_of_wf {n : Int} (h : (Lit.int .i64 n).wf = true) : I64 n := by
  simp [Lit.wf, IntKind.min, IntKind.max, IntKind.signed, IntKind.bits] at h
  unfold I64; omega

theorem FlatC_int {k : IntKind} {ks : List (Option IntKind)} {cs : List Value} (h : FlatC (some k :: ks) cs) : ∃ n vs, cs = .int k n :: vs ∧ (Lit.int k n).wf = true ∧ FlatC ks vs := by
  cases cs with
  | nil => simp [FlatC] at h
  | cons v vs => simp only [FlatC] at h; obtain ⟨⟨n, rfl, hw⟩, h2⟩ := h; exact ⟨n, vs, rfl, hw, h2⟩
theorem FlatC_bool {ks : List (Option IntKind)} {cs : List Value} (h : FlatC (none :: ks) cs) : ∃ b vs, cs = .bool b :: vs ∧ FlatC ks vs := by
  cases cs with
  | nil => simp [FlatC] at h
  | cons v vs => simp only [FlatC] at h; obtain ⟨⟨n, rfl⟩, h2⟩ := h; exact ⟨n, vs, rfl, h2⟩
theorem FlatC_nil {cs : List Value} (h : FlatC [] cs) : cs = [] := by
  cases cs with
  | nil => rfl
  | cons v vs => simp [FlatC] at h
end Go.Proofs.YtnebijdifemicaaDoor
