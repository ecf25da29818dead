/- Lean structures for the flat Go structs: their cells. -/
import Derived.Test.YtnebijdifemicaaDoorRow
namespace Go.Proofs.YtnebijdifemicaaDoor
open Go.RowKit

/-- api.Output -/
structure Out where
  kind : Int
  slot : Int
  gen : Int
  backend : Int
  request : Int
  code : Int
  why : Int
  deriving DecidableEq
def Out.cells (x : Out) : List Value := [.int .i64 x.kind, .int .i64 x.slot, .int .i64 x.gen, .int .i64 x.backend, .int .i64 x.request, .int .i64 x.code, .int .i64 x.why]
def Out.zero : Out := ⟨0, 0, 0, 0, 0, 0, 0⟩
def Out.ok (x : Out) : Prop := I64 x.kind ∧ I64 x.slot ∧ I64 x.gen ∧ I64 x.backend ∧ I64 x.request ∧ I64 x.code ∧ I64 x.why
theorem Out.of_flat {cs : List Value} (h : FlatC [some .i64, some .i64, some .i64, some .i64, some .i64, some .i64, some .i64] cs) : ∃ x : Out, cs = x.cells ∧ x.ok := by
  obtain ⟨a0, c0, rfl, w0, h0⟩ := FlatC_int h
  obtain ⟨a1, c1, rfl, w1, h1⟩ := FlatC_int h0
  obtain ⟨a2, c2, rfl, w2, h2⟩ := FlatC_int h1
  obtain ⟨a3, c3, rfl, w3, h3⟩ := FlatC_int h2
  obtain ⟨a4, c4, rfl, w4, h4⟩ := FlatC_int h3
  obtain ⟨a5, c5, rfl, w5, h5⟩ := FlatC_int h4
  obtain ⟨a6, c6, rfl, w6, h6⟩ := FlatC_int h5
  obtain rfl := FlatC_nil h6
  exact ⟨⟨a0, a1, a2, a3, a4, a5, a6⟩, rfl, I64_of_wf w0, I64_of_wf w1, I64_of_wf w2, I64_of_wf w3, I64_of_wf w4, I64_of_wf w5, I64_of_wf w6⟩

/-- api.Load -/
structure Ld where
  backend : Int
  weight : Int
  flows : Int
  deriving DecidableEq
def Ld.cells (x : Ld) : List Value := [.int .i64 x.backend, .int .i64 x.weight, .int .i64 x.flows]
def Ld.zero : Ld := ⟨0, 0, 0⟩
def Ld.ok (x : Ld) : Prop := I64 x.backend ∧ I64 x.weight ∧ I64 x.flows
theorem Ld.of_flat {cs : List Value} (h : FlatC [some .i64, some .i64, some .i64] cs) : ∃ x : Ld, cs = x.cells ∧ x.ok := by
  obtain ⟨a0, c0, rfl, w0, h0⟩ := FlatC_int h
  obtain ⟨a1, c1, rfl, w1, h1⟩ := FlatC_int h0
  obtain ⟨a2, c2, rfl, w2, h2⟩ := FlatC_int h1
  obtain rfl := FlatC_nil h2
  exact ⟨⟨a0, a1, a2⟩, rfl, I64_of_wf w0, I64_of_wf w1, I64_of_wf w2⟩

/-- api.Event -/
structure Ev where
  kind : Int
  key : Int
  slot : Int
  gen : Int
  good : Bool
  request : Int
  backend : Int
  weight : Int
  deriving DecidableEq
def Ev.cells (x : Ev) : List Value := [.int .i64 x.kind, .int .i64 x.key, .int .i64 x.slot, .int .i64 x.gen, .bool x.good, .int .i64 x.request, .int .i64 x.backend, .int .i64 x.weight]
def Ev.zero : Ev := ⟨0, 0, 0, 0, false, 0, 0, 0⟩
def Ev.ok (x : Ev) : Prop := I64 x.kind ∧ I64 x.key ∧ I64 x.slot ∧ I64 x.gen ∧ I64 x.request ∧ I64 x.backend ∧ I64 x.weight
theorem Ev.of_flat {cs : List Value} (h : FlatC [some .i64, some .i64, some .i64, some .i64, none, some .i64, some .i64, some .i64] cs) : ∃ x : Ev, cs = x.cells ∧ x.ok := by
  obtain ⟨a0, c0, rfl, w0, h0⟩ := FlatC_int h
  obtain ⟨a1, c1, rfl, w1, h1⟩ := FlatC_int h0
  obtain ⟨a2, c2, rfl, w2, h2⟩ := FlatC_int h1
  obtain ⟨a3, c3, rfl, w3, h3⟩ := FlatC_int h2
  obtain ⟨a4, c4, rfl, h4⟩ := FlatC_bool h3
  obtain ⟨a5, c5, rfl, w5, h5⟩ := FlatC_int h4
  obtain ⟨a6, c6, rfl, w6, h6⟩ := FlatC_int h5
  obtain ⟨a7, c7, rfl, w7, h7⟩ := FlatC_int h6
  obtain rfl := FlatC_nil h7
  exact ⟨⟨a0, a1, a2, a3, a4, a5, a6, a7⟩, rfl, I64_of_wf w0, I64_of_wf w1, I64_of_wf w2, I64_of_wf w3, I64_of_wf w5, I64_of_wf w6, I64_of_wf w7⟩

/-- api.Handle -/
structure Hd where
  slot : Int
  gen : Int
  deriving DecidableEq
def Hd.cells (x : Hd) : List Value := [.int .i64 x.slot, .int .i64 x.gen]
def Hd.zero : Hd := ⟨0, 0⟩
def Hd.ok (x : Hd) : Prop := I64 x.slot ∧ I64 x.gen
theorem Hd.of_flat {cs : List Value} (h : FlatC [some .i64, some .i64] cs) : ∃ x : Hd, cs = x.cells ∧ x.ok := by
  obtain ⟨a0, c0, rfl, w0, h0⟩ := FlatC_int h
  obtain ⟨a1, c1, rfl, w1, h1⟩ := FlatC_int h0
  obtain rfl := FlatC_nil h1
  exact ⟨⟨a0, a1⟩, rfl, I64_of_wf w0, I64_of_wf w1⟩

/-- api.Slot -/
structure Sl where
  gen : Int
  used : Bool
  key : Int
  backend : Int
  deriving DecidableEq
def Sl.cells (x : Sl) : List Value := [.int .i64 x.gen, .bool x.used, .int .i64 x.key, .int .i64 x.backend]
def Sl.zero : Sl := ⟨0, false, 0, 0⟩
def Sl.ok (x : Sl) : Prop := I64 x.gen ∧ I64 x.key ∧ I64 x.backend
theorem Sl.of_flat {cs : List Value} (h : FlatC [some .i64, none, some .i64, some .i64] cs) : ∃ x : Sl, cs = x.cells ∧ x.ok := by
  obtain ⟨a0, c0, rfl, w0, h0⟩ := FlatC_int h
  obtain ⟨a1, c1, rfl, h1⟩ := FlatC_bool h0
  obtain ⟨a2, c2, rfl, w2, h2⟩ := FlatC_int h1
  obtain ⟨a3, c3, rfl, w3, h3⟩ := FlatC_int h2
  obtain rfl := FlatC_nil h3
  exact ⟨⟨a0, a1, a2, a3⟩, rfl, I64_of_wf w0, I64_of_wf w2, I64_of_wf w3⟩

/-- api.Timer -/
structure Tm where
  at_ : Int
  id : Int
  deriving DecidableEq
def Tm.cells (x : Tm) : List Value := [.int .i64 x.at_, .int .i64 x.id]
def Tm.zero : Tm := ⟨0, 0⟩
def Tm.ok (x : Tm) : Prop := I64 x.at_ ∧ I64 x.id
theorem Tm.of_flat {cs : List Value} (h : FlatC [some .i64, some .i64] cs) : ∃ x : Tm, cs = x.cells ∧ x.ok := by
  obtain ⟨a0, c0, rfl, w0, h0⟩ := FlatC_int h
  obtain ⟨a1, c1, rfl, w1, h1⟩ := FlatC_int h0
  obtain rfl := FlatC_nil h1
  exact ⟨⟨a0, a1⟩, rfl, I64_of_wf w0, I64_of_wf w1⟩

/-- api.Spot -/
structure Sp where
  hash : Int
  backend : Int
  deriving DecidableEq
def Sp.cells (x : Sp) : List Value := [.int .i64 x.hash, .int .i64 x.backend]
def Sp.zero : Sp := ⟨0, 0⟩
def Sp.ok (x : Sp) : Prop := I64 x.hash ∧ I64 x.backend
theorem Sp.of_flat {cs : List Value} (h : FlatC [some .i64, some .i64] cs) : ∃ x : Sp, cs = x.cells ∧ x.ok := by
  obtain ⟨a0, c0, rfl, w0, h0⟩ := FlatC_int h
  obtain ⟨a1, c1, rfl, w1, h1⟩ := FlatC_int h0
  obtain rfl := FlatC_nil h1
  exact ⟨⟨a0, a1⟩, rfl, I64_of_wf w0, I64_of_wf w1⟩

/-- api.Life -/
structure Lf where
  backend : Int
  state : Int
  weight : Int
  since : Int
  until_ : Int
  request : Int
  deriving DecidableEq
def Lf.cells (x : Lf) : List Value := [.int .i64 x.backend, .int .i64 x.state, .int .i64 x.weight, .int .i64 x.since, .int .i64 x.until_, .int .i64 x.request]
def Lf.zero : Lf := ⟨0, 0, 0, 0, 0, 0⟩
def Lf.ok (x : Lf) : Prop := I64 x.backend ∧ I64 x.state ∧ I64 x.weight ∧ I64 x.since ∧ I64 x.until_ ∧ I64 x.request
theorem Lf.of_flat {cs : List Value} (h : FlatC [some .i64, some .i64, some .i64, some .i64, some .i64, some .i64] cs) : ∃ x : Lf, cs = x.cells ∧ x.ok := by
  obtain ⟨a0, c0, rfl, w0, h0⟩ := FlatC_int h
  obtain ⟨a1, c1, rfl, w1, h1⟩ := FlatC_int h0
  obtain ⟨a2, c2, rfl, w2, h2⟩ := FlatC_int h1
  obtain ⟨a3, c3, rfl, w3, h3⟩ := FlatC_int h2
  obtain ⟨a4, c4, rfl, w4, h4⟩ := FlatC_int h3
  obtain ⟨a5, c5, rfl, w5, h5⟩ := FlatC_int h4
  obtain rfl := FlatC_nil h5
  exact ⟨⟨a0, a1, a2, a3, a4, a5⟩, rfl, I64_of_wf w0, I64_of_wf w1, I64_of_wf w2, I64_of_wf w3, I64_of_wf w4, I64_of_wf w5⟩

/-- api.Request -/
structure Rq where
  id : Int
  kind : Int
  backend : Int
  weight : Int
  answer : Int
  deriving DecidableEq
def Rq.cells (x : Rq) : List Value := [.int .i64 x.id, .int .i64 x.kind, .int .i64 x.backend, .int .i64 x.weight, .int .i64 x.answer]
def Rq.zero : Rq := ⟨0, 0, 0, 0, 0⟩
def Rq.ok (x : Rq) : Prop := I64 x.id ∧ I64 x.kind ∧ I64 x.backend ∧ I64 x.weight ∧ I64 x.answer
theorem Rq.of_flat {cs : List Value} (h : FlatC [some .i64, some .i64, some .i64, some .i64, some .i64] cs) : ∃ x : Rq, cs = x.cells ∧ x.ok := by
  obtain ⟨a0, c0, rfl, w0, h0⟩ := FlatC_int h
  obtain ⟨a1, c1, rfl, w1, h1⟩ := FlatC_int h0
  obtain ⟨a2, c2, rfl, w2, h2⟩ := FlatC_int h1
  obtain ⟨a3, c3, rfl, w3, h3⟩ := FlatC_int h2
  obtain ⟨a4, c4, rfl, w4, h4⟩ := FlatC_int h3
  obtain rfl := FlatC_nil h4
  exact ⟨⟨a0, a1, a2, a3, a4⟩, rfl, I64_of_wf w0, I64_of_wf w1, I64_of_wf w2, I64_of_wf w3, I64_of_wf w4⟩

/-- api.Flow -/
structure Fl where
  slot : Int
  gen : Int
  key : Int
  backend : Int
  serving : Bool
  retries : Int
  due : Int
  deriving DecidableEq
def Fl.cells (x : Fl) : List Value := [.int .i64 x.slot, .int .i64 x.gen, .int .i64 x.key, .int .i64 x.backend, .bool x.serving, .int .i64 x.retries, .int .i64 x.due]
def Fl.zero : Fl := ⟨0, 0, 0, 0, false, 0, 0⟩
def Fl.ok (x : Fl) : Prop := I64 x.slot ∧ I64 x.gen ∧ I64 x.key ∧ I64 x.backend ∧ I64 x.retries ∧ I64 x.due
theorem Fl.of_flat {cs : List Value} (h : FlatC [some .i64, some .i64, some .i64, some .i64, none, some .i64, some .i64] cs) : ∃ x : Fl, cs = x.cells ∧ x.ok := by
  obtain ⟨a0, c0, rfl, w0, h0⟩ := FlatC_int h
  obtain ⟨a1, c1, rfl, w1, h1⟩ := FlatC_int h0
  obtain ⟨a2, c2, rfl, w2, h2⟩ := FlatC_int h1
  obtain ⟨a3, c3, rfl, w3, h3⟩ := FlatC_int h2
  obtain ⟨a4, c4, rfl, h4⟩ := FlatC_bool h3
  obtain ⟨a5, c5, rfl, w5, h5⟩ := FlatC_int h4
  obtain ⟨a6, c6, rfl, w6, h6⟩ := FlatC_int h5
  obtain rfl := FlatC_nil h6
  exact ⟨⟨a0, a1, a2, a3, a4, a5, a6⟩, rfl, I64_of_wf w0, I64_of_wf w1, I64_of_wf w2, I64_of_wf w3, I64_of_wf w5, I64_of_wf w6⟩

/-- A list of cells that are all of one kind is a list of Lean structures. -/
theorem list_of_flat {α : Type} {f : α → List Value} {ok : α → Prop} {ks : List (Option IntKind)} (hf : ∀ cs, FlatC ks cs → ∃ x, cs = f x ∧ ok x) : ∀ (L : List (List Value)), (∀ c ∈ L, FlatC ks c) → ∃ X : List α, L = X.map f ∧ ∀ x ∈ X, ok x := by
  intro L
  induction L with
  | nil => exact fun _ => ⟨[], rfl, by simp⟩
  | cons c L ih =>
    intro h
    obtain ⟨X, rfl, hX⟩ := ih (fun d hd => h d (List.mem_cons_of_mem _ hd))
    obtain ⟨x, rfl, hx⟩ := hf c (h c List.mem_cons_self)
    exact ⟨x :: X, rfl, by simpa using ⟨hx, hX⟩⟩

/-- What a slice of flat structs that came in is. -/
theorem open_rows {α : Type} {f : α → List Value} {ok : α → Prop} {ks : List (Option IntKind)} {by_ : Nat} {w : World} {v : Value} {L : List (List Value)} (hk : 0 < ks.length) (hf : ∀ cs, FlatC ks cs → ∃ x, cs = f x ∧ ok x) (h : SlFlat w ks by_ v L) :
    ∃ X : List α, RowAt w ks.length v (X.map f) ∧ (∀ x ∈ X, ok x) ∧ X.length * by_ ≤ 140737488351232 := by
  have h' := h
  obtain ⟨_, _, _, _, _, _, _, h4, _⟩ := h'
  obtain ⟨X, rfl, hX⟩ := list_of_flat hf L h4
  have h5 := RowAt_of_SlFlat h hk
  exact ⟨X, h5.1, hX, by simpa using h5.2⟩

/-- A row's cells by an index function. -/
theorem RowAt_fn {α : Type} {f : α → List Value} {w : World} {sz : Nat} {v : Value} {X : List α} (d : α) (h : RowAt w sz v (X.map f)) :
    ∃ (a : Option Addr) (cap : Nat), v = .slice a X.length cap ∧ X.length ≤ cap ∧ cap ≤ maxLen ∧ (a = none → cap = 0) ∧
      (X ≠ [] → ∃ b off, a = some ⟨b, off, none⟩ ∧ b < w.heap.size ∧ ∀ i j, i < X.length → j < sz → w.cell? ⟨b, off + i * sz + j, none⟩ = (f (X.getD i d))[j]?) := by
  obtain ⟨a, cap, rfl, h1, h2, h3, h4⟩ := h
  simp only [List.length_map] at h1 ⊢
  refine ⟨a, cap, rfl, h1, h2, h3, fun hne => ?_⟩
  obtain ⟨b, off, rfl, h5, h6⟩ := h4 (by simpa using hne)
  refine ⟨b, off, rfl, h5, fun i j hi hj => ?_⟩
  rw [h6 i j (by simpa using hi) hj]
  congr 1
  simp [List.getD, hi]
end Go.Proofs.YtnebijdifemicaaDoor
