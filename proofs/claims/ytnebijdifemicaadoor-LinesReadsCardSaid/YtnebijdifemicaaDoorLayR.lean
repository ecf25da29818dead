/- What the row's condition says of the variables that Read reaches. -/
import Derived.Test.YtnebijdifemicaaDoorRows
import Derived.Test.YtnebijdifemicaaDoorAtx
import Derived.Test.YtnebijdifemicaaDoorLay
import Derived.Shelf.Vars
import Derived.MakeChecks
import Derived.Lay
namespace Go.Proofs.YtnebijdifemicaaDoor
open Go.RowKit
theorem err_star : "*" ++ "errors.errorString" = "*errors.errorString" := by decide
theorem ptr_err (u : TypeId) (h : (Tryd.prog).typeName? 3 u = some "*errors.errorString") : u = 110 :=
  typeName_ptr_named (nm := "errors.errorString") (by rw [err_star]; kernel_rfl) (by kernel_rfl) (by decide) u (by rw [err_star]; exact h)
/-- The wrap of a row that lists variables, the world's shape kept. -/
theorem returns_and_shaped {H : Type} {enc : TypeId × Value → H} {a : Assume} {C : Checked} {os : Os} {f : FuncId} {fn : Func} {s : ChangeSpec} {conds : List PathCond} {apart fresh handsOn again : Bool} {X : World → Array Value → Prop}
    (hX : ∀ (w w' : World) (args : Array Value), w.heap = w'.heap → X w args → X w' args)
    (own : ownKnob C.prog.godebug = none) (started : os.Started) (noInit : C.prog.inits.idxOf? f = none) (hfn : C.prog.funcs[f]? = some fn)
    (witness : ∃ (w : World) (tape : Tape) (i : Input), w.os = os ∧ (w.forCall tape i).Shaped C.prog ∧ i.vars = [] ∧ Input.okWide C.prog (w.forCall tape i) .any w.heap.size f i ∧
      ((s.pre enc C.prog fn conds apart (w.forCall tape i).memory i.args ∧ X (w.forCall tape i).memory i.args) ∧ sizedMet enc C.prog fn (OpenSpec.ofChange s) apart (w.forCall tape i).memory i.args) ∧ a.holds C.prog (lone (Frame.enter C.prog f i.args .normal) [] (w.forCall tape i)))
    (contract : ∀ (W : World) (base : Nat) (args : Array Value) (ds gs : List (DataW H)) (before : List MemPlace),
      (∀ (j : Nat) t v, fn.params[j]? = some t → args[j]? = some v → Value.okWide C.prog W .any base t v) →
      DataW.Whole enc C.prog fn.params.toList s.vars apart W args.toList ds gs before →
      conds.all (PathCond.test C.prog ⟨fn.params.toList, ds, s.plain.varTypes C.prog, gs⟩) = true →
      (DataW.weightsEach C.prog (fn.params.toList ++ s.plain.varTypes C.prog) (ds ++ gs)).all (· ≤ reachBytes) = true → X W args → W.ShapedOpen C.prog →
      Calls C.prog f args W fun e W' => ∃ v, e = .returned v ∧ s.post enc C.prog fn apart fresh handsOn again W args v W') :
    ReturnsInHanded a C os f .any (fun w args => (s.pre enc C.prog fn conds apart w args ∧ X w args) ∧ sizedMet enc C.prog fn (OpenSpec.ofChange s) apart w args) (s.post enc C.prog fn apart fresh handsOn again) := by
  refine returnsInHanded_of_calls own started noInit witness ?_
  intro w tape i _ hsh _ hok hpre _
  obtain ⟨_, _, _, fn', hfn', _, _, _, _, hval⟩ := hok
  have e : fn' = fn := Option.some.inj (hfn'.symm.trans hfn)
  subst e
  obtain ⟨⟨⟨ds, gs, before, hw, hc⟩, hx⟩, hz⟩ := hpre
  have hw' := DataW.Whole.of_heap (w' := w.forCall tape i) (by rfl) hw
  refine (contract (w.forCall tape i) w.heap.size i.args ds gs before hval hw' hc (hz.weights hw) (hX _ _ _ (by rfl) hx) hsh).mono fun e W' ⟨v, he, hp⟩ => ?_
  subst he
  exact ChangeSpec.post_blind hp
theorem err_cell {W : World} {n : String} {g : Nat} {a : Addr} {tp : TypeId} (hg : (Tryd.prog).globalNamed n = some g) (h : W.var? Tryd.prog n = some #[.iface tp (.pointer (some a))]) : ∃ ev, W.cell? ⟨g, 0, none⟩ = some ev ∧ (ev = .nilIface ∨ ∃ te pe, ev = .iface te pe) := by
  have := World.var?_cell hg h 0
  exact ⟨_, by simpa using this, Or.inr ⟨_, _, rfl⟩⟩
theorem lnX_of_laid {W : World} (h : laidMetH Tryd.prog Rows.linesReadsRow.laid W) (hsh : W.ShapedOpen Tryd.prog) : LnX W := by
  rw [MakeChecks.laidMetH_plain _ _ _ (by kernel_rfl)] at h
  have h0 : laidMet Tryd.prog [("math/bits.deBruijn32tab", Rows.laid_math_bits_deBruijn32tab), ("math/bits.deBruijn64tab", Rows.laid_math_bits_deBruijn64tab), ("internal/strconv.uint64pow10", Rows.laid_internal_strconv_uint64pow10), ("unicode/utf8.acceptRanges", Rows.laid_unicode_utf8_acceptRanges), ("strconv.ErrRange", Rows.laid_strconv_ErrRange), ("strconv.ErrSyntax", Rows.laid_strconv_ErrSyntax), ("usher/lines.words", Rows.laid_usher_lines_words), ("unicode/utf8.first", Rows.laid_unicode_utf8_first)] W := h
  have h2 := h0.tail.tail
  have h4 := h2.tail.tail
  refine ⟨⟨Lib.tabIs_of_head pow_g (by kernel_rfl) Tryd.underlying104 Tryd.underlying88 (by kernel_rfl) (by kernel_rfl) h2, ?_⟩, ?_, ?_, ?_⟩
  · obtain ⟨ps, ⟨g', t', cs, fuel, p, q, hg', ht', hvar, hd, _, _⟩, _⟩ := h4.tail.tail
    obtain rfl := Option.some.inj (words_g.symm.trans hg')
    obtain rfl := Option.some.inj ((show ((Tryd.prog).globals[0]?).map (·.type) = some 57 by kernel_rfl).symm.trans ht')
    rw [hvar]
    have hc := cells_of_strs (zs := (List.range 8).map wordB) Tryd.underlying57 Tryd.underlying9 (by kernel_rfl) (by kernel_rfl) hd
    rw [show cs = cs.toList.toArray from rfl, hc]
    rfl
  · exact cell_of_shapedOpen_int (zero := #[.int .i64 0]) hsh (of_decide_eq_true (by kernel_rfl)) (by kernel_rfl) rfl (by kernel_rfl) (by kernel_rfl) Tryd.underlying3
  · obtain ⟨a, s, hv, _⟩ := laid_sentinel (g := 2) h4.tail (by kernel_rfl) (by kernel_rfl) Tryd.underlying40 (tp := 110) ptr_err Tryd.underlying110 Tryd.underlying112 rfl rfl Tryd.underlying9 (by kernel_rfl) (by kernel_rfl)
    exact err_cell (by kernel_rfl) hv
  · obtain ⟨a, s, hv, _⟩ := laid_sentinel (g := 3) h4 (by kernel_rfl) (by kernel_rfl) Tryd.underlying40 (tp := 110) ptr_err Tryd.underlying110 Tryd.underlying112 rfl rfl Tryd.underlying9 (by kernel_rfl) (by kernel_rfl)
    exact err_cell (by kernel_rfl) hv
end Go.Proofs.YtnebijdifemicaaDoor
