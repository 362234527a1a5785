/-
  What start-up lays: the codes' names, the messages' lengths, the powers of ten.
-/
import Derived.Test.YtbphidmnkbfchaaGreatDoorN9
import Derived.Test.YtbphidmnkbfchaaGreatDoorRows
import Derived.Lib.LaidU8
import Derived.Lay
import Derived.Handed
import Derived.ProofKit
import Derived.OpenShut
import Derived.LaidMore
import Derived.SevenTiedAt
namespace Go.Proofs.YtbphidmnkbfchaaGreatDoor
open Go Go.ChangeShapes Go.WideShapes Go.ChangeAt Go.RowKit Go.Lib
set_option linter.unusedVariables false
set_option linter.unusedSimpArgs false

theorem names_cells {W : World} (h : VarReads Tryz.prog W "consulate/notice.names" Rows.laid_consulate_notice_names) : ∀ k, k < 7 → W.cell? ⟨2, k, none⟩ = some (.string ⟨(nms.getD k []).toArray⟩) := by
  obtain ⟨g, t, cs, fuel, p, hg, ht, hv, hd⟩ := h
  obtain rfl := Option.some.inj ((show Tryz.prog.globalNamed "consulate/notice.names" = some 2 by kernel_rfl).symm.trans hg)
  obtain rfl := Option.some.inj ((show (Tryz.prog.globals[2]?).map (·.type) = some 149 by kernel_rfl).symm.trans ht)
  obtain ⟨xs, m, _, ex, _, hl, hel⟩ := DataW.trod_array Tryz.underlying149 hd
  have e3 : (xs.map (·.1)) = nms.map fun l => (.lit (.string l) : DataW Unit) := (DataW.agg.inj (Prod.mk.inj ex).1).symm
  have hn : nms.length = 7 := rfl
  intro k hk
  have hE := hel k hk
  rw [show Tryz.prog.cellsOf 9 = 1 by kernel_rfl, Nat.mul_one, List.getElem?_eq_getElem (by omega)] at hE
  obtain ⟨s, e1, e2, _⟩ := DataW.trod_string Tryz.underlying9 hE
  have e4 : (xs.map (·.1))[k]? = (nms.map fun l => (.lit (.string l) : DataW Unit))[k]? := by rw [e3]
  rw [List.getElem?_map, List.getElem?_map, List.getElem?_eq_getElem (by omega : k < xs.length), List.getElem?_eq_getElem (by omega : k < nms.length), e2] at e4
  simp only [Option.map_some, Option.some.injEq, DataW.lit.injEq, Lit.string.injEq] at e4
  rw [World.var?_cell hg hv k, List.getD, List.getElem?_eq_getElem (by omega : k < nms.length)]
  have h0 : ((cs.toList.drop k).take 1)[0]? = some (.string s) := by rw [e1]; rfl
  have h1 : cs[k]? = some (.string s) := by simpa using h0
  rw [h1]
  simp only [Option.getD_some]
  rw [← e4]

set_option maxRecDepth 100000 in
theorem lens_cells {W : World} (h : VarReads Tryz.prog W "consulate/frame.lengths" Rows.laid_consulate_frame_lengths) : ∀ k, k < 12 → W.cell? ⟨3, k, none⟩ = some (.int .i64 (lens.getD k 0)) := by
  obtain ⟨g, t, cs, fuel, p, hg, ht, hv, hd⟩ := h
  obtain rfl := Option.some.inj ((show Tryz.prog.globalNamed "consulate/frame.lengths" = some 3 by kernel_rfl).symm.trans hg)
  obtain rfl := Option.some.inj ((show (Tryz.prog.globals[3]?).map (·.type) = some 159 by kernel_rfl).symm.trans ht)
  obtain ⟨xs, m, _, ex, _, hl, hel⟩ := DataW.trod_array Tryz.underlying159 hd
  have e3 : (xs.map (·.1)) = (List.range 6).map fun i => (.agg [.lit (.int .i64 (lens.getD (2 * i) 0)), .lit (.int .i64 (lens.getD (2 * i + 1) 0))] : DataW Unit) := (DataW.agg.inj (Prod.mk.inj ex).1).symm
  have two : ∀ i, i < 6 → W.cell? ⟨3, 2 * i, none⟩ = some (.int .i64 (lens.getD (2 * i) 0)) ∧ W.cell? ⟨3, 2 * i + 1, none⟩ = some (.int .i64 (lens.getD (2 * i + 1) 0)) := by
    intro i hi
    have hE := hel i hi
    rw [show Tryz.prog.cellsOf 158 = 2 by kernel_rfl, List.getElem?_eq_getElem (by omega)] at hE
    obtain ⟨ys, n, _, ey, _, hyl, hyel⟩ := DataW.trod_array Tryz.underlying158 hE
    have c3 : Tryz.prog.cellsOf 3 = 1 := by kernel_rfl
    have hy0 := hyel 0 (by omega)
    have hy1 := hyel 1 (by omega)
    rw [c3, List.getElem?_eq_getElem (by omega)] at hy0 hy1
    obtain ⟨a, a1, a2, _⟩ := DataW.trod_int Tryz.underlying3 hy0
    obtain ⟨b, b1, b2, _⟩ := DataW.trod_int Tryz.underlying3 hy1
    have e4 : (xs.map (·.1))[i]? = ((List.range 6).map fun i => (.agg [.lit (.int .i64 (lens.getD (2 * i) 0)), .lit (.int .i64 (lens.getD (2 * i + 1) 0))] : DataW Unit))[i]? := by rw [e3]
    rw [List.getElem?_map, List.getElem?_map, List.getElem?_eq_getElem (by omega : i < xs.length), List.getElem?_range hi, ey] at e4
    match ys, hyl with
    | [y0, y1], _ =>
      simp at a2 b2
      simp only [Option.map_some, Option.some.injEq, DataW.agg.injEq, List.map_cons, List.map_nil, List.cons.injEq, a2, b2, DataW.lit.injEq, Lit.int.injEq, true_and, and_true] at e4
      rw [World.var?_cell hg hv, World.var?_cell hg hv, ← e4.1, ← e4.2]
      constructor
      · have h0 : (List.take 1 (List.drop (0 * 1) (List.take 2 (List.drop (i * 2) cs.toList))))[0]? = some (.int .i64 a) := by rw [a1]; rfl
        simpa [Nat.mul_comm] using h0
      · have h0 : (List.take 1 (List.drop (1 * 1) (List.take 2 (List.drop (i * 2) cs.toList))))[0]? = some (.int .i64 b) := by rw [b1]; rfl
        simpa [Nat.mul_comm] using h0
  intro k hk
  obtain ⟨h0, h1⟩ := two (k / 2) (by omega)
  rcases Nat.mod_two_eq_zero_or_one k with h | h
  · rw [show 2 * (k / 2) = k by omega] at h0
    exact h0
  · rw [show 2 * (k / 2) + 1 = k by omega] at h1
    exact h1

theorem pow_tab {W : World} (h : VarReads Tryz.prog W "internal/strconv.uint64pow10" Rows.laid_internal_strconv_uint64pow10) : TabIs Tryz.prog W "internal/strconv.uint64pow10" .u64 pow10Tab := by
  obtain ⟨g, t, cs, fuel, p, hg, ht, hv, hd⟩ := h
  obtain rfl := Option.some.inj ((show Tryz.prog.globalNamed "internal/strconv.uint64pow10" = some 10 by kernel_rfl).symm.trans hg)
  obtain rfl := Option.some.inj ((show (Tryz.prog.globals[10]?).map (·.type) = some 365 by kernel_rfl).symm.trans ht)
  have h1 := cells_of_tab (k := .u64) (zs := pow10Tab) Tryz.underlying365 Tryz.underlying286 (by kernel_rfl) (by kernel_rfl) hd
  unfold TabIs
  rw [hv, ← h1]

/-- The wrap that hands on the world's shape beside what is laid. -/
theorem returnsInHanded_and_shaped {H : Type} {enc : TypeId × Value → H} {a : Assume} {C : Checked} {os : Os} {f : FuncId} {fn : Func} {s : ChangeSpec} {conds : List PathCond} {apart fresh handsOn again : Bool} {X : World → Array Value → Prop}
    (hX : ∀ (w w' : World) (args : Array Value), w.heap = w'.heap → X w args → X w' args)
    (own : ownKnob C.prog.godebug = none) (started : os.Started) (noInit : C.prog.inits.idxOf? f = none) (hfn : C.prog.funcs[f]? = some fn)
    (witness : ∃ (w : World) (tape : Tape) (i : Input), w.os = os ∧ (w.forCall tape i).Shaped C.prog ∧ i.vars = [] ∧ Input.okWide C.prog (w.forCall tape i) .any w.heap.size f i ∧
      ((s.pre enc C.prog fn conds apart (w.forCall tape i).memory i.args ∧ X (w.forCall tape i).memory i.args) ∧ sizedMet enc C.prog fn (OpenSpec.ofChange s) apart (w.forCall tape i).memory i.args) ∧ a.holds C.prog (lone (Frame.enter C.prog f i.args .normal) [] (w.forCall tape i)))
    (contract : ∀ (W : World) (base : Nat) (args : Array Value) (ds gs : List (DataW H)) (before : List MemPlace),
      (∀ (j : Nat) t v, fn.params[j]? = some t → args[j]? = some v → Value.okWide C.prog W .any base t v) →
      DataW.Whole enc C.prog fn.params.toList s.vars apart W args.toList ds gs before →
      (DataW.weightsEach C.prog (fn.params.toList ++ s.plain.varTypes C.prog) (ds ++ gs)).all (· ≤ reachBytes) = true → X W args → W.ShapedOpen C.prog →
      Calls C.prog f args W fun e W' => ∃ v, e = .returned v ∧ s.post enc C.prog fn apart fresh handsOn again W args v W') :
    ReturnsInHanded a C os f .any (fun w args => (s.pre enc C.prog fn conds apart w args ∧ X w args) ∧ sizedMet enc C.prog fn (OpenSpec.ofChange s) apart w args) (s.post enc C.prog fn apart fresh handsOn again) := by
  refine returnsInHanded_of_calls own started noInit witness fun w tape i _ hsh _ hok hpre hh => ?_
  obtain ⟨_, _, _, fn', hfn', _, _, _, _, hval⟩ := hok
  obtain rfl : fn' = fn := Option.some.inj (hfn'.symm.trans hfn)
  obtain ⟨⟨⟨ds, gs, before, hw, hc⟩, hx⟩, hz⟩ := hpre
  refine (contract (w.forCall tape i) w.heap.size i.args ds gs before hval (DataW.Whole.of_heap (w' := w.forCall tape i) (by rfl) hw) (hz.weights hw) (hX _ _ _ (by rfl) hx) hsh).mono fun e W' ⟨v, he, hp⟩ => ?_
  subst he
  exact ChangeSpec.post_blind hp
end Go.Proofs.YtbphidmnkbfchaaGreatDoor
