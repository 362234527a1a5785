/-
  What start-up laid of open's two variables.
-/
import Derived.Test.YthafedmlbialiaaDoorW1
import Derived.Test.YthafedmlbialiaaDoorE1
namespace Go.Proofs.YthafedmlbialiaaDoor
open Go.ChangeShapes Go.WideShapes Go.ChangeAt Go.RowKit Go.Proofs.YthafedmlbialiaaDoorW.PrintWords
set_option linter.unusedVariables false
set_option linter.unusedSimpArgs false

theorem gWant : Tryd.prog.globalNamed "consulate/open.wanted" = some 2 := by kernel_rfl
theorem gFam : Tryd.prog.globalNamed "consulate/open.family" = some 3 := by kernel_rfl
theorem tWant : (Tryd.prog.globals[2]?).map (·.type) = some 22 := by kernel_rfl
theorem tFam : (Tryd.prog.globals[3]?).map (·.type) = some 22 := by kernel_rfl

/-- A variable that holds a row of bytes, as the datum tells it. -/
theorem slice_var {W : World} {n : String} {g : Nat} {cs : Array Value} {fuel : Nat} {p : List MemPlace} {ys : List Int}
    (hg : Tryd.prog.globalNamed n = some g) (hv : W.var? Tryd.prog n = some cs)
    (hd : DataW.trod (fun _ => ()) Tryd.prog W 0 (fun _ => true) false fuel 22 cs.toList = some (.slice (lits .u8 ys) [], p)) :
    ∃ A c, W.cell? ⟨g, 0, none⟩ = some (.slice A ys.length c) ∧ (Kd.int .u8).C W A ys.length ys ∧ ys.length ≤ c := by
  have hc := World.var?_cell hg hv 0
  rcases open_ints Tryd.underlying22 Tryd.underlying5 cells5 hd with ⟨hcs, hx⟩ | ⟨x, l, c, zs, hcs, _, hl, hm, hz, hx, hcell, hwz⟩
  · injection hx with hx _
    cases hx
  · injection hx with hx _
    injection hx with h1 h2
    have e0 : ∀ a b : List Int, (lits .u8 a : List (DataW Unit)) = lits .u8 b → a = b := by
      intro a
      induction a with
      | nil =>
        intro b h
        cases b with
        | nil => rfl
        | cons y b => simp [lits] at h
      | cons x a ih =>
        intro b h
        cases b with
        | nil => simp [lits] at h
        | cons y b =>
          simp only [lits, List.map_cons, List.cons.injEq] at h
          obtain ⟨h1, h2⟩ := h
          injection h1 with h1
          injection h1 with _ h1
          rw [h1, ih b h2]
    have e1 := e0 _ _ h1
    simp at hz
    have e2 : (zs.drop l).length = 0 := by
      have h := congrArg List.length h2
      simp only [lits, List.length_map, List.length_nil] at h
      exact h.symm
    rw [List.length_drop] at e2
    have e3 : ys.length = l := by rw [e1, List.length_take]; omega
    obtain ⟨cl⟩ := cs
    simp only at hcs
    subst hcs
    refine ⟨some x, c, ?_, ?_, by omega⟩
    · rw [e3]
      exact hc.trans rfl
    · refine Kd.C_of_reads (enc := Value.int .u8) (d := (0 : Int)) ⟨rfl, by unfold maxLen at hm; omega, fun _ => ⟨x, rfl, fun j hj => ?_⟩⟩
      rw [hcell j (by omega), List.getD_eq_getElem?_getD, List.getD_eq_getElem?_getD, e1, List.getElem?_take, if_pos (by omega)]
theorem globO_of {W : World} {l : List (String × DataW Unit)} {ps : List MemPlace} (h : DataW.LaidVars Tryd.prog W (("consulate/open.wanted", Rows.laid_consulate_open_wanted) :: ("consulate/open.family", Rows.laid_consulate_open_family) :: l) ps) : GlobO W := by
  obtain ⟨g0, t0, cs0, f0, p0, q0, hg0, ht0, hv0, hd0, ⟨g1, t1, cs1, f1, p1, q1, hg1, ht1, hv1, hd1, _, _⟩, _⟩ := h
  obtain rfl := Option.some.inj (gWant.symm.trans hg0)
  obtain rfl := Option.some.inj (gFam.symm.trans hg1)
  obtain rfl := Option.some.inj (tWant.symm.trans ht0)
  obtain rfl := Option.some.inj (tFam.symm.trans ht1)
  exact ⟨slice_var (ys := [0, 4]) hg0 hv0 hd0, slice_var (ys := [1, 4, 0, 1, 0, 1]) hg1 hv1 hd1⟩
theorem globC_tail {W : World} {l : List (String × DataW Unit)} {ps : List MemPlace} (h : DataW.LaidVars Tryd.prog W (("consulate/caps.cut", Rows.laid_consulate_caps_cut) :: ("consulate/caps.odd", Rows.laid_consulate_caps_odd) :: l) ps) : ∃ qs, DataW.LaidVars Tryd.prog W l qs := by
  obtain ⟨_, _, _, _, _, _, _, _, _, _, ⟨_, _, _, _, _, _, _, _, _, _, hr, _⟩, _⟩ := h
  exact ⟨_, hr⟩
end Go.Proofs.YthafedmlbialiaaDoor
