/-
  What the rows of this seat share: opening a row of bytes that came in; what start-up laid of the two faults.
-/
import Derived.Test.YthafedmlbialiaaDoorRows
import Derived.Test.YthafedmlbialiaaDoorC1
import Derived.ProofKit
import Derived.LaidMore
import Derived.OpenShut
import Derived.SizedLaws
namespace Go.Proofs.YthafedmlbialiaaDoor
open Go.ChangeShapes Go.WideShapes Go.ChangeAt Go.RowKit Go.Proofs.YthafedmlbialiaaDoorW.PrintWords
set_option linter.unusedVariables false
set_option linter.unusedSimpArgs false

theorem ownNone : ownKnob Tryd.prog.godebug = none := by kernel_rfl
theorem laidOutT : laidOutB Tryd.prog = true := by kernel_rfl
theorem cells5 : Tryd.prog.cellsOf 5 = 1 := by kernel_rfl
theorem bytes5 : Tryd.prog.bytesOf 5 = 1 := by kernel_rfl
theorem gCut : Tryd.prog.globalNamed "consulate/caps.cut" = some 1 := by kernel_rfl
theorem gOdd : Tryd.prog.globalNamed "consulate/caps.odd" = some 0 := by kernel_rfl
theorem tCut : (Tryd.prog.globals[1]?).map (·.type) = some 26 := by kernel_rfl
theorem tOdd : (Tryd.prog.globals[0]?).map (·.type) = some 26 := by kernel_rfl

/-- A variable of a fault, as the datum tells it. -/
theorem fault_cells {W : World} {n : String} {g : Nat} {cs : Array Value} {fuel : Nat} {p : List MemPlace} {x y : Int}
    (hg : Tryd.prog.globalNamed n = some g) (hv : W.var? Tryd.prog n = some cs)
    (hd : DataW.trod (fun _ => ()) Tryd.prog W 0 (fun _ => true) false fuel 26 cs.toList = some (.agg [.lit (.int .u8 x), .lit (.int .u8 y)], p)) :
    W.cell? ⟨g, 0, none⟩ = some (.int .u8 x) ∧ W.cell? ⟨g, 1, none⟩ = some (.int .u8 y) := by
  have hc := fun i => World.var?_cell hg hv i
  obtain ⟨y0, y1, m, hx, hl, h0, h1⟩ := trod_struct2 Tryd.underlying26 hd
  rw [show Tryd.prog.cellsOf 5 = 1 from cells5] at h0 h1
  obtain ⟨a, e0, f0, _⟩ := DataW.trod_int Tryd.underlying5 h0
  obtain ⟨b, e1, f1, _⟩ := DataW.trod_int Tryd.underlying5 h1
  simp only [Prod.mk.injEq, DataW.agg.injEq, List.cons.injEq] at hx
  obtain ⟨⟨hx0, hx1, _⟩, _⟩ := hx
  rw [f0] at hx0
  rw [f1] at hx1
  injection hx0 with hx0
  injection hx0 with _ hx0
  injection hx1 with hx1
  injection hx1 with _ hx1
  subst hx0 hx1
  obtain ⟨cs⟩ := cs
  match cs, e0, e1 with
  | c0 :: c1 :: rest, e0, e1 =>
    simp at e0 e1
    subst e0 e1
    exact ⟨(hc 0).trans rfl, (hc 1).trans rfl⟩
  | [c0], e0, e1 => simp at e1
  | [], e0, e1 => simp at e0

/-- A row of bytes that came in: what the walks ask of it. -/
theorem bytes_arg {H : Type} {enc : TypeId × Value → H} {W : World} {a : Option Addr} {len cap : Nat} {d : DataW H} {p : List MemPlace}
    (h : DataW.Trod enc Tryd.prog W 0 (fun _ => true) true 22 (.slice a len cap) d p)
    (hsz : ∀ elems spare : List (DataW H), d = .slice elems spare → (elems.length + spare.length) * Tryd.prog.bytesOf 5 ≤ reachBytes) :
    ∃ xs : List Int, xs.length = len ∧ (Kd.int .u8).C W a xs.length xs ∧ len ≤ cap ∧ len ≤ 140737488351232 ∧ ∀ x, x ∈ xs → 0 ≤ x ∧ x < 256 := by
  obtain ⟨fuel, hf⟩ := h
  rcases open_ints Tryd.underlying22 Tryd.underlying5 cells5 hf with ⟨hcs, _⟩ | ⟨x, l, c, zs, hcs, _, hl, hm, hz, hx, hcell, hwz⟩
  · simp [Value.cells] at hcs
    obtain ⟨rfl, rfl, rfl⟩ := hcs
    exact ⟨[], rfl, Kd.C_nil _ _, Nat.le_refl _, by omega, fun x hx => by cases hx⟩
  · simp [Value.cells] at hcs
    obtain ⟨rfl, rfl, rfl⟩ := hcs
    simp at hz
    injection hx with hx _
    have hs := hsz _ _ hx
    rw [bytes5] at hs
    simp only [lits, List.length_map, List.length_take, List.length_drop, reachBytes] at hs
    have hlt : (zs.take len).length = len := by rw [List.length_take]; omega
    refine ⟨zs.take len, hlt, ?_, hl, by omega, fun n hn => ?_⟩
    · refine Kd.C_of_reads (enc := Value.int .u8) (d := (0 : Int)) ⟨rfl, by rw [hlt]; unfold maxLen at hm; omega, fun _ => ⟨x, rfl, fun j hj => ?_⟩⟩
      rw [hcell j (by omega), List.getD_eq_getElem?_getD, List.getD_eq_getElem?_getD, List.getElem?_take, if_pos (by omega)]
    · have := bounds_u8 (hwz n (List.mem_of_mem_take hn))
      omega

theorem globC_of {W : World} {l : List (String × DataW Unit)} {ps : List MemPlace} (h : DataW.LaidVars Tryd.prog W (("consulate/caps.cut", Rows.laid_consulate_caps_cut) :: ("consulate/caps.odd", Rows.laid_consulate_caps_odd) :: l) ps) : GlobC W := by
  obtain ⟨g0, t0, cs0, f0, p0, q0, hg0, ht0, hv0, hd0, ⟨g1, t1, cs1, f1, p1, q1, hg1, ht1, hv1, hd1, _, _⟩, _⟩ := h
  obtain rfl := Option.some.inj (gCut.symm.trans hg0)
  obtain rfl := Option.some.inj (gOdd.symm.trans hg1)
  obtain rfl := Option.some.inj (tCut.symm.trans ht0)
  obtain rfl := Option.some.inj (tOdd.symm.trans ht1)
  obtain ⟨a0, a1⟩ := fault_cells hg0 hv0 hd0
  obtain ⟨b0, b1⟩ := fault_cells hg1 hv1 hd1
  exact ⟨b0, b1, a0, a1⟩
end Go.Proofs.YthafedmlbialiaaDoor
