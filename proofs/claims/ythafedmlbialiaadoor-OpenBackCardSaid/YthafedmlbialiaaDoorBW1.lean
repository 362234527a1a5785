/-
  What the rows of this seat share, second part: opening a row of capabilities that came in; what start-up laid of IPv4's family.
-/
import Derived.Test.YthafedmlbialiaaDoorBW0
import Derived.Test.YthafedmlbialiaaDoorBD0
import Derived.Deep.SlicePairs
namespace Go.Proofs.YthafedmlbialiaaDoor
open Go.ChangeShapes Go.WideShapes Go.ChangeAt Go.RowKit Go.Proofs.YthafedmlbialiaaDoorW.PrintWords
set_option linter.unusedVariables false
set_option linter.unusedSimpArgs false

theorem cells61 : Tryd.prog.cellsOf 61 = 2 := by kernel_rfl
theorem cells22 : Tryd.prog.cellsOf 22 = 1 := by kernel_rfl
theorem und61 : ∃ f0 f1 : Field, Tryd.prog.underlying 61 = some (.struct #[f0, f1]) ∧ f0.offset = 0 ∧ f1.offset = 1 ∧ f0.type = 5 ∧ f1.type = 22 := ⟨_, _, Tryd.underlying61, rfl, rfl, rfl, rfl⟩

/-- A capability out of its two cells. -/
theorem cap_elem {H : Type} {enc : TypeId × Value → H} {W : World} {n : Nat} {v0 v1 : Value} {y0 y1 : DataW H × List MemPlace}
    (h0 : DataW.trod enc Tryd.prog W 0 (fun _ => true) true n 5 [v0] = some y0) (h1 : DataW.trod enc Tryd.prog W 0 (fun _ => true) true n 22 [v1] = some y1) :
    ∃ x : PA.S61, PA.k61.K W x [v0, v1] ∧ (0 ≤ x.f0 ∧ x.f0 < 256) ∧ ∀ b, b ∈ x.f1 → 0 ≤ b ∧ b < 256 := by
  obtain ⟨a, e0, f0, hw0⟩ := DataW.trod_int Tryd.underlying5 h0
  injection e0 with e0 _
  subst e0
  have ha : 0 ≤ a ∧ a < 256 := by have := bounds_u8 hw0; omega
  rcases open_ints Tryd.underlying22 Tryd.underlying5 cells5 h1 with ⟨hcs, _⟩ | ⟨x, l, c, zs, hcs, _, hl, hm, hz, hx, hcell, hwz⟩
  · injection hcs with hcs _
    subst hcs
    exact ⟨⟨a, []⟩, PA.k61_mk W ⟨a, []⟩ (Nat.le_refl _) (Kd.C_nil _ _), ha, fun b hb => by cases hb⟩
  · injection hcs with hcs _
    subst hcs
    simp at hz
    have hlt : (zs.take l).length = l := by rw [List.length_take]; omega
    have hC : (Kd.int .u8).C W (some x) (zs.take l).length (zs.take l) := by
      refine Kd.C_of_reads (enc := Value.int .u8) (d := (0 : Int)) ⟨rfl, by rw [hlt]; unfold maxLen at hm; omega, fun _ => ⟨x, rfl, fun j hj => ?_⟩⟩
      rw [hcell j (by omega), List.getD_eq_getElem?_getD, List.getD_eq_getElem?_getD, List.getElem?_take, if_pos (by omega)]
    have hK := PA.k61_mk W ⟨a, zs.take l⟩ (A1 := some x) (c1 := c) (by show (zs.take l).length ≤ c; omega) hC
    refine ⟨⟨a, zs.take l⟩, ?_, ha, fun b hb => ?_⟩
    · show PA.k61.K W ⟨a, zs.take l⟩ [.int .u8 a, .slice (some x) l c]
      rw [show (⟨a, zs.take l⟩ : PA.S61).f1.length = l from hlt] at hK
      exact hK
    · have := bounds_u8 (hwz b (List.mem_of_mem_take hb))
      omega

theorem gUni : Tryd.prog.globalNamed "consulate/caps.unicast" = some 4 := by kernel_rfl
theorem tUni : (Tryd.prog.globals[4]?).map (·.type) = some 116 := by kernel_rfl

theorem globU_of {W : World} {l : List (String × DataW Unit)} {ps : List MemPlace} (h : DataW.LaidVars Tryd.prog W (("consulate/caps.unicast", Rows.laid_consulate_caps_unicast) :: l) ps) : GlobU W ∧ ∃ qs, DataW.LaidVars Tryd.prog W l qs := by
  obtain ⟨g0, t0, cs0, f0, p0, q0, hg0, ht0, hv0, hd0, hr, _⟩ := h
  obtain rfl := Option.some.inj (gUni.symm.trans hg0)
  obtain rfl := Option.some.inj (tUni.symm.trans ht0)
  have hc := fun i => World.var?_cell hg0 hv0 i
  obtain ⟨xs, m, _, hl, hlen, hxl, hel⟩ := DataW.trod_array und116 hd0
  rw [show Tryd.prog.cellsOf 116 = 4 from by kernel_rfl] at hlen
  rw [cells5] at hel
  obtain ⟨cs⟩ := cs0
  match cs, hlen, xs, hxl with
  | [c0, c1, c2, c3], _, [x0, x1, x2, x3], _ =>
    simp only [Prod.mk.injEq, Rows.laid_consulate_caps_unicast, DataW.agg.injEq, List.map_cons, List.map_nil, List.cons.injEq] at hl
    obtain ⟨⟨l0, l1, l2, l3, _⟩, _⟩ := hl
    have one : ∀ {c : Value} {x : DataW Unit × List MemPlace} {n : Int}, DataW.trod (fun _ => ()) Tryd.prog W 0 (fun _ => true) false m 5 [c] = some x → DataW.lit (.int .u8 n) = x.1 → c = .int .u8 n := by
      intro c x n h h1
      obtain ⟨a, e, f, _⟩ := DataW.trod_int Tryd.underlying5 h
      rw [f] at h1
      injection h1 with h1
      injection h1 with _ h1
      subst h1
      injection e
    have e0 := one (hel 0 (by omega)) l0
    have e1 := one (hel 1 (by omega)) l1
    have e2 := one (hel 2 (by omega)) l2
    have e3 := one (hel 3 (by omega)) l3
    subst e0 e1 e2 e3
    exact ⟨⟨(hc 0).trans rfl, (hc 1).trans rfl, (hc 2).trans rfl, (hc 3).trans rfl⟩, _, hr⟩
end Go.Proofs.YthafedmlbialiaaDoor
