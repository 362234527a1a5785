/-
  What the rows of this seat share, second part: opening a row of capabilities that came in; what start-up laid of IPv4's family.
-/
import Derived.Test.YthafedmlbialiaaDoorW0
import Derived.Test.YthafedmlbialiaaDoorD0
import Derived.Deep.SlicePairs
namespace Go.Proofs.YthafedmlbialiaaDoor
open Go.ChangeShapes Go.WideShapes Go.ChangeAt Go.RowKit Go.Proofs.YthafedmlbialiaaDoorW.PrintWords
set_option linter.unusedVariables false
set_option linter.unusedSimpArgs false

theorem cells61 : Tryd.prog.cellsOf 61 = 2 := by kernel_rfl
theorem cells22 : Tryd.prog.cellsOf 22 = 1 := by kernel_rfl
theorem bytes61 : Tryd.prog.bytesOf 61 = 32 := by kernel_rfl
theorem und61 : ∃ f0 f1 : Field, Tryd.prog.underlying 61 = some (.struct #[f0, f1]) ∧ f0.offset = 0 ∧ f1.offset = 1 ∧ f0.type = 5 ∧ f1.type = 22 := ⟨_, _, Tryd.underlying61, rfl, rfl, rfl, rfl⟩

/-- A capability out of its two cells. -/
theorem cap_elem {H : Type} {enc : TypeId × Value → H} {W : World} {n : Nat} {v0 v1 : Value} {y0 y1 : DataW H × List MemPlace}
    (h0 : DataW.trod enc Tryd.prog W 0 (fun _ => true) true n 5 [v0] = some y0) (h1 : DataW.trod enc Tryd.prog W 0 (fun _ => true) true n 22 [v1] = some y1) :
    ∃ x : PA.S61, PA.k61.K W x [v0, v1] ∧ (0 ≤ x.f0 ∧ x.f0 < 256) ∧ ∀ b, b ∈ x.f1 → 0 ≤ b ∧ b < 256 := by
  obtain ⟨a, e0, f0, hw0⟩ := DataW.trod_int Tryd.underlying5 h0
  injection e0 with e0 _
  subst e0
  have ha : 0 ≤ a ∧ a < 256 := by have := bounds_u8 hw0; omega
  rcases open_ints Tryd.underlying22 Tryd.underlying5 cells5 h1 with ⟨hcs, _⟩ | ⟨x, l, c, zs, hcs, _, hl, hm, hz, hx, hcell, hwz⟩
  · injection hcs with hcs _
    subst hcs
    exact ⟨⟨a, []⟩, PA.k61_mk W ⟨a, []⟩ (Nat.le_refl _) (Kd.C_nil _ _), ha, fun b hb => by cases hb⟩
  · injection hcs with hcs _
    subst hcs
    simp at hz
    have hlt : (zs.take l).length = l := by rw [List.length_take]; omega
    have hC : (Kd.int .u8).C W (some x) (zs.take l).length (zs.take l) := by
      refine Kd.C_of_reads (enc := Value.int .u8) (d := (0 : Int)) ⟨rfl, by rw [hlt]; unfold maxLen at hm; omega, fun _ => ⟨x, rfl, fun j hj => ?_⟩⟩
      rw [hcell j (by omega), List.getD_eq_getElem?_getD, List.getD_eq_getElem?_getD, List.getElem?_take, if_pos (by omega)]
    have hK := PA.k61_mk W ⟨a, zs.take l⟩ (A1 := some x) (c1 := c) (by show (zs.take l).length ≤ c; omega) hC
    refine ⟨⟨a, zs.take l⟩, ?_, ha, fun b hb => ?_⟩
    · show PA.k61.K W ⟨a, zs.take l⟩ [.int .u8 a, .slice (some x) l c]
      rw [show (⟨a, zs.take l⟩ : PA.S61).f1.length = l from hlt] at hK
      exact hK
    · have := bounds_u8 (hwz b (List.mem_of_mem_take hb))
      omega

/-- A row of capabilities that came in: what the walks ask of it. -/
theorem caps_arg2 {H : Type} {enc : TypeId × Value → H} {W : World} {a : Option Addr} {len cap : Nat} {d : DataW H} {p : List MemPlace}
    (h : DataW.Trod enc Tryd.prog W 0 (fun _ => true) true 24 (.slice a len cap) d p)
    (hsz : ∀ elems spare : List (DataW H), d = .slice elems spare → (elems.length + spare.length) * Tryd.prog.bytesOf 61 ≤ reachBytes) :
    ∃ xs : List PA.S61, xs.length = len ∧ PA.k61.C W a xs.length xs ∧ len ≤ cap ∧ len ≤ 140737488351232 ∧ ∀ x, x ∈ xs → (0 ≤ x.f0 ∧ x.f0 < 256) ∧ ∀ b, b ∈ x.f1 → 0 ≤ b ∧ b < 256 := by
  obtain ⟨fuel, hf⟩ := h
  obtain ⟨f0, f1, hu, o0, o1, t0, t1⟩ := und61
  rcases Deep.open_slice_pairs Tryd.underlying24 hu cells61 o0 o1 (by rw [t0]; exact cells5) (by rw [t1]; exact cells22) hf with ⟨hcs, _⟩ | ⟨x, l, c, m, n, V0, V1, D0, D1, P0, P1, hcs, _, hl, hm, hmm, hx, hel⟩
  · simp [Value.cells] at hcs
    obtain ⟨rfl, rfl, rfl⟩ := hcs
    exact ⟨[], rfl, Kd.C_nil _ _, Nat.le_refl _, by omega, fun x hx => by cases hx⟩
  · simp [Value.cells] at hcs
    obtain ⟨rfl, rfl, rfl⟩ := hcs
    simp at hmm
    subst hmm
    injection hx with hx _
    have hs := hsz _ _ hx
    rw [bytes61] at hs
    simp only [List.length_map, List.length_range, reachBytes] at hs
    rw [t0, t1] at hel
    have each : ∀ i, i < len → ∃ x : PA.S61, PA.k61.K W x [V0 i, V1 i] ∧ (0 ≤ x.f0 ∧ x.f0 < 256) ∧ ∀ b, b ∈ x.f1 → 0 ≤ b ∧ b < 256 := fun i hi => cap_elem (hel i (by omega)).2.2.1 (hel i (by omega)).2.2.2
    haveI : Inhabited PA.S61 := ⟨⟨0, []⟩⟩
    obtain ⟨q, hq⟩ := Deep.choose_lt each
    have hlen : ((List.range len).map q).length = len := by simp
    refine ⟨(List.range len).map q, hlen, ?_, hl, by omega, fun y hy => ?_⟩
    · refine ⟨rfl, by rw [hlen]; unfold maxLen at hm; omega, fun _ => ⟨x, rfl, fun j p hj => ?_⟩⟩
      obtain ⟨hj1, hj2⟩ := List.getElem?_eq_some_iff.1 hj
      rw [hlen] at hj1
      have hp : q j = p := by rw [← hj2]; simp
      subst hp
      refine ⟨[V0 j, V1 j], rfl, (hq j hj1).1, fun i u hu => ?_⟩
      have hc := hel j (by omega)
      match i, hu with
      | 0, hu =>
        obtain rfl : V0 j = u := by simpa using hu
        exact hc.1
      | 1, hu =>
        obtain rfl : V1 j = u := by simpa using hu
        exact hc.2.1
      | i + 2, hu => simp at hu
    · rw [List.mem_map] at hy
      obtain ⟨i, hi, rfl⟩ := hy
      exact (hq i (List.mem_range.1 hi)).2
theorem caps_arg {H : Type} {enc : TypeId × Value → H} {W : World} {a : Option Addr} {len cap : Nat} {d : DataW H} {p : List MemPlace}
    (h : DataW.Trod enc Tryd.prog W 0 (fun _ => true) true 24 (.slice a len cap) d p)
    (hsz : ∀ elems spare : List (DataW H), d = .slice elems spare → (elems.length + spare.length) * Tryd.prog.bytesOf 61 ≤ reachBytes) :
    ∃ xs : List PA.S61, xs.length = len ∧ PA.k61.C W a xs.length xs ∧ len ≤ cap ∧ len ≤ 140737488351232 ∧ ∀ x, x ∈ xs → ∀ b, b ∈ x.f1 → 0 ≤ b ∧ b < 256 := by
  obtain ⟨xs, h1, h2, h3, h4, h5⟩ := caps_arg2 h hsz
  exact ⟨xs, h1, h2, h3, h4, fun x hx => (h5 x hx).2⟩

theorem gUni : Tryd.prog.globalNamed "consulate/caps.unicast" = some 4 := by kernel_rfl
theorem tUni : (Tryd.prog.globals[4]?).map (·.type) = some 116 := by kernel_rfl

theorem globU_of {W : World} {l : List (String × DataW Unit)} {ps : List MemPlace} (h : DataW.LaidVars Tryd.prog W (("consulate/caps.unicast", Rows.laid_consulate_caps_unicast) :: l) ps) : GlobU W ∧ ∃ qs, DataW.LaidVars Tryd.prog W l qs := by
  obtain ⟨g0, t0, cs0, f0, p0, q0, hg0, ht0, hv0, hd0, hr, _⟩ := h
  obtain rfl := Option.some.inj (gUni.symm.trans hg0)
  obtain rfl := Option.some.inj (tUni.symm.trans ht0)
  have hc := fun i => World.var?_cell hg0 hv0 i
  obtain ⟨xs, m, _, hl, hlen, hxl, hel⟩ := DataW.trod_array und116 hd0
  rw [show Tryd.prog.cellsOf 116 = 4 from by kernel_rfl] at hlen
  rw [cells5] at hel
  obtain ⟨cs⟩ := cs0
  match cs, hlen, xs, hxl with
  | [c0, c1, c2, c3], _, [x0, x1, x2, x3], _ =>
    simp only [Prod.mk.injEq, Rows.laid_consulate_caps_unicast, DataW.agg.injEq, List.map_cons, List.map_nil, List.cons.injEq] at hl
    obtain ⟨⟨l0, l1, l2, l3, _⟩, _⟩ := hl
    have one : ∀ {c : Value} {x : DataW Unit × List MemPlace} {n : Int}, DataW.trod (fun _ => ()) Tryd.prog W 0 (fun _ => true) false m 5 [c] = some x → DataW.lit (.int .u8 n) = x.1 → c = .int .u8 n := by
      intro c x n h h1
      obtain ⟨a, e, f, _⟩ := DataW.trod_int Tryd.underlying5 h
      rw [f] at h1
      injection h1 with h1
      injection h1 with _ h1
      subst h1
      injection e
    have e0 := one (hel 0 (by omega)) l0
    have e1 := one (hel 1 (by omega)) l1
    have e2 := one (hel 2 (by omega)) l2
    have e3 := one (hel 3 (by omega)) l3
    subst e0 e1 e2 e3
    exact ⟨⟨(hc 0).trans rfl, (hc 1).trans rfl, (hc 2).trans rfl, (hc 3).trans rfl⟩, _, hr⟩
end Go.Proofs.YthafedmlbialiaaDoor
