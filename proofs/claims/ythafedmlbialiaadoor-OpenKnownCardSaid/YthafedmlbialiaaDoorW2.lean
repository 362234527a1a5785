/-
  What start-up laid of open's two variables.
-/
import Derived.Test.YthafedmlbialiaaDoorW1
import Derived.Test.YthafedmlbialiaaDoorE0
namespace Go.Proofs.YthafedmlbialiaaDoor
open Go.ChangeShapes Go.WideShapes Go.ChangeAt Go.RowKit Go.Proofs.YthafedmlbialiaaDoorW.PrintWords
set_option linter.unusedVariables false
set_option linter.unusedSimpArgs false

theorem gWant : Tryd.prog.globalNamed "consulate/open.wanted" = some 2 := by kernel_rfl
theorem gFam : Tryd.prog.globalNamed "consulate/open.family" = some 3 := by kernel_rfl
theorem tWant : (Tryd.prog.globals[2]?).map (·.type) = some 22 := by kernel_rfl
theorem tFam : (Tryd.prog.globals[3]?).map (·.type) = some 22 := by kernel_rfl

/-- A variable that holds a row of bytes, as the datum tells it. -/
theorem slice_var {W : World} {n : String} {g : Nat} {cs : Array Value} {fuel : Nat} {p : List MemPlace} {ys : List Int}
    (hg : Tryd.prog.globalNamed n = some g) (hv : W.var? Tryd.prog n = some cs)
    (hd : DataW.trod (fun _ => ()) Tryd.prog W 0 (fun _ => true) false fuel 22 cs.toList = some (.slice (lits .u8 ys) [], p)) :
    ∃ A c, W.cell? ⟨g, 0, none⟩ = some (.slice A ys.length c) ∧ (Kd.int .u8).C W A ys.length ys ∧ ys.length ≤ c := by
  have hc := World.var?_cell hg hv 0
  rcases open_ints Tryd.underlying22 Tryd.underlying5 cells5 hd with ⟨hcs, hx⟩ | ⟨x, l, c, zs, hcs, _, hl, hm, hz, hx, hcell, hwz⟩
  · injection hx with hx _
    cases hx
  · injection hx with hx _
    injection hx with h1 h2
    have e0 : ∀ a b : List Int, (lits .u8 a : List (DataW Unit)) = lits .u8 b → a = b := by
      intro a
      induction a with
      | nil =>
        intro b h
        cases b with
        | nil => rfl
        | cons y b => simp [lits] at h
      | cons x a ih =>
        intro b h
        cases b with
        | nil => simp [lits] at h
        | cons y b =>
          simp only [lits, List.map_cons, List.cons.injEq] at h
          obtain ⟨h1, h2⟩ := h
          injection h1 with h1
          injection h1 with _ h1
          rw [h1, ih b h2]
    have e1 := e0 _ _ h1
    simp at hz
    have e2 : (zs.drop l).length = 0 := by
      have h := congrArg List.length h2
      simp only [lits, List.length_map, List.length_nil] at h
      exact h.symm
    rw [List.length_drop] at e2
    have e3 : ys.length = l := by rw [e1, List.length_take]; omega
    obtain ⟨cl⟩ := cs
    simp only at hcs
    subst hcs
    refine ⟨some x, c, ?_, ?_, by omega⟩
    · rw [e3]
      exact hc.trans rfl
    · refine Kd.C_of_reads (enc := Value.int .u8) (d := (0 : Int)) ⟨rfl, by unfold maxLen at hm; omega, fun _ => ⟨x, rfl, fun j hj => ?_⟩⟩
      rw [hcell j (by omega), List.getD_eq_getElem?_getD, List.getD_eq_getElem?_getD, e1, List.getElem?_take, if_pos (by omega)]
theorem globO_of {W : World} {l : List (String × DataW Unit)} {ps : List MemPlace} (h : DataW.LaidVars Tryd.prog W (("consulate/open.wanted", Rows.laid_consulate_open_wanted) :: ("consulate/open.family", Rows.laid_consulate_open_family) :: l) ps) : GlobO W := by
  obtain ⟨g0, t0, cs0, f0, p0, q0, hg0, ht0, hv0, hd0, ⟨g1, t1, cs1, f1, p1, q1, hg1, ht1, hv1, hd1, _, _⟩, _⟩ := h
  obtain rfl := Option.some.inj (gWant.symm.trans hg0)
  obtain rfl := Option.some.inj (gFam.symm.trans hg1)
  obtain rfl := Option.some.inj (tWant.symm.trans ht0)
  obtain rfl := Option.some.inj (tFam.symm.trans ht1)
  exact ⟨slice_var (ys := [0, 4]) hg0 hv0 hd0, slice_var (ys := [1, 4, 0, 1, 0, 1]) hg1 hv1 hd1⟩
theorem globC_tail {W : World} {l : List (String × DataW Unit)} {ps : List MemPlace} (h : DataW.LaidVars Tryd.prog W (("consulate/caps.cut", Rows.laid_consulate_caps_cut) :: ("consulate/caps.odd", Rows.laid_consulate_caps_odd) :: l) ps) : ∃ qs, DataW.LaidVars Tryd.prog W l qs := by
  obtain ⟨_, _, _, _, _, _, _, _, _, _, ⟨_, _, _, _, _, _, _, _, _, _, hr, _⟩, _⟩ := h
  exact ⟨_, hr⟩

/-- A row of capabilities among other cells. -/
theorem caps_cells {H : Type} {enc : TypeId × Value → H} {W : World} {n : Nat} {cs : List Value} {y : DataW H × List MemPlace}
    (hf : DataW.trod enc Tryd.prog W 0 (fun _ => true) true n 24 cs = some y) :
    ∃ (a : Option Addr) (cap : Nat) (xs : List PA.S61), cs = [.slice a xs.length cap] ∧ PA.k61.C W a xs.length xs ∧ xs.length ≤ cap ∧ ∀ x, x ∈ xs → (0 ≤ x.f0 ∧ x.f0 < 256) ∧ ∀ b, b ∈ x.f1 → 0 ≤ b ∧ b < 256 := by
  obtain ⟨f0, f1, hu, o0, o1, t0, t1⟩ := und61
  rcases Deep.open_slice_pairs Tryd.underlying24 hu cells61 o0 o1 (by rw [t0]; exact cells5) (by rw [t1]; exact cells22) hf with ⟨hcs, _⟩ | ⟨x, len, c, m, n, V0, V1, D0, D1, P0, P1, hcs, _, hl, hm, hmm, hx, hel⟩
  · exact ⟨none, 0, [], hcs, Kd.C_nil _ _, Nat.le_refl _, fun x hx => by cases hx⟩
  · simp at hmm
    subst hmm
    rw [t0, t1] at hel
    have each : ∀ i, i < len → ∃ x : PA.S61, PA.k61.K W x [V0 i, V1 i] ∧ (0 ≤ x.f0 ∧ x.f0 < 256) ∧ ∀ b, b ∈ x.f1 → 0 ≤ b ∧ b < 256 := fun i hi => cap_elem (hel i (by omega)).2.2.1 (hel i (by omega)).2.2.2
    haveI : Inhabited PA.S61 := ⟨⟨0, []⟩⟩
    obtain ⟨q, hq⟩ := Deep.choose_lt each
    have hlen : ((List.range len).map q).length = len := by simp
    refine ⟨some x, _, (List.range len).map q, by rw [hlen]; exact hcs, ?_, by omega, fun y hy => ?_⟩
    · refine ⟨rfl, by rw [hlen]; unfold maxLen at hm; omega, fun _ => ⟨x, rfl, fun j p hj => ?_⟩⟩
      obtain ⟨hj1, hj2⟩ := List.getElem?_eq_some_iff.1 hj
      rw [hlen] at hj1
      have hp : q j = p := by rw [← hj2]; simp
      subst hp
      refine ⟨[V0 j, V1 j], rfl, (hq j hj1).1, fun i u hu => ?_⟩
      have hc := hel j (by omega)
      match i, hu with
      | 0, hu =>
        obtain rfl : V0 j = u := by simpa using hu
        exact hc.1
      | 1, hu =>
        obtain rfl : V1 j = u := by simpa using hu
        exact hc.2.1
      | i + 2, hu => simp at hu
    · rw [List.mem_map] at hy
      obtain ⟨i, hi, rfl⟩ := hy
      exact (hq i (List.mem_range.1 hi)).2

theorem und41 : ∃ f0 f1 f2 f3 f4 : Field, Tryd.prog.underlying 41 = some (.struct #[f0, f1, f2, f3, f4]) ∧ (f0.offset = 0 ∧ f1.offset = 1 ∧ f2.offset = 2 ∧ f3.offset = 3 ∧ f4.offset = 4) ∧ f0.type = 5 ∧ f1.type = 37 ∧ f2.type = 37 ∧ f3.type = 39 ∧ f4.type = 24 := ⟨_, _, _, _, _, Tryd.underlying41, ⟨rfl, rfl, rfl, rfl, rfl⟩, rfl, rfl, rfl, rfl, rfl⟩
theorem und57 : ∃ f0 f1 f2 : Field, Tryd.prog.underlying 57 = some (.struct #[f0, f1, f2]) ∧ (f0.offset = 0 ∧ f1.offset = 1 ∧ f2.offset = 2) ∧ f0.type = 50 ∧ f1.type = 39 ∧ f2.type = 4 := ⟨_, _, _, Tryd.underlying57, ⟨rfl, rfl, rfl⟩, rfl, rfl, rfl⟩
theorem cells41 : Tryd.prog.cellsOf 41 = 5 := by kernel_rfl
theorem cells57 : Tryd.prog.cellsOf 57 = 3 := by kernel_rfl
theorem cells37 : Tryd.prog.cellsOf 37 = 1 := by kernel_rfl
theorem cells39 : Tryd.prog.cellsOf 39 = 1 := by kernel_rfl
theorem cells24 : Tryd.prog.cellsOf 24 = 1 := by kernel_rfl
theorem cells50 : Tryd.prog.cellsOf 50 = 1 := by kernel_rfl
theorem cells4 : Tryd.prog.cellsOf 4 = 1 := by kernel_rfl

set_option maxRecDepth 100000 in
/-- An OPEN that came in. -/
theorem open_arg {H : Type} {enc : TypeId × Value → H} {W : World} {v : Value} {d : DataW H} {p : List MemPlace} (hv : ∃ cs, v = .agg cs ∧ cs.size = Tryd.prog.cellsOf 41)
    (h : DataW.Trod enc Tryd.prog W 0 (fun _ => true) true 41 v d p) :
    ∃ ver an hold id a cap, ∃ xs : List PA.S61, v = .agg #[.int .u8 ver, .int .u16 an, .int .u16 hold, .int .u32 id, .slice a xs.length cap] ∧ (0 ≤ ver ∧ ver < 256) ∧ (0 ≤ an ∧ an < 65536) ∧ (0 ≤ hold ∧ hold < 65536) ∧ (0 ≤ id ∧ id < 4294967296) ∧
      PA.k61.C W a xs.length xs ∧ xs.length ≤ cap ∧ ∀ x, x ∈ xs → (0 ≤ x.f0 ∧ x.f0 < 256) ∧ ∀ b, b ∈ x.f1 → 0 ≤ b ∧ b < 256 := by
  obtain ⟨cs, rfl, hsz⟩ := hv
  obtain ⟨fuel, hf⟩ := h
  obtain ⟨f0, f1, f2, f3, f4, hu, ⟨o0, o1, o2, o3, o4⟩, t0, t1, t2, t3, t4⟩ := und41
  obtain ⟨ys, n, _, _, hl, hlen, hel⟩ := DataW.trod_struct hu hf
  rw [cells41] at hsz
  obtain ⟨cl⟩ := cs
  match cl, hsz, ys, hlen with
  | [c0, c1, c2, c3, c4], _, [y0, y1, y2, y3, y4], _ =>
    have g0 := hel 0 f0 rfl
    have g1 := hel 1 f1 rfl
    have g2 := hel 2 f2 rfl
    have g3 := hel 3 f3 rfl
    have g4 := hel 4 f4 rfl
    rw [o0, t0, cells5] at g0
    rw [o1, t1, cells37] at g1
    rw [o2, t2, cells37] at g2
    rw [o3, t3, cells39] at g3
    rw [o4, t4, cells24] at g4
    obtain ⟨n0, e0, _, w0⟩ := DataW.trod_int Tryd.underlying5 g0
    obtain ⟨n1, e1, _, w1⟩ := DataW.trod_int Tryd.underlying37 g1
    obtain ⟨n2, e2, _, w2⟩ := DataW.trod_int Tryd.underlying37 g2
    obtain ⟨n3, e3, _, w3⟩ := DataW.trod_int Tryd.underlying39 g3
    obtain ⟨a, cap, xs, e4, hC, hc, hb⟩ := caps_cells g4
    simp [Value.cells] at e0 e1 e2 e3 e4
    subst e0 e1 e2 e3 e4
    have b0 := bounds_u8 w0
    have b1 := bounds_u16 w1
    have b2 := bounds_u16 w2
    have b3 := bounds_u32 w3
    exact ⟨n0, n1, n2, n3, a, cap, xs, rfl, by omega, by omega, by omega, by omega, hC, hc, hb⟩
set_option maxRecDepth 100000 in
/-- Wants that came in. -/
theorem wants_arg {H : Type} {enc : TypeId × Value → H} {W : World} {v : Value} {d : DataW H} {p : List MemPlace} (hv : ∃ cs, v = .agg cs ∧ cs.size = Tryd.prog.cellsOf 57)
    (h : DataW.Trod enc Tryd.prog W 0 (fun _ => true) true 57 v d p) : ∃ was own inside, v = .agg #[.int .u32 was, .int .u32 own, .bool inside] := by
  obtain ⟨cs, rfl, hsz⟩ := hv
  obtain ⟨fuel, hf⟩ := h
  obtain ⟨f0, f1, f2, hu, ⟨o0, o1, o2⟩, t0, t1, t2⟩ := und57
  obtain ⟨ys, n, _, _, hl, hlen, hel⟩ := DataW.trod_struct hu hf
  rw [cells57] at hsz
  obtain ⟨cl⟩ := cs
  match cl, hsz, ys, hlen with
  | [c0, c1, c2], _, [y0, y1, y2], _ =>
    have g0 := hel 0 f0 rfl
    have g1 := hel 1 f1 rfl
    have g2 := hel 2 f2 rfl
    rw [o0, t0, cells50] at g0
    rw [o1, t1, cells39] at g1
    rw [o2, t2, cells4] at g2
    obtain ⟨n0, e0, _, w0⟩ := DataW.trod_int Tryd.underlying50 g0
    obtain ⟨n1, e1, _, w1⟩ := DataW.trod_int Tryd.underlying39 g1
    obtain ⟨b, e2, _⟩ := DataW.trod_bool Tryd.underlying4 g2
    simp [Value.cells] at e0 e1 e2
    subst e0 e1 e2
    exact ⟨n0, n1, b, rfl⟩
end Go.Proofs.YthafedmlbialiaaDoor
