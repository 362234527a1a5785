/-
  The walk of the document's Get.
-/
import Derived.Test.YthafedmlbialiaaDoorE1
namespace Go.Proofs.YthafedmlbialiaaDoor
open Go.RowKit Go.Proofs.YthafedmlbialiaaDoorW.PrintWords Go.Proofs.YthafedmlbialiaaDoorW.PrintLast Go.Proofs.YthafedmlbialiaaDoorW.PrintMore
set_option linter.unusedVariables false
set_option linter.unusedSimpArgs false

/-- The document's OPEN is stored over that of block g. -/
theorem put45 {w w0 : World} {B g t : Nat} {a0 a1 a2 a3 a4 : Value} (v0 v1 v2 v3 v4 : Value) (hM : w.heap[g]? = some (.cells #[a0, a1, a2, a3, a4] t (0, 0))) (HB : Below B w0 w) (hB : B ≤ g) :
    ((((((w.setCell ⟨g, 0, none⟩ v0).setCell ⟨g, 1, none⟩ v1).setCell ⟨g, 2, none⟩ v2).setCell ⟨g, 3, none⟩ v3).setCell ⟨g, 4, none⟩ v4)).heap[g]? = some (.cells #[v0, v1, v2, v3, v4] t (0, 0)) ∧ Below B w0 ((((((w.setCell ⟨g, 0, none⟩ v0).setCell ⟨g, 1, none⟩ v1).setCell ⟨g, 2, none⟩ v2).setCell ⟨g, 3, none⟩ v3).setCell ⟨g, 4, none⟩ v4)) :=
  ⟨blk_put (blk_put (blk_put (blk_put (blk_put hM 0 v0 rfl) 1 v1 rfl) 2 v2 rfl) 3 v3 rfl) 4 v4 rfl, ((((HB.setCell (p := ⟨g, 0, none⟩) hB v0).setCell (p := ⟨g, 1, none⟩) hB v1).setCell (p := ⟨g, 2, none⟩) hB v2).setCell (p := ⟨g, 3, none⟩) hB v3).setCell (p := ⟨g, 4, none⟩) hB v4⟩
theorem put45_R {α : Type} {d : Kd α} {e base : Nat} {ok : Nat → Prop} {v : Value} {xs : List α} {w : World} {g t : Nat} {a0 a1 a2 a3 a4 : Value} (h : d.R e w base ok v xs) (v0 v1 v2 v3 v4 : Value) (hM : w.heap[g]? = some (.cells #[a0, a1, a2, a3, a4] t (0, 0))) (ht : ∀ q, q ∈ e :: d.E → q ≠ t) :
    d.R e ((((((w.setCell ⟨g, 0, none⟩ v0).setCell ⟨g, 1, none⟩ v1).setCell ⟨g, 2, none⟩ v2).setCell ⟨g, 3, none⟩ v3).setCell ⟨g, 4, none⟩ v4)) base ok v xs := by
  have h1 := blk_put hM 0 v0 rfl
  have h2 := blk_put h1 1 v1 rfl
  have h3 := blk_put h2 2 v2 rfl
  have h4 := blk_put h3 3 v3 rfl
  exact Kd.R_set (Kd.R_set (Kd.R_set (Kd.R_set (Kd.R_set h hM ht 0 v0) h1 ht 1 v1) h2 ht 2 v2) h3 ht 3 v3) h4 ht 4 v4
/-- What the document's Get hands back. -/
def RGetPost (w : World) (o : OpenP) (f0 f1 : Int) (d : List Int) (e : Ending) (w' : World) : Prop :=
  ∃ A1 c1 A2 c2, e = .returned (.tuple #[.agg #[.int .i64 o.ver, .int .i64 o.an, .int .i64 o.hold, .int .u32 o.id, .slice A1 (o.caps.map cap99).length c1], .int .i64 f0, .int .i64 f1, .slice A2 d.length c2]) ∧
    PA.k99.C w' A1 (o.caps.map cap99).length (o.caps.map cap99) ∧ (o.caps.map cap99).length ≤ c1 ∧ (Kd.int .u8).C w' A2 d.length d ∧ d.length ≤ c2 ∧ Below w.heap.size w w'

set_option maxHeartbeats 1600000 in
set_option maxRecDepth 100000 in
theorem rGet_calls (w : World) (A : Option Addr) (c : Nat) (xs : List Int) (hC : (Kd.int .u8).C w A xs.length xs) (hc : xs.length ≤ c) (hl : xs.length ≤ 140737488351232) (hb : ∀ x, x ∈ xs → 0 ≤ x ∧ x < 256)
    (o : OpenP) (f0 f1 : Int) (d : List Int) (ho : oGet xs = (o, f0, f1, d)) :
    Calls Tryd.prog 22 #[.slice A xs.length c] w (RGetPost w o f0 f1 d) := by
  have hM := blk_new w (.cells #[.int .i64 0, .int .i64 0, .int .i64 0, .int .u32 0, .slice none 0 0] 45)
  have HB := below_alloc (Below.refl w.heap.size w) (.cells #[.int .i64 0, .int .i64 0, .int .i64 0, .int .u32 0, .slice none 0 0] 45)
  have hC0 := hC
  replace hC := Kd.C_below hC HB
  by_cases hs : xs.length < 10
  · rw [oGet_short hs] at ho
    injection ho with e1 ho
    injection ho with e2 ho
    injection ho with e3 e4
    subst e1 e2 e3 e4

    have d1 : decide ((xs.length : Int) < 10) = true := decide_eq_true (by omega)
    have d2 : decide (xs.length < 10) = true := decide_eq_true (by omega)
    clear hb
    go_enter Tryd.func22, Tryd.ntmps22
    go_upto_region 1 with fail
    generalize (w.alloc (.cells #[.int .i64 0, .int .i64 0, .int .i64 0, .int .u32 0, .slice none 0 0] 45)) = w1 at *
    have x0 := blk_cell hM 0
    have x1 := blk_cell hM 1
    have x2 := blk_cell hM 2
    have x3 := blk_cell hM 3
    have x4 := blk_cell hM 4
    simp at x0 x1 x2 x3 x4
    have z0 := blk_frozen hM 0
    have z1 := blk_frozen hM 1
    have z2 := blk_frozen hM 2
    have z3 := blk_frozen hM 3
    have z4 := blk_frozen hM 4
    go_wp2
    obtain ⟨m1, m3⟩ := put45 (.int .i64 0) (.int .i64 0) (.int .i64 0) (.int .u32 0) (.slice none 0 0) hM HB (Nat.le_refl _)
    clear x0 x1 x2 x3 x4 z0 z1 z2 z3 z4 hM HB
    generalize ((((w1.setCell ⟨w.heap.size, 0, none⟩ (.int .i64 0)).setCell ⟨w.heap.size, 1, none⟩ (.int .i64 0)).setCell ⟨w.heap.size, 2, none⟩ (.int .i64 0)).setCell ⟨w.heap.size, 3, none⟩ (.int .u32 0)).setCell ⟨w.heap.size, 4, none⟩ (.slice none 0 0) = wz at *
    have x0 := blk_cell m1 0
    have x1 := blk_cell m1 1
    have x2 := blk_cell m1 2
    have x3 := blk_cell m1 3
    have x4 := blk_cell m1 4
    simp at x0 x1 x2 x3 x4
    have hC1z := Kd.C_nil PA.k99 wz
    have hC2z := Kd.C_nil (Kd.int .u8) wz
    have hc1z := Nat.le_refl 0
    have hc2z := Nat.le_refl 0
    exact bodyPost_ret (v := .tuple #[.agg #[.int .i64 0, .int .i64 0, .int .i64 0, .int .u32 0, .slice none 0 0], .int .i64 (2), .int .i64 (0), .slice none 0 0]) (by simp [results, Tryd.results22, go_sem, x0, x1, x2, x3, x4]) rfl ⟨_, _, _, _, rfl, hC1z, hc1z, hC2z, hc2z, m3⟩

  · obtain ⟨a, b1, b2, h1, h2, i1, i2, i3, i4, m, rest, hx⟩ := ten (xs := xs) (by omega)
    have ho' := ho
    rw [hx] at ho
    simp only [oGet] at ho
    have ba := hb a (by rw [hx]; simp)
    have bb1 := hb b1 (by rw [hx]; simp)
    have bb2 := hb b2 (by rw [hx]; simp)
    have bh1 := hb h1 (by rw [hx]; simp)
    have bh2 := hb h2 (by rw [hx]; simp)
    have bi1 := hb i1 (by rw [hx]; simp)
    have bi2 := hb i2 (by rw [hx]; simp)
    have bi3 := hb i3 (by rw [hx]; simp)
    have bi4 := hb i4 (by rw [hx]; simp)
    have bm := hb m (by rw [hx]; simp)
    have brest : ∀ x, x ∈ rest → 0 ≤ x ∧ x < 256 := fun x h => hb x (by rw [hx]; simp [h])
    have hxl : xs.length = rest.length + 10 := by rw [hx]; simp
    have d1 : decide ((xs.length : Int) < 10) = false := decide_eq_false (by omega)
    have d2 : decide (xs.length < 10) = false := decide_eq_false (by omega)
    have hdrop : xs.drop 10 = rest := by rw [hx]; rfl
    obtain ⟨ad, rfl, _⟩ := Kd.at_int hC 0 (by omega) (by omega)
    have at0 : ∀ W : World, (Kd.int .u8).C W (some ad) xs.length xs → ∀ (i : Nat), i < 10 → W.cell? (ad.add i) = some (.int .u8 (rd xs (i : Int))) := by
      intro W h i hi
      obtain ⟨ad', e, q⟩ := Kd.at_int h (i : Int) (by omega) (by omega)
      injection e with e
      subst e
      rw [Int.toNat_natCast] at q
      exact q
    have e0 : rd xs ((0 : Nat) : Int) = a := by rw [hx]; rfl
    have e1 : rd xs ((1 : Nat) : Int) = b1 := by rw [hx]; rfl
    have e2 : rd xs ((2 : Nat) : Int) = b2 := by rw [hx]; rfl
    have e3 : rd xs ((3 : Nat) : Int) = h1 := by rw [hx]; rfl
    have e4 : rd xs ((4 : Nat) : Int) = h2 := by rw [hx]; rfl
    have e5 : rd xs ((5 : Nat) : Int) = i1 := by rw [hx]; rfl
    have e6 : rd xs ((6 : Nat) : Int) = i2 := by rw [hx]; rfl
    have e7 : rd xs ((7 : Nat) : Int) = i3 := by rw [hx]; rfl
    have e8 : rd xs ((8 : Nat) : Int) = i4 := by rw [hx]; rfl
    have e9 : rd xs ((9 : Nat) : Int) = m := by rw [hx]; rfl
    have R0 := Aside0.mk (fun W h => (at0 W h 0 (by omega)).trans (by rw [e0]))
    have R1 := Aside0.mk (fun W h => (at0 W h 1 (by omega)).trans (by rw [e1]))
    have R2 := Aside0.mk (fun W h => (at0 W h 2 (by omega)).trans (by rw [e2]))
    have R3 := Aside0.mk (fun W h => (at0 W h 3 (by omega)).trans (by rw [e3]))
    have R4 := Aside0.mk (fun W h => (at0 W h 4 (by omega)).trans (by rw [e4]))
    have R5 := Aside0.mk (fun W h => (at0 W h 5 (by omega)).trans (by rw [e5]))
    have R6 := Aside0.mk (fun W h => (at0 W h 6 (by omega)).trans (by rw [e6]))
    have R7 := Aside0.mk (fun W h => (at0 W h 7 (by omega)).trans (by rw [e7]))
    have R8 := Aside0.mk (fun W h => (at0 W h 8 (by omega)).trans (by rw [e8]))
    have R9 := Aside0.mk (fun W h => (at0 W h 9 (by omega)).trans (by rw [e9]))
    have l0 := eq_true (show (0 : Int) < xs.length by omega)
    have l9 := eq_true (show (9 : Int) < xs.length by omega)
    have c0 := R0.out _ hC
    have c9 := R9.out _ hC
    have c0z := c0
    simp [Addr.add] at c0z c9
    have hxl' := Aside0.mk hxl
    clear hx hb at0 e0 e1 e2 e3 e4 e5 e6 e7 e8 e9
    by_cases h4 : a ≠ 4
    · rw [if_pos h4] at ho
      injection ho with e1 ho
      injection ho with e2 ho
      injection ho with e3 e4
      subst e1 e2 e3 e4

      have n4 : (a != 4) = true := bne_iff_ne.mpr h4
      clear hxl
      go_enter Tryd.func22, Tryd.ntmps22
      go_upto_region 1 with fail
      generalize (w.alloc (.cells #[.int .i64 0, .int .i64 0, .int .i64 0, .int .u32 0, .slice none 0 0] 45)) = w1 at *
      have hv := litR w1 5 .u8 [0, 4] (by decide)
      have hb2 := below_alloc (Below.refl w1.heap.size w1) (.cells (nums .u8 [0, 4]).toArray 5)
      replace HB := HB.trans (hb2.mono HB.size)
      replace hM := blk_below hM hb2
      simp only [nums, List.map_cons, List.map_nil] at hv hM HB
      clear hb2 c9 l9
      have x0 := blk_cell hM 0
      have x1 := blk_cell hM 1
      have x2 := blk_cell hM 2
      have x3 := blk_cell hM 3
      have x4 := blk_cell hM 4
      simp at x0 x1 x2 x3 x4
      have z0 := blk_frozen hM 0
      have z1 := blk_frozen hM 1
      have z2 := blk_frozen hM 2
      have z3 := blk_frozen hM 3
      have z4 := blk_frozen hM 4
      go_wp2_with fail
      replace hv := put45_R hv (.int .i64 0) (.int .i64 0) (.int .i64 0) (.int .u32 0) (.slice none 0 0) hM (by decide)
      obtain ⟨m1, m3⟩ := put45 (.int .i64 0) (.int .i64 0) (.int .i64 0) (.int .u32 0) (.slice none 0 0) hM HB (Nat.le_refl _)
      clear x0 x1 x2 x3 x4 z0 z1 z2 z3 z4 hM HB
      generalize (((((w1.alloc (.cells #[.int .u8 0, .int .u8 4] 5)).setCell ⟨w.heap.size, 0, none⟩ (.int .i64 0)).setCell ⟨w.heap.size, 1, none⟩ (.int .i64 0)).setCell ⟨w.heap.size, 2, none⟩ (.int .i64 0)).setCell ⟨w.heap.size, 3, none⟩ (.int .u32 0)).setCell ⟨w.heap.size, 4, none⟩ (.slice none 0 0) = wz at *
      have x0 := blk_cell m1 0
      have x1 := blk_cell m1 1
      have x2 := blk_cell m1 2
      have x3 := blk_cell m1 3
      have x4 := blk_cell m1 4
      simp at x0 x1 x2 x3 x4
      have hC1z := Kd.C_nil PA.k99 wz
      have hc1z := Nat.le_refl 0
      have hC2z := litC hv
      have hc2z := Nat.le_refl 2
      exact bodyPost_ret (v := .tuple #[.agg #[.int .i64 0, .int .i64 0, .int .i64 0, .int .u32 0, .slice none 0 0], .int .i64 (2), .int .i64 (1), .slice (some ⟨w1.heap.size, 0, none⟩) 2 2]) (by simp [results, Tryd.results22, go_sem, x0, x1, x2, x3, x4]) rfl ⟨_, _, _, _, rfl, hC1z, hc1z, hC2z, hc2z, m3⟩
    · rw [if_neg h4] at ho
      have h4' : a = 4 := by omega
      subst h4'
      have s1 : IntKind.i64.wrap m = m := by rw [i64_w, w64 (by omega) (by omega)]
      obtain ⟨mm, hmm⟩ : ∃ mm, mm = 10 + m := ⟨_, rfl⟩
      have s2 : IntKind.i64.wrap (10 + m) = mm := by rw [i64_w, w64 (by omega) (by omega), hmm]
      by_cases h5 : m ≠ rest.length
      · rw [if_pos h5] at ho
        injection ho with e1 ho
        injection ho with e2 ho
        injection ho with e3 e4
        subst e1 e2 e3 e4

        have n5 : ((xs.length : Int) != mm) = true := bne_iff_ne.mpr (by omega)
        clear hxl
        go_enter Tryd.func22, Tryd.ntmps22
        go_upto_region 1 with fail
        generalize (w.alloc (.cells #[.int .i64 0, .int .i64 0, .int .i64 0, .int .u32 0, .slice none 0 0] 45)) = w1 at *
        have x0 := blk_cell hM 0
        have x1 := blk_cell hM 1
        have x2 := blk_cell hM 2
        have x3 := blk_cell hM 3
        have x4 := blk_cell hM 4
        simp at x0 x1 x2 x3 x4
        have z0 := blk_frozen hM 0
        have z1 := blk_frozen hM 1
        have z2 := blk_frozen hM 2
        have z3 := blk_frozen hM 3
        have z4 := blk_frozen hM 4
        go_wp2_with fail
        obtain ⟨m1, m3⟩ := put45 (.int .i64 0) (.int .i64 0) (.int .i64 0) (.int .u32 0) (.slice none 0 0) hM HB (Nat.le_refl _)
        clear x0 x1 x2 x3 x4 z0 z1 z2 z3 z4 hM HB
        generalize ((((w1.setCell ⟨w.heap.size, 0, none⟩ (.int .i64 0)).setCell ⟨w.heap.size, 1, none⟩ (.int .i64 0)).setCell ⟨w.heap.size, 2, none⟩ (.int .i64 0)).setCell ⟨w.heap.size, 3, none⟩ (.int .u32 0)).setCell ⟨w.heap.size, 4, none⟩ (.slice none 0 0) = wz at *
        have x0 := blk_cell m1 0
        have x1 := blk_cell m1 1
        have x2 := blk_cell m1 2
        have x3 := blk_cell m1 3
        have x4 := blk_cell m1 4
        simp at x0 x1 x2 x3 x4
        have hC1z := Kd.C_nil PA.k99 wz
        have hC2z := Kd.C_nil (Kd.int .u8) wz
        have hc1z := Nat.le_refl 0
        have hc2z := Nat.le_refl 0
        exact bodyPost_ret (v := .tuple #[.agg #[.int .i64 0, .int .i64 0, .int .i64 0, .int .u32 0, .slice none 0 0], .int .i64 (2), .int .i64 (0), .slice none 0 0]) (by simp [results, Tryd.results22, go_sem, x0, x1, x2, x3, x4]) rfl ⟨_, _, _, _, rfl, hC1z, hc1z, hC2z, hc2z, m3⟩
      · rw [if_neg h5] at ho
        have h5' : m = rest.length := by omega
        have n5 : ((xs.length : Int) != mm) = false := by rw [bne_eq_false_iff_eq]; omega
        have hrr := ref_of rest brest (by omega)
        have hcap : (∃ l, o = ⟨4, b1 * 256 + b2, h1 * 256 + h2, ((i1 * 256 + i2) * 256 + i3) * 256 + i4, l⟩ ∧ f0 = 0 ∧ f1 = 0 ∧ d = [] ∧ PA.consulateref05_Read.f (2 * rest.length + 2) rest = some (l.map cap99, 0, 0)) ∨ (∃ x, (x = 0 ∨ x = 4) ∧ o = .zero ∧ f0 = 2 ∧ f1 = x ∧ d = [] ∧ PA.consulateref05_Read.f (2 * rest.length + 2) rest = some ([], 2, x)) := by
          cases hco : capsOut (rest.length + 1) rest with
          | ok l =>
            rw [hco] at ho hrr
            injection ho with e1 ho
            injection ho with e2 ho
            injection ho with e3 e4
            exact .inl ⟨l, e1.symm, e2.symm, e3.symm, e4.symm, hrr⟩
          | error x =>
            rw [hco] at ho hrr
            injection ho with e1 ho
            injection ho with e2 ho
            injection ho with e3 e4
            exact .inr ⟨x, capsOut_err _ _ _ hco, e1.symm, e2.symm, e3.symm, e4.symm, hrr⟩
        obtain ⟨i5, hi5, _, hsz5, _⟩ := info_parts info5
        have hcf := cut_from (P := Tryd.prog) 22 5 .i64 Tryd.underlying22 hi5 1 hsz5 (some ad) xs.length c 10 (by omega) (by omega)
        have hCd := Kd.C_drop hC0 (m := 10) (by omega) hc
        rw [hdrop] at hCd
        have ehx : xs.length - (10 : Int).toNat = rest.length := by show xs.length - 10 = _; omega
        rw [ehx] at hcf
        have hcd : rest.length ≤ c - (10 : Int).toNat := by show _ ≤ c - 10; omega
        obtain ⟨A10, hA10⟩ : ∃ A10, (if c = 10 then some ad else (some ad).map (·.add (10 * (Kd.int .u8).sz))) = A10 := ⟨_, rfl⟩
        rw [hA10] at hCd
        have hcf2 : ∀ W : World, (Instr.slice 22 (.slice (some ad) xs.length c) (some (.int .i64 10)) none none).run Tryd.prog W = .ok (.slice A10 rest.length (c - (10 : Int).toNat)) W := by
          intro W
          rw [hcf W, ← hA10]
          rfl
        generalize c - (10 : Int).toNat = c10 at *
        clear hcf ho hrr hA10 ehx hdrop
        have h5'' := Aside0.mk h5'
        have hcd' := Aside0.mk hcd
        have BB := Aside0.mk (And.intro bb1 (And.intro bb2 (And.intro bh1 (And.intro bh2 (And.intro bi1 (And.intro bi2 (And.intro bi3 bi4)))))))
        clear h5 h5' hxl hmm bb1 bb2 bh1 bh2 bi1 bi2 bi3 bi4 brest
        rcases hcap with ⟨l, rfl, rfl, rfl, rfl, hcr⟩ | ⟨x, hx04, rfl, rfl, rfl, rfl, hcr⟩
        · have HR := Aside0.mk hcr
          clear hcr
          go_enter Tryd.func22, Tryd.ntmps22
          go_upto_region 1 with fail
          generalize (w.alloc (.cells #[.int .i64 0, .int .i64 0, .int .i64 0, .int .u32 0, .slice none 0 0] 45)) = w1 at *
          have hlt1 := blk_lt hM
          have hFd : Kd.F (Kd.int .u8) w1 (fun k => k < w.heap.size) A10 rest.length rest := fun W hW => (Kd.heap_int .u8).C (fun k hlt => (hW k hlt (Nat.lt_trans hlt hlt1)).trans (HB.block k hlt)) hCd
          go_wp2_with fail
          refine (PA.consulateref05_Read.calls (2 * rest.length + 2) (fun k => k < w.heap.size) A10 c10 rest (l.map cap99) 0 0 w1 (Kd.V_mk hcd'.out hFd) HR.out).mono ?_
          rintro e w2 ⟨v2, rfl, hv2, hb2⟩
          replace HB := HB.trans (hb2.mono HB.size)
          replace hM := blk_below hM hb2
          replace hC := Kd.C_below hC hb2
          obtain ⟨A2, c2, rfl, hc2, _⟩ := Kd.N_reads hv2
          clear hb2 c0 c9 c0z hCd hFd
          have x0 := blk_cell hM 0
          have x1 := blk_cell hM 1
          have x2 := blk_cell hM 2
          have x3 := blk_cell hM 3
          have x4 := blk_cell hM 4
          simp at x0 x1 x2 x3 x4
          have z0 := blk_frozen hM 0
          have z1 := blk_frozen hM 1
          have z2 := blk_frozen hM 2
          have z3 := blk_frozen hM 3
          have z4 := blk_frozen hM 4
          
          have m0 := (R0.out _ hC)
          have m1 := (R1.out _ hC)
          have m2 := (R2.out _ hC)
          have m3 := (R3.out _ hC)
          have m4 := (R4.out _ hC)
          simp [Addr.add] at m0 m1 m2 m3 m4
          obtain ⟨bb1, bb2, bh1, bh2, bi1, bi2, bi3, bi4⟩ := BB.out
          have l0n := eq_true (show 0 < xs.length by have := hxl'.out; omega)
          have l1 := eq_true (show (1 : Int) < xs.length by have := hxl'.out; omega)
          have l2 := eq_true (show (2 : Int) < xs.length by have := hxl'.out; omega)
          have l3 := eq_true (show (3 : Int) < xs.length by have := hxl'.out; omega)
          have l4 := eq_true (show (4 : Int) < xs.length by have := hxl'.out; omega)
          obtain ⟨p1, hp1⟩ : ∃ p, p = 256 * b1 := ⟨_, rfl⟩
          obtain ⟨p2, hp2⟩ : ∃ p, p = 256 * h1 := ⟨_, rfl⟩
          obtain ⟨an, han⟩ : ∃ p, p = b1 * 256 + b2 := ⟨_, rfl⟩
          obtain ⟨hold, hhold⟩ : ∃ p, p = h1 * 256 + h2 := ⟨_, rfl⟩
          have u1 : IntKind.i64.wrap b1 = b1 := by rw [i64_w, w64 (by omega) (by omega)]
          have u2 : IntKind.i64.wrap b2 = b2 := by rw [i64_w, w64 (by omega) (by omega)]
          have u3 : IntKind.i64.wrap h1 = h1 := by rw [i64_w, w64 (by omega) (by omega)]
          have u4 : IntKind.i64.wrap h2 = h2 := by rw [i64_w, w64 (by omega) (by omega)]
          have u5 : IntKind.i64.wrap (256 * b1) = p1 := by rw [i64_w, w64 (by omega) (by omega), hp1]
          have u6 : IntKind.i64.wrap (256 * h1) = p2 := by rw [i64_w, w64 (by omega) (by omega), hp2]
          have u7 : IntKind.i64.wrap (p1 + b2) = an := by rw [i64_w, w64 (by omega) (by omega), hp1, han]; omega
          have u8 : IntKind.i64.wrap (p2 + h2) = hold := by rw [i64_w, w64 (by omega) (by omega), hp2, hhold]; omega
          have han' := Aside0.mk han
          have hhold' := Aside0.mk hhold
          clear hp1 hp2 han hhold bb1 bb2 bh1 bh2 bi1 bi2 bi3 bi4
          go_upto_region 10 with fail
          refine start_ (n := 28) (S := fun w' => w'.cell? ad = some (.int .u8 4) ∧ w'.cell? ⟨ad.block, ad.off + 1, none⟩ = some (.int .u8 b1) ∧ w'.cell? ⟨ad.block, ad.off + 2, none⟩ = some (.int .u8 b2) ∧ w'.cell? ⟨ad.block, ad.off + 3, none⟩ = some (.int .u8 h1) ∧ w'.cell? ⟨ad.block, ad.off + 4, none⟩ = some (.int .u8 h2)) (ds := [27]) #[false, false, false, false, false, false, false, false, false, false, false, false, false, false, false, false, false, false, false, false, false, false, false, false, false, false, false, false] (by kernel_rfl) rfl rfl (⟨m0, m1, m2, m3, m4⟩) (fun hHeld => ?_)
          refine pure_ (i := 0) (N := (some 46)) (v := ?_) (a' := ?_) #[true, false, false, false, false, false, false, false, false, false, false, false, false, false, false, false, false, false, false, false, false, false, false, false, false, false, false, false] rfl rfl (by kernel_rfl) (fun _ _ _ h => h) (Or.inl ⟨by rfl, ?_⟩) ?_ ?_
          rotate_left
          · intro w'
            go_simp
            with_reducible rfl
          rotate_left
          · simp only [Act.put, List.setIfInBounds_toArray, List.set_cons_zero, List.set_cons_succ, i64_w, i32_w]
            rfl
          refine pure_ (i := 1) (N := (some 47)) (v := ?_) (a' := ?_) #[true, true, false, false, false, false, false, false, false, false, false, false, false, false, false, false, false, false, false, false, false, false, false, false, false, false, false, false] rfl rfl (by kernel_rfl) (fun _ _ _ h => h) (Or.inl ⟨by rfl, ?_⟩) ?_ ?_
          rotate_left
          · intro w'
            go_simp
            with_reducible rfl
          rotate_left
          · simp only [Act.put, List.setIfInBounds_toArray, List.set_cons_zero, List.set_cons_succ, i64_w, i32_w]
            rfl
          refine take_ (i := 2) (N := (some 48)) (v := ?_) (a' := ?_) #[true, true, true, false, false, false, false, false, false, false, false, false, false, false, false, false, false, false, false, false, false, false, false, false, false, false, false, false] rfl rfl (by kernel_rfl) (fun _ _ _ h => h) (Or.inl ⟨by rfl, ?_⟩) hHeld ?_ ?_
          rotate_left
          · rintro w' ⟨s0, s1, s2, s3, s4⟩
            go_simp
            with_reducible rfl
          rotate_left
          · simp only [Act.put, List.setIfInBounds_toArray, List.set_cons_zero, List.set_cons_succ, i64_w, i32_w]
            rfl
          refine pure_ (i := 3) (N := (some 49)) (v := ?_) (a' := ?_) #[true, true, true, true, false, false, false, false, false, false, false, false, false, false, false, false, false, false, false, false, false, false, false, false, false, false, false, false] rfl rfl (by kernel_rfl) (fun _ _ _ h => h) (Or.inl ⟨by rfl, ?_⟩) ?_ ?_
          rotate_left
          · intro w'
            go_simp
            with_reducible rfl
          rotate_left
          · simp only [Act.put, List.setIfInBounds_toArray, List.set_cons_zero, List.set_cons_succ, i64_w, i32_w]
            rfl
          refine pure_ (i := 4) (N := (some 50)) (v := ?_) (a' := ?_) #[true, true, true, true, true, false, false, false, false, false, false, false, false, false, false, false, false, false, false, false, false, false, false, false, false, false, false, false] rfl rfl (by kernel_rfl) (fun _ _ _ h => h) (Or.inl ⟨by rfl, ?_⟩) ?_ ?_
          rotate_left
          · intro w'
            go_simp
            with_reducible rfl
          rotate_left
          · simp only [Act.put, List.setIfInBounds_toArray, List.set_cons_zero, List.set_cons_succ, i64_w, i32_w]
            rfl
          refine pure_ (i := 5) (N := (some 51)) (v := ?_) (a' := ?_) #[true, true, true, true, true, true, false, false, false, false, false, false, false, false, false, false, false, false, false, false, false, false, false, false, false, false, false, false] rfl rfl (by kernel_rfl) (fun _ _ _ h => h) (Or.inl ⟨by rfl, ?_⟩) ?_ ?_
          rotate_left
          · intro w'
            go_simp
            with_reducible rfl
          rotate_left
          · simp only [Act.put, List.setIfInBounds_toArray, List.set_cons_zero, List.set_cons_succ, i64_w, i32_w]
            rfl
          refine take_ (i := 6) (N := (some 52)) (v := ?_) (a' := ?_) #[true, true, true, true, true, true, true, false, false, false, false, false, false, false, false, false, false, false, false, false, false, false, false, false, false, false, false, false] rfl rfl (by kernel_rfl) (fun _ _ _ h => h) (Or.inl ⟨by rfl, ?_⟩) hHeld ?_ ?_
          rotate_left
          · rintro w' ⟨s0, s1, s2, s3, s4⟩
            go_simp
            with_reducible rfl
          rotate_left
          · simp only [Act.put, List.setIfInBounds_toArray, List.set_cons_zero, List.set_cons_succ, i64_w, i32_w]
            rfl
          refine pure_ (i := 7) (N := (some 53)) (v := ?_) (a' := ?_) #[true, true, true, true, true, true, true, true, false, false, false, false, false, false, false, false, false, false, false, false, false, false, false, false, false, false, false, false] rfl rfl (by kernel_rfl) (fun _ _ _ h => h) (Or.inl ⟨by rfl, ?_⟩) ?_ ?_
          rotate_left
          · intro w'
            go_simp
            with_reducible rfl
          rotate_left
          · simp only [Act.put, List.setIfInBounds_toArray, List.set_cons_zero, List.set_cons_succ, i64_w, i32_w]
            rfl
          refine pure_ (i := 8) (N := (some 54)) (v := ?_) (a' := ?_) #[true, true, true, true, true, true, true, true, true, false, false, false, false, false, false, false, false, false, false, false, false, false, false, false, false, false, false, false] rfl rfl (by kernel_rfl) (fun _ _ _ h => h) (Or.inl ⟨by rfl, ?_⟩) ?_ ?_
          rotate_left
          · intro w'
            go_simp
            with_reducible rfl
          rotate_left
          · simp only [Act.put, List.setIfInBounds_toArray, List.set_cons_zero, List.set_cons_succ, i64_w, i32_w]
            rfl
          refine pure_ (i := 9) (N := (some 55)) (v := ?_) (a' := ?_) #[true, true, true, true, true, true, true, true, true, true, false, false, false, false, false, false, false, false, false, false, false, false, false, false, false, false, false, false] rfl rfl (by kernel_rfl) (fun _ _ _ h => h) (Or.inl ⟨by rfl, ?_⟩) ?_ ?_
          rotate_left
          · intro w'
            go_simp
            with_reducible rfl
          rotate_left
          · simp only [Act.put, List.setIfInBounds_toArray, List.set_cons_zero, List.set_cons_succ, i64_w, i32_w]
            rfl
          refine pure_ (i := 10) (N := (some 56)) (v := ?_) (a' := ?_) #[true, true, true, true, true, true, true, true, true, true, true, false, false, false, false, false, false, false, false, false, false, false, false, false, false, false, false, false] rfl rfl (by kernel_rfl) (fun _ _ _ h => h) (Or.inl ⟨by rfl, ?_⟩) ?_ ?_
          rotate_left
          · intro w'
            go_simp
            with_reducible rfl
          rotate_left
          · simp only [Act.put, List.setIfInBounds_toArray, List.set_cons_zero, List.set_cons_succ, i64_w, i32_w]
            rfl
          refine take_ (i := 11) (N := (some 57)) (v := ?_) (a' := ?_) #[true, true, true, true, true, true, true, true, true, true, true, true, false, false, false, false, false, false, false, false, false, false, false, false, false, false, false, false] rfl rfl (by kernel_rfl) (fun _ _ _ h => h) (Or.inl ⟨by rfl, ?_⟩) hHeld ?_ ?_
          rotate_left
          · rintro w' ⟨s0, s1, s2, s3, s4⟩
            go_simp
            with_reducible rfl
          rotate_left
          · simp only [Act.put, List.setIfInBounds_toArray, List.set_cons_zero, List.set_cons_succ, i64_w, i32_w]
            rfl
          refine pure_ (i := 12) (N := (some 58)) (v := ?_) (a' := ?_) #[true, true, true, true, true, true, true, true, true, true, true, true, true, false, false, false, false, false, false, false, false, false, false, false, false, false, false, false] rfl rfl (by kernel_rfl) (fun _ _ _ h => h) (Or.inl ⟨by rfl, ?_⟩) ?_ ?_
          rotate_left
          · intro w'
            go_simp
            with_reducible rfl
          rotate_left
          · simp only [Act.put, List.setIfInBounds_toArray, List.set_cons_zero, List.set_cons_succ, i64_w, i32_w]
            rfl
          refine pure_ (i := 13) (N := (some 59)) (v := ?_) (a' := ?_) #[true, true, true, true, true, true, true, true, true, true, true, true, true, true, false, false, false, false, false, false, false, false, false, false, false, false, false, false] rfl rfl (by kernel_rfl) (fun _ _ _ h => h) (Or.inl ⟨by rfl, ?_⟩) ?_ ?_
          rotate_left
          · intro w'
            go_simp
            with_reducible rfl
          rotate_left
          · simp only [Act.put, List.setIfInBounds_toArray, List.set_cons_zero, List.set_cons_succ, i64_w, i32_w]
            rfl
          refine pure_ (i := 14) (N := (some 60)) (v := ?_) (a' := ?_) #[true, true, true, true, true, true, true, true, true, true, true, true, true, true, true, false, false, false, false, false, false, false, false, false, false, false, false, false] rfl rfl (by kernel_rfl) (fun _ _ _ h => h) (Or.inl ⟨by rfl, ?_⟩) ?_ ?_
          rotate_left
          · intro w'
            go_simp
            with_reducible rfl
          rotate_left
          · simp only [Act.put, List.setIfInBounds_toArray, List.set_cons_zero, List.set_cons_succ, i64_w, i32_w]
            rfl
          refine pure_ (i := 15) (N := (some 61)) (v := ?_) (a' := ?_) #[true, true, true, true, true, true, true, true, true, true, true, true, true, true, true, true, false, false, false, false, false, false, false, false, false, false, false, false] rfl rfl (by kernel_rfl) (fun _ _ _ h => h) (Or.inl ⟨by rfl, ?_⟩) ?_ ?_
          rotate_left
          · intro w'
            go_simp
            with_reducible rfl
          rotate_left
          · simp only [Act.put, List.setIfInBounds_toArray, List.set_cons_zero, List.set_cons_succ, i64_w, i32_w]
            rfl
          refine take_ (i := 16) (N := (some 62)) (v := ?_) (a' := ?_) #[true, true, true, true, true, true, true, true, true, true, true, true, true, true, true, true, true, false, false, false, false, false, false, false, false, false, false, false] rfl rfl (by kernel_rfl) (fun _ _ _ h => h) (Or.inl ⟨by rfl, ?_⟩) hHeld ?_ ?_
          rotate_left
          · rintro w' ⟨s0, s1, s2, s3, s4⟩
            go_simp
            with_reducible rfl
          rotate_left
          · simp only [Act.put, List.setIfInBounds_toArray, List.set_cons_zero, List.set_cons_succ, i64_w, i32_w]
            rfl
          refine pure_ (i := 17) (N := (some 63)) (v := ?_) (a' := ?_) #[true, true, true, true, true, true, true, true, true, true, true, true, true, true, true, true, true, true, false, false, false, false, false, false, false, false, false, false] rfl rfl (by kernel_rfl) (fun _ _ _ h => h) (Or.inl ⟨by rfl, ?_⟩) ?_ ?_
          rotate_left
          · intro w'
            go_simp
            with_reducible rfl
          rotate_left
          · simp only [Act.put, List.setIfInBounds_toArray, List.set_cons_zero, List.set_cons_succ, i64_w, i32_w]
            rfl
          refine pure_ (i := 18) (N := (some 64)) (v := ?_) (a' := ?_) #[true, true, true, true, true, true, true, true, true, true, true, true, true, true, true, true, true, true, true, false, false, false, false, false, false, false, false, false] rfl rfl (by kernel_rfl) (fun _ _ _ h => h) (Or.inl ⟨by rfl, ?_⟩) ?_ ?_
          rotate_left
          · intro w'
            go_simp
            with_reducible rfl
          rotate_left
          · simp only [Act.put, List.setIfInBounds_toArray, List.set_cons_zero, List.set_cons_succ, i64_w, i32_w]
            rfl
          refine pure_ (i := 19) (N := (some 65)) (v := ?_) (a' := ?_) #[true, true, true, true, true, true, true, true, true, true, true, true, true, true, true, true, true, true, true, true, false, false, false, false, false, false, false, false] rfl rfl (by kernel_rfl) (fun _ _ _ h => h) (Or.inl ⟨by rfl, ?_⟩) ?_ ?_
          rotate_left
          · intro w'
            go_simp
            with_reducible rfl
          rotate_left
          · simp only [Act.put, List.setIfInBounds_toArray, List.set_cons_zero, List.set_cons_succ, i64_w, i32_w]
            rfl
          refine pure_ (i := 20) (N := (some 66)) (v := ?_) (a' := ?_) #[true, true, true, true, true, true, true, true, true, true, true, true, true, true, true, true, true, true, true, true, true, false, false, false, false, false, false, false] rfl rfl (by kernel_rfl) (fun _ _ _ h => h) (Or.inl ⟨by rfl, ?_⟩) ?_ ?_
          rotate_left
          · intro w'
            go_simp
            with_reducible rfl
          rotate_left
          · simp only [Act.put, List.setIfInBounds_toArray, List.set_cons_zero, List.set_cons_succ, i64_w, i32_w]
            rfl
          refine take_ (i := 21) (N := (some 67)) (v := ?_) (a' := ?_) #[true, true, true, true, true, true, true, true, true, true, true, true, true, true, true, true, true, true, true, true, true, true, false, false, false, false, false, false] rfl rfl (by kernel_rfl) (fun _ _ _ h => h) (Or.inl ⟨by rfl, ?_⟩) hHeld ?_ ?_
          rotate_left
          · rintro w' ⟨s0, s1, s2, s3, s4⟩
            go_simp
            with_reducible rfl
          rotate_left
          · simp only [Act.put, List.setIfInBounds_toArray, List.set_cons_zero, List.set_cons_succ, i64_w, i32_w]
            rfl
          refine pure_ (i := 22) (N := (some 68)) (v := ?_) (a' := ?_) #[true, true, true, true, true, true, true, true, true, true, true, true, true, true, true, true, true, true, true, true, true, true, true, false, false, false, false, false] rfl rfl (by kernel_rfl) (fun _ _ _ h => h) (Or.inl ⟨by rfl, ?_⟩) ?_ ?_
          rotate_left
          · intro w'
            go_simp
            with_reducible rfl
          rotate_left
          · simp only [Act.put, List.setIfInBounds_toArray, List.set_cons_zero, List.set_cons_succ, i64_w, i32_w]
            rfl
          refine pure_ (i := 23) (N := (some 69)) (v := ?_) (a' := ?_) #[true, true, true, true, true, true, true, true, true, true, true, true, true, true, true, true, true, true, true, true, true, true, true, true, false, false, false, false] rfl rfl (by kernel_rfl) (fun _ _ _ h => h) (Or.inl ⟨by rfl, ?_⟩) ?_ ?_
          rotate_left
          · intro w'
            go_simp
            with_reducible rfl
          rotate_left
          · simp only [Act.put, List.setIfInBounds_toArray, List.set_cons_zero, List.set_cons_succ, i64_w, i32_w]
            rfl
          refine pure_ (i := 24) (N := (some 70)) (v := ?_) (a' := ?_) #[true, true, true, true, true, true, true, true, true, true, true, true, true, true, true, true, true, true, true, true, true, true, true, true, true, false, false, false] rfl rfl (by kernel_rfl) (fun _ _ _ h => h) (Or.inl ⟨by rfl, ?_⟩) ?_ ?_
          rotate_left
          · intro w'
            go_simp
            with_reducible rfl
          rotate_left
          · simp only [Act.put, List.setIfInBounds_toArray, List.set_cons_zero, List.set_cons_succ, i64_w, i32_w]
            rfl
          refine pure_ (i := 25) (N := (some 71)) (v := ?_) (a' := ?_) #[true, true, true, true, true, true, true, true, true, true, true, true, true, true, true, true, true, true, true, true, true, true, true, true, true, true, false, false] rfl rfl (by kernel_rfl) (fun _ _ _ h => h) (Or.inl ⟨by rfl, ?_⟩) ?_ ?_
          rotate_left
          · intro w'
            go_simp
            with_reducible rfl
          rotate_left
          · simp only [Act.put, List.setIfInBounds_toArray, List.set_cons_zero, List.set_cons_succ, i64_w, i32_w]
            rfl
          refine one_ (i := 26) (N := (some 9)) #[true, true, true, true, true, true, true, true, true, true, true, true, true, true, true, true, true, true, true, true, true, true, true, true, true, true, true, false] rfl rfl (by kernel_rfl) (by decide) (fun K hK => ?_)
          refine value_ (w1 := ?_) (v := ?_) (by rfl) rfl ?_ ?_
          rotate_left 2
          · go_simp
            constructor
            · rfl
            · rfl
          refine hK.out _ _ (⟨cell_alloc hHeld.1 _, cell_alloc hHeld.2.1 _, cell_alloc hHeld.2.2.1 _, cell_alloc hHeld.2.2.2.1 _, cell_alloc hHeld.2.2.2.2 _⟩) (fun hHeld => ?_)
          clear hK K
          refine norm_ (a' := ?_) ?_ ?_
          rotate_left
          · show Act.put _ (some 9) _ = _
            simp only [Act.put, List.setIfInBounds_toArray, List.set_cons_zero, List.set_cons_succ, i64_w, i32_w]
            rfl
          refine last_ (i := 27) (N := none) #[true, true, true, true, true, true, true, true, true, true, true, true, true, true, true, true, true, true, true, true, true, true, true, true, true, true, true, true] rfl rfl (by kernel_rfl) (by decide) (fun K hK => ?_)
          refine skip_ (w1 := ?_) (by rfl) rfl ?_ ?_
          rotate_left
          · go_simp
            with_reducible rfl
          refine hK.out _ _ ?_
          clear hK K
          refine done_ (by kernel_rfl) ?_
          
          clear hHeld
          rw [show Go.RowKit.wrap64 4 = 4 from w64 (by omega) (by omega)]
          have hO := blk_drew (blk_new w2 (.cells #[.int .i64 4, .int .i64 an, .int .i64 hold, .int .u32 0, .slice A2 l.length c2] 45))
          have hb := below_drew (below_alloc (Below.refl w2.heap.size w2) (.cells #[.int .i64 4, .int .i64 an, .int .i64 hold, .int .u32 0, .slice A2 l.length c2] 45))
          generalize (w2.alloc (.cells #[.int .i64 4, .int .i64 an, .int .i64 hold, .int .u32 0, .slice A2 l.length c2] 45)).drew = w4 at *
          clear x0 x1 x2 x3 x4 z0 z1 z2 z3 z4
          clear m0 m1 m2 m3 m4 u1 u2 u3 u4 u5 u6 u7 u8
          go_wp2_with fail
          go_loopw [10] (fun i w' => ∃ (k : Nat) (v : Int), i = .int .i64 k ∧ Aside0 ((k = 5 ∧ v = 0) ∨ (k = 6 ∧ v = i1) ∨ (k = 7 ∧ v = i1 * 256 + i2) ∨ (k = 8 ∧ v = (i1 * 256 + i2) * 256 + i3) ∨ (k = 9 ∧ v = ((i1 * 256 + i2) * 256 + i3) * 256 + i4)) ∧ w'.heap[w2.heap.size]? = some (.cells #[.int .i64 4, .int .i64 an, .int .i64 hold, .int .u32 v, .slice A2 l.length c2] 45 (0, 0)) ∧ Below w2.heap.size w2 w') (fun i _ => 9 - (intOf i).toNat)
          case atStart => exact ⟨5, 0, rfl, ⟨.inl ⟨rfl, rfl⟩⟩, hO, hb⟩
          case round =>
            clear hO hb
            obtain ⟨k, v, rfl, hk, hO, hb⟩ := hrel
            have hCw := Kd.C_below hC hb
            obtain ⟨bb1, bb2, bh1, bh2, bi1, bi2, bi3, bi4⟩ := BB.out
            rcases hk.out with ⟨rfl, hv⟩ | ⟨rfl, hv⟩ | ⟨rfl, hv⟩ | ⟨rfl, hv⟩ | ⟨rfl, hv⟩
            · have q3 := blk_cell hO 3
              simp at q3
              have qb := R5.out _ hCw
              simp [Addr.add] at qb
              obtain ⟨pv, hpv⟩ : ∃ p, p = 256 * v := ⟨_, rfl⟩
              obtain ⟨v', hv'⟩ : ∃ p, p = i1 := ⟨_, rfl⟩
              have t1 : 256 * v % 4294967296 = pv := by omega
              have t2 : i1 % 4294967296 = i1 := by omega
              have t3 : (pv + i1) % 4294967296 = v' := by omega
              have lk := eq_true (show (5 : Int) < xs.length by have := hxl'.out; omega)
              have hv'' := Aside0.mk hv'
              clear hv hpv hv' bb1 bb2 bh1 bh2 bi1 bi2 bi3 bi4
              go_upto_region 14 with fail
              refine start_ (n := 11) (S := fun w' => w'.cell? ⟨w2.heap.size, 3, none⟩ = some (.int .u32 v) ∧ w'.cell? ⟨ad.block, ad.off + 5, none⟩ = some (.int .u8 i1)) (ds := [10]) #[false, false, false, false, false, false, false, false, false, false, false] (by kernel_rfl) rfl rfl (⟨q3, qb⟩) (fun hHeld => ?_)
              refine pure_ (i := 0) (N := (some 76)) (v := ?_) (a' := ?_) #[true, false, false, false, false, false, false, false, false, false, false] rfl rfl (by kernel_rfl) (fun _ _ _ h => h) (Or.inl ⟨by rfl, ?_⟩) ?_ ?_
              rotate_left
              · intro w'
                go_simp
                with_reducible rfl
              rotate_left
              · simp only [Act.put, List.setIfInBounds_toArray, List.set_cons_zero, List.set_cons_succ, i64_w, i32_w]
                rfl
              refine take_ (i := 1) (N := (some 77)) (v := ?_) (a' := ?_) #[true, true, false, false, false, false, false, false, false, false, false] rfl rfl (by kernel_rfl) (fun _ _ _ h => h) (Or.inl ⟨by rfl, ?_⟩) hHeld ?_ ?_
              rotate_left
              · rintro w' ⟨s0, s1⟩
                go_simp
                with_reducible rfl
              rotate_left
              · simp only [Act.put, List.setIfInBounds_toArray, List.set_cons_zero, List.set_cons_succ, i64_w, i32_w]
                rfl
              refine pure_ (i := 2) (N := (some 78)) (v := ?_) (a' := ?_) #[true, true, true, false, false, false, false, false, false, false, false] rfl rfl (by kernel_rfl) (fun _ _ _ h => h) (Or.inl ⟨by rfl, ?_⟩) ?_ ?_
              rotate_left
              · intro w'
                go_simp
                with_reducible rfl
              rotate_left
              · simp only [Act.put, List.setIfInBounds_toArray, List.set_cons_zero, List.set_cons_succ, i64_w, i32_w]
                rfl
              refine pure_ (i := 3) (N := (some 79)) (v := ?_) (a' := ?_) #[true, true, true, true, false, false, false, false, false, false, false] rfl rfl (by kernel_rfl) (fun _ _ _ h => h) (Or.inl ⟨by rfl, ?_⟩) ?_ ?_
              rotate_left
              · intro w'
                go_simp
                with_reducible rfl
              rotate_left
              · simp only [Act.put, List.setIfInBounds_toArray, List.set_cons_zero, List.set_cons_succ, i64_w, i32_w]
                rfl
              refine pure_ (i := 4) (N := (some 80)) (v := ?_) (a' := ?_) #[true, true, true, true, true, false, false, false, false, false, false] rfl rfl (by kernel_rfl) (fun _ _ _ h => h) (Or.inl ⟨by rfl, ?_⟩) ?_ ?_
              rotate_left
              · intro w'
                go_simp
                with_reducible rfl
              rotate_left
              · simp only [Act.put, List.setIfInBounds_toArray, List.set_cons_zero, List.set_cons_succ, i64_w, i32_w]
                rfl
              refine pure_ (i := 5) (N := (some 81)) (v := ?_) (a' := ?_) #[true, true, true, true, true, true, false, false, false, false, false] rfl rfl (by kernel_rfl) (fun _ _ _ h => h) (Or.inl ⟨by rfl, ?_⟩) ?_ ?_
              rotate_left
              · intro w'
                go_simp
                with_reducible rfl
              rotate_left
              · simp only [Act.put, List.setIfInBounds_toArray, List.set_cons_zero, List.set_cons_succ, i64_w, i32_w]
                rfl
              refine take_ (i := 6) (N := (some 82)) (v := ?_) (a' := ?_) #[true, true, true, true, true, true, true, false, false, false, false] rfl rfl (by kernel_rfl) (fun _ _ _ h => h) (Or.inl ⟨by rfl, ?_⟩) hHeld ?_ ?_
              rotate_left
              · rintro w' ⟨s0, s1⟩
                go_simp
                with_reducible rfl
              rotate_left
              · simp only [Act.put, List.setIfInBounds_toArray, List.set_cons_zero, List.set_cons_succ, i64_w, i32_w]
                rfl
              refine pure_ (i := 7) (N := (some 83)) (v := ?_) (a' := ?_) #[true, true, true, true, true, true, true, true, false, false, false] rfl rfl (by kernel_rfl) (fun _ _ _ h => h) (Or.inl ⟨by rfl, ?_⟩) ?_ ?_
              rotate_left
              · intro w'
                go_simp
                with_reducible rfl
              rotate_left
              · simp only [Act.put, List.setIfInBounds_toArray, List.set_cons_zero, List.set_cons_succ, i64_w, i32_w]
                rfl
              refine pure_ (i := 8) (N := (some 84)) (v := ?_) (a' := ?_) #[true, true, true, true, true, true, true, true, true, false, false] rfl rfl (by kernel_rfl) (fun _ _ _ h => h) (Or.inl ⟨by rfl, ?_⟩) ?_ ?_
              rotate_left
              · intro w'
                go_simp
                with_reducible rfl
              rotate_left
              · simp only [Act.put, List.setIfInBounds_toArray, List.set_cons_zero, List.set_cons_succ, i64_w, i32_w]
                rfl
              refine pure_ (i := 9) (N := (some 85)) (v := ?_) (a' := ?_) #[true, true, true, true, true, true, true, true, true, true, false] rfl rfl (by kernel_rfl) (fun _ _ _ h => h) (Or.inl ⟨by rfl, ?_⟩) ?_ ?_
              rotate_left
              · intro w'
                go_simp
                with_reducible rfl
              rotate_left
              · simp only [Act.put, List.setIfInBounds_toArray, List.set_cons_zero, List.set_cons_succ, i64_w, i32_w]
                rfl
              have hO1 := blk_drew hO
              have o3 := blk_cell hO1 3
              simp at o3
              have zf := blk_frozen hO1 3
              refine last_ (i := 10) (N := none) #[true, true, true, true, true, true, true, true, true, true, true] rfl rfl (by kernel_rfl) (by decide) (fun K hK => ?_)
              refine skip_ (w1 := ?_) (by rfl) rfl ?_ ?_
              rotate_left
              · go_simp
                with_reducible rfl
              refine hK.out _ _ ?_
              clear hK K
              refine done_ (by kernel_rfl) ?_
              go_wp2
              refine ⟨⟨6, v', rfl, ⟨.inr (.inl ⟨rfl, hv''.out⟩)⟩, ?_, ?_⟩, by simp [intOf]⟩
              · first | rw [t1, t3] | rw [t3] | skip
                exact blk_drew (blk_put hO 3 (.int .u32 v') rfl)
              · exact below_drew (hb.setCell (p := ⟨w2.heap.size, 3, none⟩) (Nat.le_refl _) _)
            · have q3 := blk_cell hO 3
              simp at q3
              have qb := R6.out _ hCw
              simp [Addr.add] at qb
              obtain ⟨pv, hpv⟩ : ∃ p, p = 256 * v := ⟨_, rfl⟩
              obtain ⟨v', hv'⟩ : ∃ p, p = i1 * 256 + i2 := ⟨_, rfl⟩
              have t1 : 256 * v % 4294967296 = pv := by omega
              have t2 : i2 % 4294967296 = i2 := by omega
              have t3 : (pv + i2) % 4294967296 = v' := by omega
              have lk := eq_true (show (6 : Int) < xs.length by have := hxl'.out; omega)
              have hv'' := Aside0.mk hv'
              clear hv hpv hv' bb1 bb2 bh1 bh2 bi1 bi2 bi3 bi4
              go_upto_region 14 with fail
              refine start_ (n := 11) (S := fun w' => w'.cell? ⟨w2.heap.size, 3, none⟩ = some (.int .u32 v) ∧ w'.cell? ⟨ad.block, ad.off + 6, none⟩ = some (.int .u8 i2)) (ds := [10]) #[false, false, false, false, false, false, false, false, false, false, false] (by kernel_rfl) rfl rfl (⟨q3, qb⟩) (fun hHeld => ?_)
              refine pure_ (i := 0) (N := (some 76)) (v := ?_) (a' := ?_) #[true, false, false, false, false, false, false, false, false, false, false] rfl rfl (by kernel_rfl) (fun _ _ _ h => h) (Or.inl ⟨by rfl, ?_⟩) ?_ ?_
              rotate_left
              · intro w'
                go_simp
                with_reducible rfl
              rotate_left
              · simp only [Act.put, List.setIfInBounds_toArray, List.set_cons_zero, List.set_cons_succ, i64_w, i32_w]
                rfl
              refine take_ (i := 1) (N := (some 77)) (v := ?_) (a' := ?_) #[true, true, false, false, false, false, false, false, false, false, false] rfl rfl (by kernel_rfl) (fun _ _ _ h => h) (Or.inl ⟨by rfl, ?_⟩) hHeld ?_ ?_
              rotate_left
              · rintro w' ⟨s0, s1⟩
                go_simp
                with_reducible rfl
              rotate_left
              · simp only [Act.put, List.setIfInBounds_toArray, List.set_cons_zero, List.set_cons_succ, i64_w, i32_w]
                rfl
              refine pure_ (i := 2) (N := (some 78)) (v := ?_) (a' := ?_) #[true, true, true, false, false, false, false, false, false, false, false] rfl rfl (by kernel_rfl) (fun _ _ _ h => h) (Or.inl ⟨by rfl, ?_⟩) ?_ ?_
              rotate_left
              · intro w'
                go_simp
                with_reducible rfl
              rotate_left
              · simp only [Act.put, List.setIfInBounds_toArray, List.set_cons_zero, List.set_cons_succ, i64_w, i32_w]
                rfl
              refine pure_ (i := 3) (N := (some 79)) (v := ?_) (a' := ?_) #[true, true, true, true, false, false, false, false, false, false, false] rfl rfl (by kernel_rfl) (fun _ _ _ h => h) (Or.inl ⟨by rfl, ?_⟩) ?_ ?_
              rotate_left
              · intro w'
                go_simp
                with_reducible rfl
              rotate_left
              · simp only [Act.put, List.setIfInBounds_toArray, List.set_cons_zero, List.set_cons_succ, i64_w, i32_w]
                rfl
              refine pure_ (i := 4) (N := (some 80)) (v := ?_) (a' := ?_) #[true, true, true, true, true, false, false, false, false, false, false] rfl rfl (by kernel_rfl) (fun _ _ _ h => h) (Or.inl ⟨by rfl, ?_⟩) ?_ ?_
              rotate_left
              · intro w'
                go_simp
                with_reducible rfl
              rotate_left
              · simp only [Act.put, List.setIfInBounds_toArray, List.set_cons_zero, List.set_cons_succ, i64_w, i32_w]
                rfl
              refine pure_ (i := 5) (N := (some 81)) (v := ?_) (a' := ?_) #[true, true, true, true, true, true, false, false, false, false, false] rfl rfl (by kernel_rfl) (fun _ _ _ h => h) (Or.inl ⟨by rfl, ?_⟩) ?_ ?_
              rotate_left
              · intro w'
                go_simp
                with_reducible rfl
              rotate_left
              · simp only [Act.put, List.setIfInBounds_toArray, List.set_cons_zero, List.set_cons_succ, i64_w, i32_w]
                rfl
              refine take_ (i := 6) (N := (some 82)) (v := ?_) (a' := ?_) #[true, true, true, true, true, true, true, false, false, false, false] rfl rfl (by kernel_rfl) (fun _ _ _ h => h) (Or.inl ⟨by rfl, ?_⟩) hHeld ?_ ?_
              rotate_left
              · rintro w' ⟨s0, s1⟩
                go_simp
                with_reducible rfl
              rotate_left
              · simp only [Act.put, List.setIfInBounds_toArray, List.set_cons_zero, List.set_cons_succ, i64_w, i32_w]
                rfl
              refine pure_ (i := 7) (N := (some 83)) (v := ?_) (a' := ?_) #[true, true, true, true, true, true, true, true, false, false, false] rfl rfl (by kernel_rfl) (fun _ _ _ h => h) (Or.inl ⟨by rfl, ?_⟩) ?_ ?_
              rotate_left
              · intro w'
                go_simp
                with_reducible rfl
              rotate_left
              · simp only [Act.put, List.setIfInBounds_toArray, List.set_cons_zero, List.set_cons_succ, i64_w, i32_w]
                rfl
              refine pure_ (i := 8) (N := (some 84)) (v := ?_) (a' := ?_) #[true, true, true, true, true, true, true, true, true, false, false] rfl rfl (by kernel_rfl) (fun _ _ _ h => h) (Or.inl ⟨by rfl, ?_⟩) ?_ ?_
              rotate_left
              · intro w'
                go_simp
                with_reducible rfl
              rotate_left
              · simp only [Act.put, List.setIfInBounds_toArray, List.set_cons_zero, List.set_cons_succ, i64_w, i32_w]
                rfl
              refine pure_ (i := 9) (N := (some 85)) (v := ?_) (a' := ?_) #[true, true, true, true, true, true, true, true, true, true, false] rfl rfl (by kernel_rfl) (fun _ _ _ h => h) (Or.inl ⟨by rfl, ?_⟩) ?_ ?_
              rotate_left
              · intro w'
                go_simp
                with_reducible rfl
              rotate_left
              · simp only [Act.put, List.setIfInBounds_toArray, List.set_cons_zero, List.set_cons_succ, i64_w, i32_w]
                rfl
              have hO1 := blk_drew hO
              have o3 := blk_cell hO1 3
              simp at o3
              have zf := blk_frozen hO1 3
              refine last_ (i := 10) (N := none) #[true, true, true, true, true, true, true, true, true, true, true] rfl rfl (by kernel_rfl) (by decide) (fun K hK => ?_)
              refine skip_ (w1 := ?_) (by rfl) rfl ?_ ?_
              rotate_left
              · go_simp
                with_reducible rfl
              refine hK.out _ _ ?_
              clear hK K
              refine done_ (by kernel_rfl) ?_
              go_wp2
              refine ⟨⟨7, v', rfl, ⟨.inr (.inr (.inl ⟨rfl, hv''.out⟩))⟩, ?_, ?_⟩, by simp [intOf]⟩
              · first | rw [t1, t3] | rw [t3] | skip
                exact blk_drew (blk_put hO 3 (.int .u32 v') rfl)
              · exact below_drew (hb.setCell (p := ⟨w2.heap.size, 3, none⟩) (Nat.le_refl _) _)
            · have q3 := blk_cell hO 3
              simp at q3
              have qb := R7.out _ hCw
              simp [Addr.add] at qb
              obtain ⟨pv, hpv⟩ : ∃ p, p = 256 * v := ⟨_, rfl⟩
              obtain ⟨v', hv'⟩ : ∃ p, p = (i1 * 256 + i2) * 256 + i3 := ⟨_, rfl⟩
              have t1 : 256 * v % 4294967296 = pv := by omega
              have t2 : i3 % 4294967296 = i3 := by omega
              have t3 : (pv + i3) % 4294967296 = v' := by omega
              have lk := eq_true (show (7 : Int) < xs.length by have := hxl'.out; omega)
              have hv'' := Aside0.mk hv'
              clear hv hpv hv' bb1 bb2 bh1 bh2 bi1 bi2 bi3 bi4
              go_upto_region 14 with fail
              refine start_ (n := 11) (S := fun w' => w'.cell? ⟨w2.heap.size, 3, none⟩ = some (.int .u32 v) ∧ w'.cell? ⟨ad.block, ad.off + 7, none⟩ = some (.int .u8 i3)) (ds := [10]) #[false, false, false, false, false, false, false, false, false, false, false] (by kernel_rfl) rfl rfl (⟨q3, qb⟩) (fun hHeld => ?_)
              refine pure_ (i := 0) (N := (some 76)) (v := ?_) (a' := ?_) #[true, false, false, false, false, false, false, false, false, false, false] rfl rfl (by kernel_rfl) (fun _ _ _ h => h) (Or.inl ⟨by rfl, ?_⟩) ?_ ?_
              rotate_left
              · intro w'
                go_simp
                with_reducible rfl
              rotate_left
              · simp only [Act.put, List.setIfInBounds_toArray, List.set_cons_zero, List.set_cons_succ, i64_w, i32_w]
                rfl
              refine take_ (i := 1) (N := (some 77)) (v := ?_) (a' := ?_) #[true, true, false, false, false, false, false, false, false, false, false] rfl rfl (by kernel_rfl) (fun _ _ _ h => h) (Or.inl ⟨by rfl, ?_⟩) hHeld ?_ ?_
              rotate_left
              · rintro w' ⟨s0, s1⟩
                go_simp
                with_reducible rfl
              rotate_left
              · simp only [Act.put, List.setIfInBounds_toArray, List.set_cons_zero, List.set_cons_succ, i64_w, i32_w]
                rfl
              refine pure_ (i := 2) (N := (some 78)) (v := ?_) (a' := ?_) #[true, true, true, false, false, false, false, false, false, false, false] rfl rfl (by kernel_rfl) (fun _ _ _ h => h) (Or.inl ⟨by rfl, ?_⟩) ?_ ?_
              rotate_left
              · intro w'
                go_simp
                with_reducible rfl
              rotate_left
              · simp only [Act.put, List.setIfInBounds_toArray, List.set_cons_zero, List.set_cons_succ, i64_w, i32_w]
                rfl
              refine pure_ (i := 3) (N := (some 79)) (v := ?_) (a' := ?_) #[true, true, true, true, false, false, false, false, false, false, false] rfl rfl (by kernel_rfl) (fun _ _ _ h => h) (Or.inl ⟨by rfl, ?_⟩) ?_ ?_
              rotate_left
              · intro w'
                go_simp
                with_reducible rfl
              rotate_left
              · simp only [Act.put, List.setIfInBounds_toArray, List.set_cons_zero, List.set_cons_succ, i64_w, i32_w]
                rfl
              refine pure_ (i := 4) (N := (some 80)) (v := ?_) (a' := ?_) #[true, true, true, true, true, false, false, false, false, false, false] rfl rfl (by kernel_rfl) (fun _ _ _ h => h) (Or.inl ⟨by rfl, ?_⟩) ?_ ?_
              rotate_left
              · intro w'
                go_simp
                with_reducible rfl
              rotate_left
              · simp only [Act.put, List.setIfInBounds_toArray, List.set_cons_zero, List.set_cons_succ, i64_w, i32_w]
                rfl
              refine pure_ (i := 5) (N := (some 81)) (v := ?_) (a' := ?_) #[true, true, true, true, true, true, false, false, false, false, false] rfl rfl (by kernel_rfl) (fun _ _ _ h => h) (Or.inl ⟨by rfl, ?_⟩) ?_ ?_
              rotate_left
              · intro w'
                go_simp
                with_reducible rfl
              rotate_left
              · simp only [Act.put, List.setIfInBounds_toArray, List.set_cons_zero, List.set_cons_succ, i64_w, i32_w]
                rfl
              refine take_ (i := 6) (N := (some 82)) (v := ?_) (a' := ?_) #[true, true, true, true, true, true, true, false, false, false, false] rfl rfl (by kernel_rfl) (fun _ _ _ h => h) (Or.inl ⟨by rfl, ?_⟩) hHeld ?_ ?_
              rotate_left
              · rintro w' ⟨s0, s1⟩
                go_simp
                with_reducible rfl
              rotate_left
              · simp only [Act.put, List.setIfInBounds_toArray, List.set_cons_zero, List.set_cons_succ, i64_w, i32_w]
                rfl
              refine pure_ (i := 7) (N := (some 83)) (v := ?_) (a' := ?_) #[true, true, true, true, true, true, true, true, false, false, false] rfl rfl (by kernel_rfl) (fun _ _ _ h => h) (Or.inl ⟨by rfl, ?_⟩) ?_ ?_
              rotate_left
              · intro w'
                go_simp
                with_reducible rfl
              rotate_left
              · simp only [Act.put, List.setIfInBounds_toArray, List.set_cons_zero, List.set_cons_succ, i64_w, i32_w]
                rfl
              refine pure_ (i := 8) (N := (some 84)) (v := ?_) (a' := ?_) #[true, true, true, true, true, true, true, true, true, false, false] rfl rfl (by kernel_rfl) (fun _ _ _ h => h) (Or.inl ⟨by rfl, ?_⟩) ?_ ?_
              rotate_left
              · intro w'
                go_simp
                with_reducible rfl
              rotate_left
              · simp only [Act.put, List.setIfInBounds_toArray, List.set_cons_zero, List.set_cons_succ, i64_w, i32_w]
                rfl
              refine pure_ (i := 9) (N := (some 85)) (v := ?_) (a' := ?_) #[true, true, true, true, true, true, true, true, true, true, false] rfl rfl (by kernel_rfl) (fun _ _ _ h => h) (Or.inl ⟨by rfl, ?_⟩) ?_ ?_
              rotate_left
              · intro w'
                go_simp
                with_reducible rfl
              rotate_left
              · simp only [Act.put, List.setIfInBounds_toArray, List.set_cons_zero, List.set_cons_succ, i64_w, i32_w]
                rfl
              have hO1 := blk_drew hO
              have o3 := blk_cell hO1 3
              simp at o3
              have zf := blk_frozen hO1 3
              refine last_ (i := 10) (N := none) #[true, true, true, true, true, true, true, true, true, true, true] rfl rfl (by kernel_rfl) (by decide) (fun K hK => ?_)
              refine skip_ (w1 := ?_) (by rfl) rfl ?_ ?_
              rotate_left
              · go_simp
                with_reducible rfl
              refine hK.out _ _ ?_
              clear hK K
              refine done_ (by kernel_rfl) ?_
              go_wp2
              refine ⟨⟨8, v', rfl, ⟨.inr (.inr (.inr (.inl ⟨rfl, hv''.out⟩)))⟩, ?_, ?_⟩, by simp [intOf]⟩
              · first | rw [t1, t3] | rw [t3] | skip
                exact blk_drew (blk_put hO 3 (.int .u32 v') rfl)
              · exact below_drew (hb.setCell (p := ⟨w2.heap.size, 3, none⟩) (Nat.le_refl _) _)
            · have q3 := blk_cell hO 3
              simp at q3
              have qb := R8.out _ hCw
              simp [Addr.add] at qb
              obtain ⟨pv, hpv⟩ : ∃ p, p = 256 * v := ⟨_, rfl⟩
              obtain ⟨v', hv'⟩ : ∃ p, p = ((i1 * 256 + i2) * 256 + i3) * 256 + i4 := ⟨_, rfl⟩
              have t1 : 256 * v % 4294967296 = pv := by omega
              have t2 : i4 % 4294967296 = i4 := by omega
              have t3 : (pv + i4) % 4294967296 = v' := by omega
              have lk := eq_true (show (8 : Int) < xs.length by have := hxl'.out; omega)
              have hv'' := Aside0.mk hv'
              clear hv hpv hv' bb1 bb2 bh1 bh2 bi1 bi2 bi3 bi4
              go_upto_region 14 with fail
              refine start_ (n := 11) (S := fun w' => w'.cell? ⟨w2.heap.size, 3, none⟩ = some (.int .u32 v) ∧ w'.cell? ⟨ad.block, ad.off + 8, none⟩ = some (.int .u8 i4)) (ds := [10]) #[false, false, false, false, false, false, false, false, false, false, false] (by kernel_rfl) rfl rfl (⟨q3, qb⟩) (fun hHeld => ?_)
              refine pure_ (i := 0) (N := (some 76)) (v := ?_) (a' := ?_) #[true, false, false, false, false, false, false, false, false, false, false] rfl rfl (by kernel_rfl) (fun _ _ _ h => h) (Or.inl ⟨by rfl, ?_⟩) ?_ ?_
              rotate_left
              · intro w'
                go_simp
                with_reducible rfl
              rotate_left
              · simp only [Act.put, List.setIfInBounds_toArray, List.set_cons_zero, List.set_cons_succ, i64_w, i32_w]
                rfl
              refine take_ (i := 1) (N := (some 77)) (v := ?_) (a' := ?_) #[true, true, false, false, false, false, false, false, false, false, false] rfl rfl (by kernel_rfl) (fun _ _ _ h => h) (Or.inl ⟨by rfl, ?_⟩) hHeld ?_ ?_
              rotate_left
              · rintro w' ⟨s0, s1⟩
                go_simp
                with_reducible rfl
              rotate_left
              · simp only [Act.put, List.setIfInBounds_toArray, List.set_cons_zero, List.set_cons_succ, i64_w, i32_w]
                rfl
              refine pure_ (i := 2) (N := (some 78)) (v := ?_) (a' := ?_) #[true, true, true, false, false, false, false, false, false, false, false] rfl rfl (by kernel_rfl) (fun _ _ _ h => h) (Or.inl ⟨by rfl, ?_⟩) ?_ ?_
              rotate_left
              · intro w'
                go_simp
                with_reducible rfl
              rotate_left
              · simp only [Act.put, List.setIfInBounds_toArray, List.set_cons_zero, List.set_cons_succ, i64_w, i32_w]
                rfl
              refine pure_ (i := 3) (N := (some 79)) (v := ?_) (a' := ?_) #[true, true, true, true, false, false, false, false, false, false, false] rfl rfl (by kernel_rfl) (fun _ _ _ h => h) (Or.inl ⟨by rfl, ?_⟩) ?_ ?_
              rotate_left
              · intro w'
                go_simp
                with_reducible rfl
              rotate_left
              · simp only [Act.put, List.setIfInBounds_toArray, List.set_cons_zero, List.set_cons_succ, i64_w, i32_w]
                rfl
              refine pure_ (i := 4) (N := (some 80)) (v := ?_) (a' := ?_) #[true, true, true, true, true, false, false, false, false, false, false] rfl rfl (by kernel_rfl) (fun _ _ _ h => h) (Or.inl ⟨by rfl, ?_⟩) ?_ ?_
              rotate_left
              · intro w'
                go_simp
                with_reducible rfl
              rotate_left
              · simp only [Act.put, List.setIfInBounds_toArray, List.set_cons_zero, List.set_cons_succ, i64_w, i32_w]
                rfl
              refine pure_ (i := 5) (N := (some 81)) (v := ?_) (a' := ?_) #[true, true, true, true, true, true, false, false, false, false, false] rfl rfl (by kernel_rfl) (fun _ _ _ h => h) (Or.inl ⟨by rfl, ?_⟩) ?_ ?_
              rotate_left
              · intro w'
                go_simp
                with_reducible rfl
              rotate_left
              · simp only [Act.put, List.setIfInBounds_toArray, List.set_cons_zero, List.set_cons_succ, i64_w, i32_w]
                rfl
              refine take_ (i := 6) (N := (some 82)) (v := ?_) (a' := ?_) #[true, true, true, true, true, true, true, false, false, false, false] rfl rfl (by kernel_rfl) (fun _ _ _ h => h) (Or.inl ⟨by rfl, ?_⟩) hHeld ?_ ?_
              rotate_left
              · rintro w' ⟨s0, s1⟩
                go_simp
                with_reducible rfl
              rotate_left
              · simp only [Act.put, List.setIfInBounds_toArray, List.set_cons_zero, List.set_cons_succ, i64_w, i32_w]
                rfl
              refine pure_ (i := 7) (N := (some 83)) (v := ?_) (a' := ?_) #[true, true, true, true, true, true, true, true, false, false, false] rfl rfl (by kernel_rfl) (fun _ _ _ h => h) (Or.inl ⟨by rfl, ?_⟩) ?_ ?_
              rotate_left
              · intro w'
                go_simp
                with_reducible rfl
              rotate_left
              · simp only [Act.put, List.setIfInBounds_toArray, List.set_cons_zero, List.set_cons_succ, i64_w, i32_w]
                rfl
              refine pure_ (i := 8) (N := (some 84)) (v := ?_) (a' := ?_) #[true, true, true, true, true, true, true, true, true, false, false] rfl rfl (by kernel_rfl) (fun _ _ _ h => h) (Or.inl ⟨by rfl, ?_⟩) ?_ ?_
              rotate_left
              · intro w'
                go_simp
                with_reducible rfl
              rotate_left
              · simp only [Act.put, List.setIfInBounds_toArray, List.set_cons_zero, List.set_cons_succ, i64_w, i32_w]
                rfl
              refine pure_ (i := 9) (N := (some 85)) (v := ?_) (a' := ?_) #[true, true, true, true, true, true, true, true, true, true, false] rfl rfl (by kernel_rfl) (fun _ _ _ h => h) (Or.inl ⟨by rfl, ?_⟩) ?_ ?_
              rotate_left
              · intro w'
                go_simp
                with_reducible rfl
              rotate_left
              · simp only [Act.put, List.setIfInBounds_toArray, List.set_cons_zero, List.set_cons_succ, i64_w, i32_w]
                rfl
              have hO1 := blk_drew hO
              have o3 := blk_cell hO1 3
              simp at o3
              have zf := blk_frozen hO1 3
              refine last_ (i := 10) (N := none) #[true, true, true, true, true, true, true, true, true, true, true] rfl rfl (by kernel_rfl) (by decide) (fun K hK => ?_)
              refine skip_ (w1 := ?_) (by rfl) rfl ?_ ?_
              rotate_left
              · go_simp
                with_reducible rfl
              refine hK.out _ _ ?_
              clear hK K
              refine done_ (by kernel_rfl) ?_
              go_wp2
              refine ⟨⟨9, v', rfl, ⟨.inr (.inr (.inr (.inr ⟨rfl, hv''.out⟩)))⟩, ?_, ?_⟩, by simp [intOf]⟩
              · first | rw [t1, t3] | rw [t3] | skip
                exact blk_drew (blk_put hO 3 (.int .u32 v') rfl)
              · exact below_drew (hb.setCell (p := ⟨w2.heap.size, 3, none⟩) (Nat.le_refl _) _)
            · rw [← hv, ← han'.out, ← hhold'.out]
              replace HB := HB.trans (hb.mono HB.size)
              have hlt := blk_lt hM
              replace hM := blk_below hM hb
              replace hv2 := Kd.N_below hv2 hb
              have y0 := blk_cell hO 0
              have y1 := blk_cell hO 1
              have y2 := blk_cell hO 2
              have y3 := blk_cell hO 3
              have y4 := blk_cell hO 4
              simp at y0 y1 y2 y3 y4
              have x0 := blk_cell hM 0
              have x1 := blk_cell hM 1
              have x2 := blk_cell hM 2
              have x3 := blk_cell hM 3
              have x4 := blk_cell hM 4
              simp at x0 x1 x2 x3 x4
              have z0 := blk_frozen hM 0
              have z1 := blk_frozen hM 1
              have z2 := blk_frozen hM 2
              have z3 := blk_frozen hM 3
              have z4 := blk_frozen hM 4
              go_wp2
              rw [← hv] at *
              obtain ⟨id, hid⟩ : ∃ id, v = id := ⟨_, rfl⟩
              rw [hid]
              have okne : ∀ k, (k < w.heap.size ∨ w1.heap.size ≤ k) → k ≠ w.heap.size := fun k hk => by omega
              replace hv2 := Kd.N_far (Kd.N_far (Kd.N_far (Kd.N_far (Kd.N_far hv2 (p := ⟨w.heap.size, 0, none⟩) okne (.int .i64 4)) (p := ⟨w.heap.size, 1, none⟩) okne (.int .i64 an)) (p := ⟨w.heap.size, 2, none⟩) okne (.int .i64 hold)) (p := ⟨w.heap.size, 3, none⟩) okne (.int .u32 id)) (p := ⟨w.heap.size, 4, none⟩) okne (.slice A2 l.length c2)
              obtain ⟨m1, m3⟩ := put45 (.int .i64 4) (.int .i64 an) (.int .i64 hold) (.int .u32 id) (.slice A2 l.length c2) hM HB (Nat.le_refl _)
              clear x0 x1 x2 x3 x4 z0 z1 z2 z3 z4 hM HB
              generalize ((((wr.setCell ⟨w.heap.size, 0, none⟩ (.int .i64 4)).setCell ⟨w.heap.size, 1, none⟩ (.int .i64 an)).setCell ⟨w.heap.size, 2, none⟩ (.int .i64 hold)).setCell ⟨w.heap.size, 3, none⟩ (.int .u32 id)).setCell ⟨w.heap.size, 4, none⟩ (.slice A2 l.length c2) = wz at *
              have x0 := blk_cell m1 0
              have x1 := blk_cell m1 1
              have x2 := blk_cell m1 2
              have x3 := blk_cell m1 3
              have x4 := blk_cell m1 4
              simp at x0 x1 x2 x3 x4
              obtain ⟨A11, c11, e11, hc1z, hC1z⟩ := Kd.N_reads hv2
              injection e11 with e1 e2 e3
              subst e1 e3
              have hC2z := Kd.C_nil (Kd.int .u8) wz
              have hc2z := Nat.le_refl 0
              rw [← han'.out, ← hhold'.out]
              exact bodyPost_ret (v := .tuple #[.agg #[.int .i64 4, .int .i64 an, .int .i64 hold, .int .u32 id, .slice A2 l.length c2], .int .i64 (0), .int .i64 (0), .slice none 0 0]) (by simp [results, Tryd.results22, go_sem, x0, x1, x2, x3, x4]) rfl ⟨_, _, _, _, by simp only [List.length_map]; rfl, hC1z, hc1z, hC2z, hc2z, m3⟩
        · have HR := Aside0.mk hcr
          clear hcr
          go_enter Tryd.func22, Tryd.ntmps22
          go_upto_region 1 with fail
          generalize (w.alloc (.cells #[.int .i64 0, .int .i64 0, .int .i64 0, .int .u32 0, .slice none 0 0] 45)) = w1 at *
          have hlt1 := blk_lt hM
          have hFd : Kd.F (Kd.int .u8) w1 (fun k => k < w.heap.size) A10 rest.length rest := fun W hW => (Kd.heap_int .u8).C (fun k hlt => (hW k hlt (Nat.lt_trans hlt hlt1)).trans (HB.block k hlt)) hCd
          go_wp2_with fail
          refine (PA.consulateref05_Read.calls (2 * rest.length + 2) (fun k => k < w.heap.size) A10 c10 rest ([]) 2 f1 w1 (Kd.V_mk hcd'.out hFd) HR.out).mono ?_
          rintro e w2 ⟨v2, rfl, hv2, hb2⟩
          replace HB := HB.trans (hb2.mono HB.size)
          replace hM := blk_below hM hb2
          replace hC := Kd.C_below hC hb2
          obtain ⟨A2, c2, rfl, hc2, _⟩ := Kd.N_reads hv2
          clear hb2 c0 c9 c0z hCd hFd
          have x0 := blk_cell hM 0
          have x1 := blk_cell hM 1
          have x2 := blk_cell hM 2
          have x3 := blk_cell hM 3
          have x4 := blk_cell hM 4
          simp at x0 x1 x2 x3 x4
          have z0 := blk_frozen hM 0
          have z1 := blk_frozen hM 1
          have z2 := blk_frozen hM 2
          have z3 := blk_frozen hM 3
          have z4 := blk_frozen hM 4
          have n7 : ((2 : Int) != 0) = true := rfl
          go_wp2_with fail
          obtain ⟨m1, m3⟩ := put45 (.int .i64 0) (.int .i64 0) (.int .i64 0) (.int .u32 0) (.slice none 0 0) hM HB (Nat.le_refl _)
          clear x0 x1 x2 x3 x4 z0 z1 z2 z3 z4 hM HB
          generalize ((((w2.setCell ⟨w.heap.size, 0, none⟩ (.int .i64 0)).setCell ⟨w.heap.size, 1, none⟩ (.int .i64 0)).setCell ⟨w.heap.size, 2, none⟩ (.int .i64 0)).setCell ⟨w.heap.size, 3, none⟩ (.int .u32 0)).setCell ⟨w.heap.size, 4, none⟩ (.slice none 0 0) = wz at *
          have x0 := blk_cell m1 0
          have x1 := blk_cell m1 1
          have x2 := blk_cell m1 2
          have x3 := blk_cell m1 3
          have x4 := blk_cell m1 4
          simp at x0 x1 x2 x3 x4
          have hC1z := Kd.C_nil PA.k99 wz
          have hC2z := Kd.C_nil (Kd.int .u8) wz
          have hc1z := Nat.le_refl 0
          have hc2z := Nat.le_refl 0
          exact bodyPost_ret (v := .tuple #[.agg #[.int .i64 0, .int .i64 0, .int .i64 0, .int .u32 0, .slice none 0 0], .int .i64 (2), .int .i64 (f1), .slice none 0 0]) (by simp [results, Tryd.results22, go_sem, x0, x1, x2, x3, x4]) rfl ⟨_, _, _, _, rfl, hC1z, hc1z, hC2z, hc2z, m3⟩
end Go.Proofs.YthafedmlbialiaaDoor
