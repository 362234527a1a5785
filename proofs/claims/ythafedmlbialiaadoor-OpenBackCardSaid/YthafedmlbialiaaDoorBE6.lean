/-
  The walk of the document's Get.
-/
import Derived.Test.YthafedmlbialiaaDoorBE0
import Derived.Test.YthafedmlbialiaaDoorBE2
import Derived.Test.YthafedmlbialiaaDoorBLike
import Derived.Test.YthafedmlbialiaaDoorBD5
namespace Go.Proofs.YthafedmlbialiaaDoor
open Go.RowKit Go.Proofs.YthafedmlbialiaaDoorW.PrintWords Go.Proofs.YthafedmlbialiaaDoorW.PrintLast Go.Proofs.YthafedmlbialiaaDoorW.PrintMore
set_option linter.unusedVariables false
set_option linter.unusedSimpArgs false

/-- The document's OPEN is stored over that of block g. -/
theorem put45 {w w0 : World} {B g t : Nat} {a0 a1 a2 a3 a4 : Value} (v0 v1 v2 v3 v4 : Value) (hM : w.heap[g]? = some (.cells #[a0, a1, a2, a3, a4] t (0, 0))) (HB : Below B w0 w) (hB : B ≤ g) :
    ((((((w.setCell ⟨g, 0, none⟩ v0).setCell ⟨g, 1, none⟩ v1).setCell ⟨g, 2, none⟩ v2).setCell ⟨g, 3, none⟩ v3).setCell ⟨g, 4, none⟩ v4)).heap[g]? = some (.cells #[v0, v1, v2, v3, v4] t (0, 0)) ∧ Below B w0 ((((((w.setCell ⟨g, 0, none⟩ v0).setCell ⟨g, 1, none⟩ v1).setCell ⟨g, 2, none⟩ v2).setCell ⟨g, 3, none⟩ v3).setCell ⟨g, 4, none⟩ v4)) :=
  ⟨blk_put (blk_put (blk_put (blk_put (blk_put hM 0 v0 rfl) 1 v1 rfl) 2 v2 rfl) 3 v3 rfl) 4 v4 rfl, ((((HB.setCell (p := ⟨g, 0, none⟩) hB v0).setCell (p := ⟨g, 1, none⟩) hB v1).setCell (p := ⟨g, 2, none⟩) hB v2).setCell (p := ⟨g, 3, none⟩) hB v3).setCell (p := ⟨g, 4, none⟩) hB v4⟩
theorem of6_l0 (l : List PA.S61) (hl : l.length < 4398046511104) (x0 x1 x2 x3 y0 y1 y2 y3 : Int) : ∀ (n a : Nat), l.length - a ≤ n → a ≤ l.length → ∀ k, l.length - a < k →
    PA.consulatelaw06_Of.l0 k a x0 x1 x2 x3 l y0 y1 y2 y3 ((l.take a).map cap99) = some (y0, y1, y2, y3, l.map cap99) := by
  intro n
  induction n with
  | zero =>
    intro a hn ha k hk
    obtain rfl : a = l.length := by omega
    obtain ⟨k, rfl⟩ : ∃ m, k = m + 1 := ⟨k - 1, by omega⟩
    simp only [PA.consulatelaw06_Of.l0]
    rw [if_neg (by omega), List.take_length]
  | succ n ih =>
    intro a hn ha k hk
    obtain ⟨k, rfl⟩ : ∃ m, k = m + 1 := ⟨k - 1, by omega⟩
    by_cases h : a = l.length
    · subst h
      simp only [PA.consulatelaw06_Of.l0]
      rw [if_neg (by omega), List.take_length]
    · simp only [PA.consulatelaw06_Of.l0]
      rw [if_pos (by omega), if_pos (by omega), if_pos (by rw [List.length_map, List.length_take]; omega), w64 (by omega) (by omega)]
      have := ih (a + 1) (by omega) (by omega) k (by omega)
      rw [List.take_succ_eq_append_getElem (by omega), List.map_append, List.map_cons, List.map_nil] at this
      have hx : PA.rd_T61 l (a : Int) = l[a] := by rw [PA.rd_T61, Int.toNat_natCast, List.getD_eq_getElem?_getD, List.getElem?_eq_getElem (by omega)]; rfl
      rw [hx]
      exact this
theorem of6 (l : List PA.S61) (hl : l.length < 4398046511104) (ver an hold id : Int) (h0 : 0 ≤ ver ∧ ver < 256) (h1 : 0 ≤ an ∧ an < 65536) (h2 : 0 ≤ hold ∧ hold < 65536) :
    PA.consulatelaw06_Of.f (l.length + 1) ver an hold id l = some (ver, an, hold, id, l.map cap99) := by
  unfold PA.consulatelaw06_Of.f
  rw [w64 (by omega) (by omega), w64 (by omega) (by omega), w64 (by omega) (by omega)]
  exact of6_l0 l hl ver an hold id ver an hold id l.length 0 (by omega) (by omega) _ (by omega)
theorem like6_l0 (l : List PA.S99) (hl : l.length < 4398046511104) (x0 x1 x2 x3 y0 y1 y2 y3 : Int) : ∀ (n a : Nat), l.length - a ≤ n → a ≤ l.length → ∀ k, l.length - a < k →
    PA.consulatelaw06_Like.l0 k a x0 x1 x2 x3 l y0 y1 y2 y3 l = some true := by
  intro n
  induction n with
  | zero =>
    intro a hn ha k hk
    obtain rfl : a = l.length := by omega
    obtain ⟨k, rfl⟩ : ∃ m, k = m + 1 := ⟨k - 1, by omega⟩
    simp only [PA.consulatelaw06_Like.l0]
    rw [if_neg (by omega)]
  | succ n ih =>
    intro a hn ha k hk
    obtain ⟨k, rfl⟩ : ∃ m, k = m + 1 := ⟨k - 1, by omega⟩
    by_cases h : a = l.length
    · subst h
      simp only [PA.consulatelaw06_Like.l0]
      rw [if_neg (by omega)]
    · simp only [PA.consulatelaw06_Like.l0]
      rw [if_pos (by omega), if_pos (by omega), if_pos (by omega), if_pos True.intro, if_pos True.intro, w64 (by omega) (by omega)]
      exact ih (a + 1) (by omega) (by omega) k (by omega)
theorem like6 (l : List PA.S99) (hl : l.length < 4398046511104) (x0 x1 x2 x3 : Int) : PA.consulatelaw06_Like.f (l.length + 2) x0 x1 x2 x3 l x0 x1 x2 x3 l = some true := by
  unfold PA.consulatelaw06_Like.f
  rw [if_pos rfl, if_pos rfl, if_pos rfl, if_pos rfl]
  simp only [PA.consulatelaw06_Like.j0]
  rw [if_neg (by simp)]
  exact like6_l0 l hl x0 x1 x2 x3 x0 x1 x2 x3 l.length 0 (by omega) (by omega) _ (by omega)

end Go.Proofs.YthafedmlbialiaaDoor
