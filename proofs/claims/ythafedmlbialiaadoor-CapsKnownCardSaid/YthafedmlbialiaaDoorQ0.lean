/-
  Rows of capabilities just made.
-/
import Derived.Test.YthafedmlbialiaaDoorD3
namespace Go.Proofs.YthafedmlbialiaaDoor
open Go.RowKit Go.Proofs.YthafedmlbialiaaDoorW.PrintWords Go.Proofs.YthafedmlbialiaaDoorW.PrintLast Go.Proofs.YthafedmlbialiaaDoorW.PrintMore
set_option linter.unusedVariables false
set_option linter.unusedSimpArgs false

theorem rowC {α : Type} {d : Kd α} {e B n c : Nat} {w : World} {ok : Nat → Prop} {A : Option Addr} {xs : List α} (h : d.R e w B ok (.slice A n c) xs) : d.C w A xs.length xs ∧ xs.length ≤ c ∧ n = xs.length := by
  obtain ⟨A', c', he, hl, hC⟩ := Kd.R_reads h
  injection he with h1 h2 h3
  subst h1 h3
  exact ⟨hC, hl, h2⟩
/-- A row of one capability, just made. -/
theorem lit_one (w : World) (cd : Int) (ys : List Int) (hl : ys.length ≤ 140737488351232) :
    PA.k61.C ((w.alloc (.cells (nums .u8 ys).toArray 5)).alloc (.cells #[.int .u8 cd, .slice (some ⟨w.heap.size, 0, none⟩) ys.length ys.length] 61)) (some ⟨w.heap.size + 1, 0, none⟩) 1 [⟨cd, ys⟩] := by
  have h4 := litR w 5 .u8 ys hl
  have hm := R_litW PA.k61 (W := w.alloc (.cells (nums .u8 ys).toArray 5)) (B := w.heap.size) (e := 61) (xs := [⟨cd, ys⟩]) (okp := fun _ => True) (Reps.c2 (PA.k61_mkM _ _ _ ⟨cd, ys⟩ h4) (Reps.none _ _)) (by simp) (by simp)
  rw [show (w.alloc (.cells (nums .u8 ys).toArray 5)).heap.size = w.heap.size + 1 by simp] at hm
  exact (rowC hm).1
/-- A row of two, the second without a value. -/
theorem lit_two (w : World) (cd ce : Int) (ys : List Int) (hl : ys.length ≤ 140737488351232) :
    PA.k61.C ((w.alloc (.cells (nums .u8 ys).toArray 5)).alloc (.cells #[.int .u8 cd, .slice (some ⟨w.heap.size, 0, none⟩) ys.length ys.length, .int .u8 ce, .slice none 0 0] 61)) (some ⟨w.heap.size + 1, 0, none⟩) 2 [⟨cd, ys⟩, ⟨ce, []⟩] := by
  have h4 := litR w 5 .u8 ys hl
  have hm := R_litW PA.k61 (W := w.alloc (.cells (nums .u8 ys).toArray 5)) (B := w.heap.size) (e := 61) (xs := [⟨cd, ys⟩, ⟨ce, []⟩]) (okp := fun _ => True) (Reps.c2 (PA.k61_mkM _ _ _ ⟨cd, ys⟩ h4) (Reps.c2 (PA.k61_mkM _ _ _ ⟨ce, []⟩ (Kd.R_nil _ _ _ _ _)) (Reps.none _ _))) (by simp) (by simp)
  rw [show (w.alloc (.cells (nums .u8 ys).toArray 5)).heap.size = w.heap.size + 1 by simp] at hm
  exact (rowC hm).1
theorem below_two (w : World) (o1 o2 : Obj) : Below w.heap.size w ((w.alloc o1).alloc o2) := below_alloc (below_alloc (Below.refl _ _) _) _

end Go.Proofs.YthafedmlbialiaaDoor
