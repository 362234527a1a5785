/-
  The walk of law05.few.
-/
import Derived.Test.YthafedmlbialiaaDoorBD0
import Derived.Test.YthafedmlbialiaaDoorBC1
namespace Go.Proofs.YthafedmlbialiaaDoor
open Go.RowKit Go.Proofs.YthafedmlbialiaaDoorW.PrintWords Go.Proofs.YthafedmlbialiaaDoorW.PrintLast Go.Proofs.YthafedmlbialiaaDoorW.PrintMore
set_option linter.unusedVariables false
set_option linter.unusedSimpArgs false

/-- 'b[:min(len(b), N)]'. -/
theorem cutN (N : Nat) (w : World) (A : Option Addr) (c : Nat) (xs : List Int) (hC : (Kd.int .u8).C w A xs.length xs) (hc : xs.length ≤ c) (m : Int) (hm : (xs.length ≤ N ∧ m = xs.length) ∨ (N < xs.length ∧ m = N)) :
    (∀ W : World, (Instr.slice 22 (.slice A xs.length c) none (some (.int .i64 m)) none).run Tryd.prog W = .ok (.slice A (xs.take N).length c) W) ∧ (Kd.int .u8).C w A (xs.take N).length (xs.take N) ∧ (xs.take N).length ≤ c ∧ (xs.take N).length ≤ N := by
  obtain ⟨i0, hi0, _, hsz, _⟩ := info_parts info5
  have hcut := cut_to (P := Tryd.prog) 22 5 .i64 Tryd.underlying22 hi0 A xs.length c m (by omega) (by omega) hc
  have e : m.toNat = (xs.take N).length := by rw [List.length_take]; omega
  rw [e] at hcut
  have e2 : xs.take (min N xs.length) = xs.take N := List.take_eq_take_min.symm
  refine ⟨hcut, ?_, by rw [List.length_take]; omega, by rw [List.length_take]; omega⟩
  have h3 := Kd.C_take hC (m := min N xs.length) (by omega)
  rw [e2] at h3
  exact h3

def few (l : List PA.S61) : List PA.S61 := (l.take 20).map fun x => ⟨x.f0, x.f1.take 260⟩
end Go.Proofs.YthafedmlbialiaaDoor
