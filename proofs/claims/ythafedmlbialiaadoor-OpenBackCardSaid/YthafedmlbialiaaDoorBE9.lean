/-
  Plain: the document's answers of layer 6 are the program's.
-/
import Derived.Test.YthafedmlbialiaaDoorBE6
import Derived.Test.YthafedmlbialiaaDoorBE8
import Derived.Test.YthafedmlbialiaaDoorBP3
import Derived.Test.YthafedmlbialiaaDoorBPChk
namespace Go.Proofs.YthafedmlbialiaaDoor
open Go.RowKit Go.Proofs.YthafedmlbialiaaDoorW.PrintWords Go.Proofs.YthafedmlbialiaaDoorW.PrintLast Go.Proofs.YthafedmlbialiaaDoorW.PrintMore
set_option linter.unusedVariables false
set_option linter.unusedSimpArgs false

/-! ### Few -/
def few6 (l : List PA.S61) : List PA.S61 := (l.take 12).map fun x => ⟨x.f0, x.f1.take 300⟩
theorem few6_len (l : List PA.S61) : (few6 l).length ≤ 12 := by simp [few6]; omega
theorem mn_take (xs : List Int) : (0 : Int) ≤ mn (xs.length : Int) 300 ∧ mn (xs.length : Int) 300 ≤ xs.length ∧ xs.take (mn (xs.length : Int) 300).toNat = xs.take 300 := by
  unfold mn
  split
  · exact ⟨by omega, by omega, rfl⟩
  · refine ⟨by omega, by omega, ?_⟩
    rw [Int.toNat_natCast, List.take_length, List.take_of_length_le (by omega)]
theorem few6_l0 (l : List PA.S61) (ver an hold id : Int) : ∀ (n a : Nat), 12 - a ≤ n → a ≤ 12 → a ≤ l.length → ∀ k, 12 - a < k →
    PA.consulatelaw06_Few.l0 k (few6 (l.take a)) a ver an hold id l = some (ver, an, hold, id, few6 l) := by
  have hend : few6 (l.take 12) = few6 l := by unfold few6; rw [List.take_take]; rfl
  intro n
  induction n with
  | zero =>
    intro a hn ha hl k hk
    obtain rfl : a = 12 := by omega
    obtain ⟨k, rfl⟩ : ∃ m, k = m + 1 := ⟨k - 1, by omega⟩
    simp only [PA.consulatelaw06_Few.l0]
    rw [hend]
    by_cases h : ((12 : Nat) : Int) < (l.length : Int)
    · rw [if_pos h, if_neg (by omega)]
    · rw [if_neg h]
  | succ n ih =>
    intro a hn ha hl k hk
    obtain ⟨k, rfl⟩ : ∃ m, k = m + 1 := ⟨k - 1, by omega⟩
    simp only [PA.consulatelaw06_Few.l0]
    by_cases h : a = l.length
    · rw [if_neg (by omega), h, List.take_length]
    · rw [if_pos (by omega)]
      by_cases h12 : a = 12
      · rw [if_neg (by omega), h12, hend]
      · have hx : PA.rd_T61 l (a : Int) = l[a]'(by omega) := by rw [PA.rd_T61, Int.toNat_natCast, List.getD_eq_getElem?_getD, List.getElem?_eq_getElem (by omega)]; rfl
        rw [hx]
        obtain ⟨m1, m2, m3⟩ := mn_take (l[a]'(by omega)).f1
        have hfl := few6_len (l.take a)
        rw [if_pos (by omega), if_pos (by omega), if_pos m1, if_pos m2, if_pos (by omega), m3, w64 (by omega) (by omega)]
        have := ih (a + 1) (by omega) (by omega) (by omega) k (by omega)
        have hs : few6 (l.take (a + 1)) = few6 (l.take a) ++ [⟨(l[a]'(by omega)).f0, (l[a]'(by omega)).f1.take 300⟩] := by
          unfold few6
          rw [List.take_take, List.take_take, show min 12 (a + 1) = a + 1 by omega, show min 12 a = a by omega, List.take_succ_eq_append_getElem (by omega), List.map_append]
          rfl
        rw [hs] at this
        exact this
theorem few6_of (l : List PA.S61) (ver an hold id : Int) : PA.consulatelaw06_Few.f 13 ver an hold id l = some (ver, an, hold, id, few6 l) := by
  have h := few6_l0 l ver an hold id 12 0 (by omega) (by omega) (by omega) 13 (by omega)
  rw [show few6 (l.take 0) = [] by simp [few6]] at h
  exact h

/-! ### Put, Number, Check -/
theorem caps_le (l : List PA.S61) : (capsBytes l).1.length ≤ 255 := by
  unfold capsBytes
  split
  · exact Nat.zero_le _
  · split
    · exact Nat.zero_le _
    · show (packs [] [] l).length ≤ 255
      omega
end Go.Proofs.YthafedmlbialiaaDoor
