/-
  Plain: a list of capabilities handed over is the same; the same is told of equal ones.
-/
import Derived.Test.YthafedmlbialiaaDoorP1
import Derived.Test.YthafedmlbialiaaDoorPAx2
namespace Go.Proofs.YthafedmlbialiaaDoor
open Go.RowKit Go.Proofs.YthafedmlbialiaaDoorW.PrintWords
set_option linter.unusedVariables false
set_option linter.unusedSimpArgs false

theorem of_l0 (l : List PA.S61) (hl : l.length < 4398046511104) : ∀ (n a : Nat), l.length - a ≤ n → a ≤ l.length → ∀ k, l.length - a < k →
    PA.consulatelaw05_of.l0 k ((l.take a).map cap99) l (l.length : Int) a = some (l.map cap99) := by
  intro n
  induction n with
  | zero =>
    intro a hn ha k hk
    obtain rfl : a = l.length := by omega
    obtain ⟨k, rfl⟩ : ∃ m, k = m + 1 := ⟨k - 1, by omega⟩
    simp only [PA.consulatelaw05_of.l0]
    rw [if_neg (by omega), List.take_length]
  | succ n ih =>
    intro a hn ha k hk
    obtain ⟨k, rfl⟩ : ∃ m, k = m + 1 := ⟨k - 1, by omega⟩
    by_cases h : a = l.length
    · subst h
      simp only [PA.consulatelaw05_of.l0]
      rw [if_neg (by omega), List.take_length]
    · simp only [PA.consulatelaw05_of.l0]
      rw [if_pos (by omega), if_pos (by omega), if_pos (by omega), if_pos (by rw [List.length_map, List.length_take]; omega), w64 (by omega) (by omega)]
      have := ih (a + 1) (by omega) (by omega) k (by omega)
      rw [List.take_succ_eq_append_getElem (by omega), List.map_append, List.map_cons, List.map_nil] at this
      have hx : PA.rd_T61 l (a : Int) = l[a] := by rw [PA.rd_T61, Int.toNat_natCast, List.getD_eq_getElem?_getD, List.getElem?_eq_getElem (by omega)]; rfl
      rw [hx]
      exact this
theorem of_of (l : List PA.S61) (hl : l.length < 4398046511104) : PA.consulatelaw05_of.f (l.length + 1) l = some (l.map cap99) :=
  of_l0 l hl l.length 0 (by omega) (by omega) _ (by omega)

theorem same_l0 (l : List PA.S99) (hl : l.length < 4398046511104) : ∀ (n a : Nat), l.length - a ≤ n → a ≤ l.length → ∀ k, l.length - a < k →
    PA.consulatelaw05_same.l0 k l l (l.length : Int) a = some true := by
  intro n
  induction n with
  | zero =>
    intro a hn ha k hk
    obtain rfl : a = l.length := by omega
    obtain ⟨k, rfl⟩ : ∃ m, k = m + 1 := ⟨k - 1, by omega⟩
    simp only [PA.consulatelaw05_same.l0]
    rw [if_neg (by omega)]
  | succ n ih =>
    intro a hn ha k hk
    obtain ⟨k, rfl⟩ : ∃ m, k = m + 1 := ⟨k - 1, by omega⟩
    by_cases h : a = l.length
    · subst h
      simp only [PA.consulatelaw05_same.l0]
      rw [if_neg (by omega)]
    · simp only [PA.consulatelaw05_same.l0, PA.bytes_Equal.f]
      rw [if_pos (by omega), if_pos (by omega), if_pos (by omega), if_pos (by omega), if_pos True.intro, w64 (by omega) (by omega)]
      simp only [Option.bind_some, beq_self_eq_true, if_true]
      exact ih (a + 1) (by omega) (by omega) k (by omega)
theorem same_of (l : List PA.S99) (hl : l.length < 4398046511104) : PA.consulatelaw05_same.f (l.length + 1) l l = some true := by
  unfold PA.consulatelaw05_same.f
  rw [if_pos rfl]
  exact same_l0 l hl l.length 0 (by omega) (by omega) _ (by omega)
theorem equal_of (l : List Int) : PA.bytes_Equal.f l l = some true := by simp [PA.bytes_Equal.f]

theorem capsOut_len : ∀ (f : Nat) (s : List Int) (l : List PA.S61), capsOut f s = .ok l → l.length ≤ s.length := by
  intro f
  induction f with
  | zero => intro s l h; cases h
  | succ f ih =>
    intro s l h
    rcases s with _ | ⟨t, s⟩
    · simp only [capsOut] at h
      injection h with h
      subst h
      simp
    rcases s with _ | ⟨m, d⟩
    · simp only [capsOut] at h
      cases h
    simp only [capsOut] at h
    split at h
    case isFalse => cases h
    split at h
    case isFalse => cases h
    split at h
    · cases h
    · rename_i l1 hc
      split at h
      · rename_i l2 h2
        injection h with h
        subst h
        have h3 := capsIn_len _ _ _ hc
        have h4 := ih _ _ h2
        rw [List.length_take] at h3
        rw [List.length_drop] at h4
        rw [List.length_append]
        simp only [List.length_cons]
        omega
      · cases h
theorem capsOut_err : ∀ (f : Nat) (s : List Int) (x : Int), capsOut f s = .error x → x = 0 ∨ x = 4 := by
  intro f
  induction f with
  | zero =>
    intro s x h
    injection h with h
    exact .inl h.symm
  | succ f ih =>
    intro s x h
    rcases s with _ | ⟨t, s⟩
    · simp only [capsOut] at h
      cases h
    rcases s with _ | ⟨m, d⟩
    · simp only [capsOut] at h
      injection h with h
      exact .inl h.symm
    simp only [capsOut] at h
    split at h
    case isFalse =>
      injection h with h
      exact .inl h.symm
    split at h
    case isFalse =>
      injection h with h
      exact .inr h.symm
    split at h
    · injection h with h
      exact .inl h.symm
    · split at h
      · cases h
      · rename_i y h2
        injection h with h
        subst h
        exact ih _ _ h2
end Go.Proofs.YthafedmlbialiaaDoor
