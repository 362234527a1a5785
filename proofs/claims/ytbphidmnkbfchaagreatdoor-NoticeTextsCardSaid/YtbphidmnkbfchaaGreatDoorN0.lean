/-
  Plain: notice's Text and Parse, as functions of bytes: there and back.
-/
import Derived.Lib.ItoaNum
import Derived.Lib.ItoaMem
import Derived.Lib.Atoi
import Derived.Lib.SlTrimSet
import Derived.Lib.IndexMore
namespace Go.Proofs.YtbphidmnkbfchaaGreatDoor
open Go
set_option linter.unusedVariables false
set_option linter.unusedSimpArgs false

def digs : List UInt8 := [48, 49, 50, 51, 52, 53, 54, 55, 56, 57]
/-- What number reads; none: it is none. -/
def numOf (l : List UInt8) : Option Nat :=
  if l = [] ∨ 10 < l.length ∨ Lib.trimS l digs ≠ [] ∨ (1 < l.length ∧ l[0]? = some 48) then none else Lib.decNat l
/-- The codes' names. -/
def nmHead : List UInt8 := [104, 101, 97, 100]
def nmOpen : List UInt8 := [111, 112, 101, 110]
def nmUpdate : List UInt8 := [117, 112, 100, 97, 116, 101]
def nmHold : List UInt8 := [104, 111, 108, 100]
def nmState : List UInt8 := [115, 116, 97, 116, 101]
def nmCease : List UInt8 := [99, 101, 97, 115, 101]
def nms : List (List UInt8) := [[], nmHead, nmOpen, nmUpdate, nmHold, nmState, nmCease]
def nmIdx (l : List UInt8) : Option Nat :=
  if l = nmHead then some 1 else if l = nmOpen then some 2 else if l = nmUpdate then some 3 else if l = nmHold then some 4 else if l = nmState then some 5 else if l = nmCease then some 6 else none
def codeOf (l : List UInt8) : Option Nat := match nmIdx l with | some k => some k | none => numOf l
/-- Parse: code, sub, error. -/
def parseOf (s : List UInt8) : Nat × Nat × Int :=
  match codeOf (Lib.cut s [47]).1, numOf (Lib.cut s [47]).2.1 with
  | some c, some d => if 255 < c ∨ 255 < d then (0, 0, 24) else (c, d, 0)
  | _, _ => (0, 0, 5)
/-- What stands for a code. -/
def nameOf (c : Nat) : List UInt8 := if 1 ≤ c ∧ c < 7 then nms.getD c [] else Lib.decDigits c
def textOf (c d : Nat) : List UInt8 := nameOf c ++ [47] ++ Lib.decDigits d

/-! ### Numbers -/
def d3 (u : Nat) : List UInt8 :=
  if u < 10 then [UInt8.ofNat (48 + u)] else if u < 100 then [UInt8.ofNat (48 + u / 10), UInt8.ofNat (48 + u % 10)] else [UInt8.ofNat (48 + u / 100), UInt8.ofNat (48 + u / 10 % 10), UInt8.ofNat (48 + u % 10)]
theorem dec_d3 {u : Nat} (h : u < 1000) : Lib.decDigits u = d3 u := by
  unfold d3
  by_cases h1 : u < 10
  · rw [if_pos h1, Lib.decDigits, dif_pos h1]
  · rw [if_neg h1]
    by_cases h2 : u < 100
    · rw [if_pos h2, Lib.decDigits, dif_neg h1, Lib.decDigits, dif_pos (by omega)]
      rfl
    · rw [if_neg h2, Lib.decDigits, dif_neg h1, Lib.decDigits, dif_neg (by omega), Lib.decDigits, dif_pos (by omega)]
      rw [show u / 10 / 10 = u / 100 by omega]
      rfl
def okAll : Bool := (List.range 256).all fun u => numOf (d3 u) == some u && (d3 u).all (fun b => b != 47) && nmIdx (d3 u) == none
theorem okAll_t : okAll = true := by decide +kernel
theorem ok_at {u : Nat} (h : u < 256) : numOf (d3 u) = some u ∧ (∀ b, b ∈ d3 u → b ≠ 47) ∧ nmIdx (d3 u) = none := by
  have h1 := List.all_eq_true.1 okAll_t u (List.mem_range.2 h)
  simp only [Bool.and_eq_true, beq_iff_eq, List.all_eq_true, bne_iff_ne, ne_eq] at h1
  exact ⟨h1.1.1, h1.1.2, h1.2⟩
theorem numOf_dec {u : Nat} (h : u < 256) : numOf (Lib.decDigits u) = some u := by rw [dec_d3 (by omega)]; exact (ok_at h).1
theorem bar_dec {u : Nat} (h : u < 256) : ∀ b, b ∈ Lib.decDigits u → b ≠ 47 := by rw [dec_d3 (by omega)]; exact (ok_at h).2.1
theorem idx_dec {u : Nat} (h : u < 256) : nmIdx (Lib.decDigits u) = none := by rw [dec_d3 (by omega)]; exact (ok_at h).2.2
theorem names_ok : ∀ c, 1 ≤ c → c < 7 → nmIdx (nms.getD c []) = some c ∧ (∀ b, b ∈ nms.getD c [] → b ≠ 47) := by
  intro c h1 h2
  match c, h1, h2 with
  | 1, _, _ => exact ⟨by decide, by decide⟩
  | 2, _, _ => exact ⟨by decide, by decide⟩
  | 3, _, _ => exact ⟨by decide, by decide⟩
  | 4, _, _ => exact ⟨by decide, by decide⟩
  | 5, _, _ => exact ⟨by decide, by decide⟩
  | 6, _, _ => exact ⟨by decide, by decide⟩
theorem nmIdx_lt {l : List UInt8} {k : Nat} (h : nmIdx l = some k) : 1 ≤ k ∧ k ≤ 6 ∧ nms.getD k [] = l := by
  unfold nmIdx at h
  split at h
  · rename_i e; injection h with h; subst h; exact ⟨by decide, by decide, e.symm⟩
  split at h
  · rename_i e; injection h with h; subst h; exact ⟨by decide, by decide, e.symm⟩
  split at h
  · rename_i e; injection h with h; subst h; exact ⟨by decide, by decide, e.symm⟩
  split at h
  · rename_i e; injection h with h; subst h; exact ⟨by decide, by decide, e.symm⟩
  split at h
  · rename_i e; injection h with h; subst h; exact ⟨by decide, by decide, e.symm⟩
  split at h
  · rename_i e; injection h with h; subst h; exact ⟨by decide, by decide, e.symm⟩
  cases h

/-! ### Cut -/
theorem index_bar : ∀ (a b : List UInt8), (∀ x, x ∈ a → x ≠ 47) → Lib.index (a ++ 47 :: b) [47] = a.length := by
  intro a b
  induction a with
  | nil => intro _; simp [Lib.index]
  | cons x a ih =>
    intro h
    have hx : x ≠ 47 := h x (by simp)
    have h1 := ih (fun y hy => h y (by simp [hy]))
    rw [List.cons_append, Lib.index, h1]
    have e : List.isPrefixOf [47] (x :: (a ++ 47 :: b)) = false := by simp [List.isPrefixOf]; exact fun h => hx h.symm
    rw [e]
    have e2 : ((a.length : Int) == -1) = false := by rw [beq_eq_false_iff_ne]; omega
    simp [e2]
theorem cut_bar (a b : List UInt8) (h : ∀ x, x ∈ a → x ≠ 47) : Lib.cut (a ++ 47 :: b) [47] = (a, b, true) := by
  unfold Lib.cut
  rw [index_bar a b h, if_pos (by omega)]
  simp
theorem index_cut : ∀ (s : List UInt8), (0 ≤ Lib.index s [47] → ∃ a b, s = a ++ 47 :: b ∧ (∀ x, x ∈ a → x ≠ 47))
  | [] => by intro h; simp [Lib.index] at h
  | x :: s => by
    intro h
    by_cases hx : x = 47
    · exact ⟨[], s, by rw [hx]; rfl, by simp⟩
    · have e : List.isPrefixOf [47] (x :: s) = false := by simp [List.isPrefixOf]; exact fun h => hx h.symm
      have h2 : 0 ≤ Lib.index s [47] := by
        rw [Lib.index, e] at h
        by_cases h3 : Lib.index s [47] = -1
        · simp [h3] at h
        · rcases Lib.index_spec s [47] with ⟨h4, _⟩ | ⟨i, h4, _⟩
          · exact absurd h4 h3
          · omega
      obtain ⟨a, b, h4, h5⟩ := index_cut s h2
      refine ⟨x :: a, b, by rw [h4]; rfl, fun y hy => ?_⟩
      rcases List.mem_cons.1 hy with rfl | hy
      · exact hx
      · exact h5 y hy

/-! ### There and back -/
theorem name_ok {c : Nat} (h : c < 256) : codeOf (nameOf c) = some c ∧ ∀ b, b ∈ nameOf c → b ≠ 47 := by
  unfold nameOf codeOf
  by_cases h1 : 1 ≤ c ∧ c < 7
  · rw [if_pos h1, (names_ok c h1.1 h1.2).1]
    exact ⟨rfl, (names_ok c h1.1 h1.2).2⟩
  · rw [if_neg h1, idx_dec h]
    exact ⟨numOf_dec h, bar_dec h⟩
theorem parse_text {c d : Nat} (hc : c < 256) (hd : d < 256) : parseOf (textOf c d) = (c, d, 0) := by
  have h := cut_bar (nameOf c) (Lib.decDigits d) (name_ok hc).2
  unfold parseOf textOf
  rw [List.append_assoc, List.singleton_append, h, (name_ok hc).1, numOf_dec hd]
  exact if_neg (by omega)

theorem decFrom_bound : ∀ (l : List UInt8) (acc n : Nat), Lib.decFrom acc l = some n → acc * 10 ^ l.length ≤ n
  | [], acc, n, h => by
    simp [Lib.decFrom] at h
    simp [h]
  | b :: l, acc, n, h => by
    unfold Lib.decFrom at h
    split at h
    · rename_i d hd
      have h1 := decFrom_bound l _ n h
      refine Nat.le_trans ?_ h1
      rw [List.length_cons, Nat.pow_succ, ← Nat.mul_assoc, Nat.mul_comm (acc * 10 ^ l.length) 10, ← Nat.mul_assoc, Nat.mul_comm 10 acc]
      exact Nat.mul_le_mul_right _ (by omega)
    · cases h
theorem digit_of {b : UInt8} {d : Nat} (h : Lib.digitVal b = some d) : d < 10 ∧ b = UInt8.ofNat (48 + d) := by
  unfold Lib.digitVal at h
  split at h
  · rename_i hb
    injection h with h
    subst h
    refine ⟨by omega, ?_⟩
    rw [show 48 + (b.toNat - 48) = b.toNat by omega]
    simp
  · cases h
theorem canon {l : List UInt8} {n : Nat} (h : numOf l = some n) (hn : n ≤ 255) : Lib.decDigits n = l := by
  unfold numOf at h
  split at h
  · cases h
  · rename_i hne
    rw [dec_d3 (by omega)]
    have h0 : l ≠ [] := fun e => hne (.inl e)
    have h4 : ¬ (1 < l.length ∧ l[0]? = some 48) := fun e => hne (.inr (.inr (.inr e)))
    unfold Lib.decNat at h
    match l, h0, h4, h with
    | [a], _, _, h =>
      simp only [List.isEmpty_cons, Bool.false_eq_true, if_false, Lib.decFrom] at h
      split at h
      · rename_i d hd
        obtain ⟨h1, h2⟩ := digit_of hd
        injection h with h
        subst h
        rw [h2, Nat.zero_mul, Nat.zero_add]
        exact if_pos h1
      · cases h
    | a :: b :: r, _, h4, h =>
      simp only [List.isEmpty_cons, Bool.false_eq_true, if_false, Lib.decFrom] at h
      split at h
      · rename_i d hd
        obtain ⟨h1, h2⟩ := digit_of hd
        have hd0 : d ≠ 0 := by
          intro e
          subst e
          exact h4 ⟨by simp, by rw [h2]; rfl⟩
        split at h
        · rename_i d2 hd2
          obtain ⟨h3, h5⟩ := digit_of hd2
          match r, h with
          | [], h =>
            simp only [Lib.decFrom] at h
            injection h with h
            subst h
            rw [h2, h5]
            unfold d3
            rw [if_neg (by omega), if_pos (by omega), show ((0 * 10 + d) * 10 + d2) / 10 = d by omega, show ((0 * 10 + d) * 10 + d2) % 10 = d2 by omega]
          | [c], h =>
            simp only [Lib.decFrom] at h
            split at h
            · rename_i d6 hd6
              obtain ⟨h6, h7⟩ := digit_of hd6
              injection h with h
              subst h
              rw [h2, h5, h7]
              unfold d3
              rw [if_neg (by omega), if_neg (by omega), show (((0 * 10 + d) * 10 + d2) * 10 + d6) / 100 = d by omega, show (((0 * 10 + d) * 10 + d2) * 10 + d6) / 10 % 10 = d2 by omega, show (((0 * 10 + d) * 10 + d2) * 10 + d6) % 10 = d6 by omega]
            · cases h
          | c :: e :: r, h =>
            have hb := decFrom_bound _ _ _ h
            exfalso
            have h8 : 100 ≤ 10 ^ (c :: e :: r).length := by
              have : 10 ^ 2 ≤ 10 ^ (c :: e :: r).length := Nat.pow_le_pow_right (by omega) (by simp)
              omega
            have h9 : 10 * 100 ≤ ((0 * 10 + d) * 10 + d2) * 10 ^ (c :: e :: r).length := Nat.mul_le_mul (by omega) h8
            omega
        · cases h
      · cases h
theorem numOf_nil : numOf [] = none := rfl
/-- What is read of a text is told so, or by the code's name. -/
theorem text_parse {s : List UInt8} {c d : Nat} {e : Int} (h : parseOf s = (c, d, e)) (he : e = 0) : c < 256 ∧ d < 256 ∧ (textOf c d = s ∨ (1 ≤ c ∧ c ≤ 6)) := by
  unfold parseOf at h
  split at h
  · rename_i c' d' h1 h2
    split at h
    · injection h with _ h
      injection h with _ h
      omega
    · rename_i hle
      injection h with e1 h
      injection h with e2 _
      subst e1 e2
      refine ⟨by omega, by omega, ?_⟩
      by_cases hi : 0 ≤ Lib.index s [47]
      · obtain ⟨a, b, hs, ha⟩ := index_cut s hi
        have hc := cut_bar a b ha
        rw [← hs] at hc
        rw [hc] at h1 h2
        unfold codeOf at h1
        split at h1
        · rename_i k hk
          injection h1 with h1
          subst h1
          have := nmIdx_lt hk
          exact .inr ⟨this.1, this.2.1⟩
        · by_cases hr : 1 ≤ c' ∧ c' < 7
          · exact .inr ⟨hr.1, by omega⟩
          · refine .inl ?_
            unfold textOf nameOf
            rw [if_neg hr, canon h1 (by omega), canon h2 (by omega), hs]
            simp
      · have hc : Lib.cut s [47] = (s, [], false) := by unfold Lib.cut; rw [if_neg hi]
        rw [hc] at h2
        rw [numOf_nil] at h2
        cases h2
  · injection h with _ h
    injection h with _ h
    omega
end Go.Proofs.YtbphidmnkbfchaaGreatDoor
