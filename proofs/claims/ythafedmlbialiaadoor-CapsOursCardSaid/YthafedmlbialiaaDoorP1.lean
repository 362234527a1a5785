/-
  Plain: the document's answer reads the same grammar.
-/
import Derived.Test.YthafedmlbialiaaDoorP0
import Derived.Test.YthafedmlbialiaaDoorPAx1
namespace Go.Proofs.YthafedmlbialiaaDoor
open Go.RowKit Go.Proofs.YthafedmlbialiaaDoorW.PrintWords
set_option linter.unusedVariables false
set_option linter.unusedSimpArgs false

def cap99 (x : PA.S61) : PA.S99 := ⟨x.f0, x.f1⟩
def refAns (l : List PA.S99) : Except Int (List PA.S61) → List PA.S99 × Int × Int
  | .ok l' => (l ++ l'.map cap99, 0, 0)
  | .error x => ([], 2, x)

theorem w64 {n : Int} (h0 : -9223372036854775808 ≤ n) (h1 : n ≤ 9223372036854775807) : wrap64 n = n := by unfold wrap64; omega
theorem rd_drop {b s : List Int} {a : Nat} {t : Int} (h : b.drop a = t :: s) : rd b (a : Int) = t := by
  rw [rd, Int.toNat_natCast, List.getD_eq_getElem?_getD]
  have : (b.drop a)[0]? = some t := by rw [h]; rfl
  rw [List.getElem?_drop] at this
  rw [show a = a + 0 by omega, this]
  rfl
theorem drop_len {b s : List Int} {a : Nat} (h : b.drop a = s) (ha : a ≤ b.length) : b.length = a + s.length := by
  rw [← h, List.length_drop]; omega

theorem ref_l1 (b : List Int) (hb : ∀ x, x ∈ b → 0 ≤ x ∧ x < 256) (hbl : b.length < 4398046511104) : ∀ (n a z : Nat), z - a ≤ n → a ≤ z → z ≤ b.length → ∀ (f k : Nat) (l : List PA.S99), z - a < f → z - a < k → l.length + (z - a) < 4398046511104 →
    match capsIn f ((b.drop a).take (z - a)) with
      | some l2 => ∃ k', k ≤ k' + (z - a) + 1 ∧ PA.consulateref05_Read.l1 k b l a z = PA.consulateref05_Read.l0 k' b (l ++ l2.map cap99) z
      | none => PA.consulateref05_Read.l1 k b l a z = some ([], 2, 0) := by
  intro n
  induction n with
  | zero =>
    intro a z hn haz hz f k l hf hk hl
    obtain rfl : a = z := by omega
    obtain ⟨f, rfl⟩ : ∃ m, f = m + 1 := ⟨f - 1, by omega⟩
    obtain ⟨k, rfl⟩ : ∃ m, k = m + 1 := ⟨k - 1, by omega⟩
    rw [Nat.sub_self, List.take_zero]
    simp only [capsIn]
    refine ⟨k, by omega, ?_⟩
    simp only [PA.consulateref05_Read.l1]
    rw [if_neg (by omega)]
    simp
  | succ n ih =>
    intro a z hn haz hz f k l hf hk hl
    obtain ⟨f, rfl⟩ : ∃ m, f = m + 1 := ⟨f - 1, by omega⟩
    obtain ⟨k, rfl⟩ : ∃ m, k = m + 1 := ⟨k - 1, by omega⟩
    by_cases haz0 : a = z
    · subst haz0
      rw [Nat.sub_self, List.take_zero]
      simp only [capsIn]
      refine ⟨k, by omega, ?_⟩
      simp only [PA.consulateref05_Read.l1]
      rw [if_neg (by omega)]
      simp
    obtain ⟨d, hd⟩ : ∃ d, b.drop a = d := ⟨_, rfl⟩
    have hdl := drop_len hd (by omega)
    rw [hd]
    rcases d with _ | ⟨c, d⟩
    · simp at hdl; omega
    have hr1 := rd_drop hd
    have hd1 : b.drop (a + 1) = d := by rw [show a + 1 = a + 1 from rfl, ← List.drop_drop, hd]; rfl
    simp only [List.length_cons] at hdl
    by_cases h1 : z = a + 1
    · subst h1
      rw [show a + 1 - a = 1 by omega]
      simp only [List.take_succ_cons, List.take_zero, capsIn]
      simp only [PA.consulateref05_Read.l1]
      rw [if_pos (by omega), w64 (by omega) (by omega), if_pos (by omega)]
    rcases d with _ | ⟨m, d⟩
    · simp at hdl; omega
    have hr2 : rd b ((a : Int) + 1) = m := by
      have := rd_drop hd1
      rw [← this]
      congr 1
    have hm := hb m (by rw [← List.take_append_drop a b, hd]; simp)
    have hd2 : b.drop (a + 2) = d := by rw [show a + 2 = a + 1 + 1 from rfl, ← List.drop_drop, hd1]; rfl
    simp only [List.length_cons] at hdl
    obtain ⟨j, hj⟩ : ∃ j, z - a = j + 2 := ⟨z - a - 2, by omega⟩
    rw [hj]
    simp only [List.take_succ_cons, capsIn]
    rw [List.length_take]
    by_cases hle : m.toNat ≤ min j d.length
    · rw [if_pos hle]
      simp only [PA.consulateref05_Read.l1]
      rw [if_pos (by omega), w64 (n := (a : Int) + 2) (by omega) (by omega), if_neg (by omega), w64 (n := (a : Int) + 1) (by omega) (by omega), if_pos (by omega), if_pos (by omega), hr2, hr1, w64 (n := m) (by omega) (by omega), w64 (n := (a : Int) + 2 + m) (by omega) (by omega)]
      rw [if_neg (by omega), if_pos (by omega), if_pos (by omega), if_pos (by omega), if_pos (by omega), if_pos (by omega), if_pos (by omega)]
      have hsl : ((b.take ((a : Int) + 2 + m).toNat).drop ((a : Int) + 2).toNat) = (d.take j).take m.toNat := by
        rw [show ((a : Int) + 2).toNat = a + 2 by omega, show ((a : Int) + 2 + m).toNat = (a + 2) + m.toNat by omega, ← List.take_drop, hd2, List.take_take]
        congr 1
        omega
      have hnx : (d.take j).drop m.toNat = (b.drop (a + 2 + m.toNat)).take (z - (a + 2 + m.toNat)) := by
        rw [← List.drop_drop, hd2, List.drop_take]
        congr 1
        omega
      have := ih (a + 2 + m.toNat) z (by omega) (by omega) hz f k (l ++ [cap99 ⟨c, (d.take j).take m.toNat⟩]) (by omega) (by omega) (by rw [List.length_append]; simp only [List.length_cons, List.length_nil]; omega)
      rw [← hnx] at this
      rw [hsl, show ((a : Int) + 2 + m) = ((a + 2 + m.toNat : Nat) : Int) by omega]
      cases hc : capsIn f ((d.take j).drop m.toNat) with
      | none =>
        rw [hc] at this
        exact this
      | some l2 =>
        rw [hc] at this
        obtain ⟨k', h2, h3⟩ := this
        simp only [Option.map_some]
        refine ⟨k', by omega, ?_⟩
        rw [show l ++ List.map cap99 (⟨c, (d.take j).take m.toNat⟩ :: l2) = l ++ [cap99 ⟨c, (d.take j).take m.toNat⟩] ++ l2.map cap99 by simp]
        exact h3
    · rw [if_neg hle]
      simp only [PA.consulateref05_Read.l1]
      rw [if_pos (by omega), w64 (n := (a : Int) + 2) (by omega) (by omega), if_neg (by omega), w64 (n := (a : Int) + 1) (by omega) (by omega), if_pos (by omega), if_pos (by omega), hr2, hr1, w64 (n := m) (by omega) (by omega), w64 (n := (a : Int) + 2 + m) (by omega) (by omega)]
      rw [if_pos (by omega)]

theorem ref_l0 (b : List Int) (hb : ∀ x, x ∈ b → 0 ≤ x ∧ x < 256) (hbl : b.length < 4398046511104) : ∀ (n a : Nat), b.length - a ≤ n → a ≤ b.length → ∀ (f k : Nat) (l : List PA.S99), b.length - a < f → 2 * (b.length - a) + 1 < k → l.length + (b.length - a) < 4398046511104 →
    PA.consulateref05_Read.l0 k b l a = some (refAns l (capsOut f (b.drop a))) := by
  intro n
  induction n with
  | zero =>
    intro a hn ha f k l hf hk hl
    obtain rfl : a = b.length := by omega
    obtain ⟨f, rfl⟩ : ∃ m, f = m + 1 := ⟨f - 1, by omega⟩
    obtain ⟨k, rfl⟩ : ∃ m, k = m + 1 := ⟨k - 1, by omega⟩
    simp only [PA.consulateref05_Read.l0]
    rw [if_neg (by omega)]
    simp [capsOut, refAns]
  | succ n ih =>
    intro a hn ha f k l hf hk hl
    obtain ⟨f, rfl⟩ : ∃ m, f = m + 1 := ⟨f - 1, by omega⟩
    obtain ⟨k, rfl⟩ : ∃ m, k = m + 1 := ⟨k - 1, by omega⟩
    by_cases haz0 : a = b.length
    · subst haz0
      simp only [PA.consulateref05_Read.l0]
      rw [if_neg (by omega)]
      simp [capsOut, refAns]
    obtain ⟨d, hd⟩ : ∃ d, b.drop a = d := ⟨_, rfl⟩
    have hdl := drop_len hd (by omega)
    rw [hd]
    rcases d with _ | ⟨t, d⟩
    · simp at hdl; omega
    have hr1 := rd_drop hd
    have hd1 : b.drop (a + 1) = d := by rw [show a + 1 = a + 1 from rfl, ← List.drop_drop, hd]; rfl
    simp only [List.length_cons] at hdl
    obtain ⟨k, rfl⟩ : ∃ m, k = m + 1 := ⟨k - 1, by omega⟩
    simp only [PA.consulateref05_Read.l0]
    rw [if_pos (by omega), w64 (n := (a : Int) + 2) (by omega) (by omega)]
    rcases d with _ | ⟨m, d⟩
    · simp only [List.length_nil] at hdl
      rw [if_pos (by omega)]
      simp [PA.consulateref05_Read.j1, capsOut, refAns]
    have hr2 : rd b ((a : Int) + 1) = m := by
      have := rd_drop hd1
      rw [← this]
      congr 1
    have hm := hb m (by rw [← List.take_append_drop a b, hd]; simp)
    have hd2 : b.drop (a + 2) = d := by rw [show a + 2 = a + 1 + 1 from rfl, ← List.drop_drop, hd1]; rfl
    simp only [List.length_cons] at hdl
    rw [if_neg (by omega), w64 (n := (a : Int) + 1) (by omega) (by omega), if_pos (by omega), if_pos (by omega), hr2, w64 (n := m) (by omega) (by omega), w64 (n := (a : Int) + 2 + m) (by omega) (by omega)]
    by_cases hle : m.toNat ≤ d.length
    · have hR : capsOut (f + 1) (t :: m :: d) = if t = 2 then match capsIn (f + 1) (d.take m.toNat) with
        | none => .error 0
        | some l => match capsOut f (d.drop m.toNat) with
          | .ok l' => .ok (l ++ l')
          | .error x => .error x
      else .error 4 := by simp only [capsOut]; rw [if_pos hle]; rfl
      rw [hR]
      simp only [PA.consulateref05_Read.j1]
      rw [if_neg (by simp; omega), if_pos (by omega), if_pos (by omega), hr1]
      by_cases ht : t = 2
      · rw [if_pos ht, if_pos ht, w64 (n := (a : Int) + 1) (by omega) (by omega), if_pos (by omega), if_pos (by omega), hr2, w64 (n := (a : Int) + 2) (by omega) (by omega), w64 (n := m) (by omega) (by omega), w64 (n := (a : Int) + 2 + m) (by omega) (by omega)]
        have := ref_l1 b hb hbl m.toNat (a + 2) (a + 2 + m.toNat) (by omega) (by omega) (by omega) (f + 1) k l (by omega) (by omega) (by omega)
        rw [hd2, show a + 2 + m.toNat - (a + 2) = m.toNat by omega] at this
        rw [show ((a : Int) + 2 + m) = ((a + 2 + m.toNat : Nat) : Int) by omega, show ((a : Int) + 2) = ((a + 2 : Nat) : Int) by omega]
        cases hc : capsIn (f + 1) (d.take m.toNat) with
        | none =>
          rw [hc] at this
          rw [this]
          simp [refAns]
        | some l2 =>
          rw [hc] at this
          obtain ⟨k', h2, h3⟩ := this
          have hll := capsIn_len _ _ _ hc
          rw [List.length_take] at hll
          rw [h3, ih (a + 2 + m.toNat) (by omega) (by omega) f k' _ (by omega) (by omega) (by rw [List.length_append, List.length_map]; omega), show b.drop (a + 2 + m.toNat) = d.drop m.toNat by rw [← hd2, List.drop_drop]]
          cases capsOut f (d.drop m.toNat) with
          | error x => simp [refAns]
          | ok l3 => simp [refAns]
      · rw [if_neg ht, if_neg ht]
        simp [refAns]
    · have hR : capsOut (f + 1) (t :: m :: d) = .error 0 := by simp only [capsOut]; rw [if_neg hle]
      rw [hR]
      simp only [PA.consulateref05_Read.j1]
      rw [if_pos (by simp; omega)]
      simp [refAns]

theorem ref_of (b : List Int) (hb : ∀ x, x ∈ b → 0 ≤ x ∧ x < 256) (hbl : b.length < 4398046511104) : PA.consulateref05_Read.f (2 * b.length + 2) b = some (refAns [] (capsOut (b.length + 1) b)) :=
  ref_l0 b hb hbl b.length 0 (by omega) (by omega) (b.length + 1) (2 * b.length + 2) [] (by omega) (by omega) (by simp; omega)
end Go.Proofs.YthafedmlbialiaaDoor
