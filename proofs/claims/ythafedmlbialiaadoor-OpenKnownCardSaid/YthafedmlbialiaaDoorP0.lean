/-
  Plain: what caps.Read computes is the parameters' own grammar.
-/
import Derived.Test.YthafedmlbialiaaDoorR0
import Derived.Test.YthafedmlbialiaaDoorPAx1
import Derived.Test.YthafedmlbialiaaDoorPAx2
namespace Go.Proofs.YthafedmlbialiaaDoor
open Go.RowKit Go.Proofs.YthafedmlbialiaaDoorW.PrintWords
set_option linter.unusedVariables false
set_option linter.unusedSimpArgs false

/-- Capabilities one behind the other: none where the last one is not all there. -/
def capsIn : Nat → List Int → Option (List PA.S61)
  | 0, _ => none
  | _ + 1, [] => some []
  | _ + 1, [_] => none
  | k + 1, c :: m :: t => if m.toNat ≤ t.length then (capsIn k (t.drop m.toNat)).map (⟨c, t.take m.toNat⟩ :: ·) else none
/-- Parameters one behind the other: the capabilities, or the second half of the fault. -/
def capsOut : Nat → List Int → Except Int (List PA.S61)
  | 0, _ => .error 0
  | _ + 1, [] => .ok []
  | _ + 1, [_] => .error 0
  | k + 1, t :: n :: s =>
    if n.toNat ≤ s.length then
      if t = 2 then match capsIn (k + 1) (s.take n.toNat) with
        | none => .error 0
        | some l => match capsOut k (s.drop n.toNat) with
          | .ok l' => .ok (l ++ l')
          | .error x => .error x
      else .error 4
    else .error 0
/-- As the calls answer. -/
def capsAns (l : List PA.S61) : Except Int (List PA.S61) → List PA.S61 × Int × Int
  | .ok l' => (l ++ l', 0, 0)
  | .error x => ([], 2, x)

/-! ### A reader with an error -/
theorem err_left {r : Rdr} (h : r.e ≠ 0) : r.left = 0 := if_neg h
theorem err_fail {r : Rdr} (h : r.e ≠ 0) (x : Int) : r.fail x = r := if_neg h
theorem err_has {r : Rdr} (h : r.e ≠ 0) (n : Int) : r.has n = r := by
  unfold Rdr.has
  split
  · exact err_fail h 4
  · rfl
theorem err_took {r : Rdr} (h : r.e ≠ 0) (n : Int) : r.took n = r := by
  unfold Rdr.took
  rw [err_has h, if_neg h]
theorem err_taken {r : Rdr} (h : r.e ≠ 0) (n : Int) : r.taken n = [] := by
  unfold Rdr.taken
  rw [err_has h, if_neg h]
theorem err_opened {r : Rdr} (h : r.e ≠ 0) (n : Int) : r.opened n = r := by
  unfold Rdr.opened
  rw [err_has h, if_neg h]
theorem err_within {r : Rdr} (h : r.e ≠ 0) : r.within = r := by
  unfold Rdr.within
  split
  · exact err_fail h 26
  · rfl
theorem err_closed {r : Rdr} (h : r.e ≠ 0) : r.closed = r := by
  have hs : r.shutE = r := by
    unfold Rdr.shutE
    rw [err_within h, if_neg (fun h2 => h h2.1)]
  unfold Rdr.closed
  rw [hs, if_neg h]
theorem err_l1 {r : Rdr} (h : r.e ≠ 0) (k : Nat) (l : List PA.S61) : capsRead.l1 (k + 1) r l = some (r, l) := by
  simp only [capsRead.l1]
  rw [err_left h, if_neg (by omega)]
theorem err_l0 {r : Rdr} (h : r.e ≠ 0) (k : Nat) (l : List PA.S61) : capsRead.l0 (k + 1) r l = some ([], 2, 0) := by
  simp only [capsRead.l0]
  rw [err_left h, if_neg (by omega), if_neg h]

theorem has_ends (r : Rdr) (n : Int) : (r.has n).ends = r.ends := by
  unfold Rdr.has
  split
  · unfold Rdr.fail
    split <;> rfl
  · rfl
theorem took_ends (r : Rdr) (n : Int) : (r.took n).ends = r.ends := by
  unfold Rdr.took
  split
  · rfl
  · exact has_ends r n

/-! ### A reader without an error: what is left of its innermost block -/
structure On (r : Rdr) (s : List Int) : Prop where
  e : r.e = 0
  at_ : 0 ≤ r.at_
  le : r.at_ ≤ r.last
  last : r.last ≤ r.b.length
  rest : (r.b.take r.last.toNat).drop r.at_.toNat = s
theorem On.left {r : Rdr} {s : List Int} (h : On r s) : r.left = s.length := by
  have h1 := h.at_
  have h2 := h.le
  have h3 := h.last
  unfold Rdr.left
  rw [if_pos h.e, ← h.rest, List.length_drop, List.length_take]
  omega
theorem On.has {r : Rdr} {s : List Int} (h : On r s) {n : Int} (h0 : 0 ≤ n) (h1 : n ≤ s.length) : r.has n = r := by
  unfold Rdr.has
  rw [h.left, if_neg (by omega)]
theorem On.hasNot {r : Rdr} {s : List Int} (h : On r s) {n : Int} (h1 : (s.length : Int) < n) : (r.has n).e ≠ 0 := by
  unfold Rdr.has
  rw [h.left, if_pos (.inr h1)]
  exact Rdr.fail_e (by decide)
theorem On.took {r : Rdr} {s : List Int} (h : On r s) {n : Int} (h0 : 0 ≤ n) (h1 : n ≤ s.length) : r.took n = { r with at_ := r.at_ + n } := by
  unfold Rdr.took
  rw [h.has h0 h1, if_pos h.e]
theorem On.tookNot {r : Rdr} {s : List Int} (h : On r s) {n : Int} (h1 : (s.length : Int) < n) : (r.took n).e ≠ 0 ∧ r.taken n = [] := by
  unfold Rdr.took Rdr.taken
  rw [if_neg (h.hasNot h1), if_neg (h.hasNot h1)]
  exact ⟨h.hasNot h1, rfl⟩
theorem On.next {r : Rdr} {s : List Int} (h : On r s) {n : Int} (h0 : 0 ≤ n) (h1 : n ≤ s.length) : On (r.took n) (s.drop n.toNat) := by
  have hl := h.left
  unfold Rdr.left at hl
  rw [if_pos h.e] at hl
  have h2 := h.at_
  rw [h.took h0 h1]
  refine ⟨h.e, show 0 ≤ r.at_ + n by omega, show r.at_ + n ≤ r.last by omega, h.last, ?_⟩
  show (r.b.take r.last.toNat).drop (r.at_ + n).toNat = _
  rw [← h.rest, List.drop_drop]
  congr 1
  omega
theorem On.taken {r : Rdr} {s : List Int} (h : On r s) {n : Int} (h0 : 0 ≤ n) (h1 : n ≤ s.length) : r.taken n = s.take n.toNat := by
  have hl := h.left
  unfold Rdr.left at hl
  rw [if_pos h.e] at hl
  have h2 := h.at_
  unfold Rdr.taken
  rw [h.has h0 h1, if_pos h.e, ← h.rest, List.take_drop, List.take_take]
  congr 2
  omega

/-- What a byte's taking answers. -/
theorem acc8_one (x : Int) : acc8 [x] = x := by simp [acc8]
theorem acc8_nil : acc8 [] = 0 := rfl
theorem On.last_took {r : Rdr} {s : List Int} (h : On r s) {n : Int} (h0 : 0 ≤ n) (h1 : n ≤ s.length) : (r.took n).last = r.last ∧ (r.took n).ends = r.ends ∧ (r.took n).b = r.b := by
  rw [h.took h0 h1]
  exact ⟨rfl, rfl, rfl⟩
theorem On.fin {r : Rdr} (h : On r []) : ({ r with at_ := r.last } : Rdr) = r := by
  have hl := h.left
  unfold Rdr.left at hl
  rw [if_pos h.e] at hl
  have : r.last = r.at_ := by simp at hl; omega
  rw [this]
theorem On.set_at {r : Rdr} {s : List Int} (h : On r s) {n : Int} (h0 : 0 ≤ n) (h1 : n ≤ s.length) : ({ r.took n with at_ := (r.took n).last } : Rdr) = { r with at_ := r.last } := by
  rw [h.took h0 h1]
  rfl

theorem l1_of : ∀ (n : Nat) (s : List Int), s.length ≤ n → (∀ x, x ∈ s → 0 ≤ x) → ∀ (f k : Nat) (r : Rdr) (l : List PA.S61), s.length < f → s.length < k → On r s → l.length + s.length < 4398046511104 →
    ∃ r' l', capsRead.l1 k r l = some (r', l') ∧ match capsIn f s with
      | some l2 => r' = { r with at_ := r.last } ∧ l' = l ++ l2
      | none => r'.e ≠ 0 := by
  intro n
  induction n with
  | zero =>
    intro s hs hb f k r l hf hk h hl
    obtain rfl : s = [] := List.eq_nil_of_length_eq_zero (by omega)
    obtain ⟨f, rfl⟩ : ∃ m, f = m + 1 := ⟨f - 1, by omega⟩
    obtain ⟨k, rfl⟩ : ∃ m, k = m + 1 := ⟨k - 1, by omega⟩
    refine ⟨r, l, ?_, ?_⟩
    · simp only [capsRead.l1]
      rw [h.left, if_neg (by simp)]
    · simp only [capsIn, List.append_nil, and_true]
      exact h.fin.symm
  | succ n ih =>
    intro s hs hb f k r l hf hk h hl
    obtain ⟨f, rfl⟩ : ∃ m, f = m + 1 := ⟨f - 1, by omega⟩
    obtain ⟨k, rfl⟩ : ∃ m, k = m + 1 := ⟨k - 1, by omega⟩
    rcases s with _ | ⟨c, s⟩
    · refine ⟨r, l, ?_, ?_⟩
      · simp only [capsRead.l1]
        rw [h.left, if_neg (by simp)]
      · simp only [capsIn, List.append_nil, and_true]
        exact h.fin.symm
    have h1 : On (r.took 1) s := h.next (n := 1) (by omega) (by simp only [List.length_cons]; omega)
    have t1 : r.taken 1 = [c] := by rw [h.taken (by omega) (by simp only [List.length_cons]; omega)]; rfl
    have hpos : 0 < r.left := by rw [h.left]; simp only [List.length_cons]; omega
    rcases s with _ | ⟨m, t⟩
    · obtain ⟨k, rfl⟩ : ∃ m, k = m + 1 := ⟨k - 1, by simp at hk; omega⟩
      obtain ⟨he, ht⟩ := h1.tookNot (n := 1) (by simp)
      refine ⟨(r.took 1).took 1, l ++ [⟨acc8 (r.taken 1), []⟩], ?_, ?_⟩
      · simp only [capsRead.l1]
        rw [if_pos hpos, if_pos (by simp at hl; omega), ht, err_took he, err_taken he]
        exact err_l1 he _ _
      · simp only [capsIn]
        exact he
    · have h2 : On ((r.took 1).took 1) t := h1.next (n := 1) (by omega) (by simp only [List.length_cons]; omega)
      have t2 : (r.took 1).taken 1 = [m] := by rw [h1.taken (by omega) (by simp only [List.length_cons]; omega)]; rfl
      have hm : 0 ≤ m := hb m (by simp)
      simp only [List.length_cons] at hs hf hk hl
      simp only [capsRead.l1, capsIn]
      rw [if_pos hpos, if_pos (by omega), t1, t2, acc8_one, acc8_one]
      by_cases hle : m.toNat ≤ t.length
      · rw [if_pos hle, h2.taken hm (by omega)]
        have h3 := h2.next hm (by omega)
        have hln : (t.drop m.toNat).length ≤ t.length := by rw [List.length_drop]; omega
        obtain ⟨r', l', e1, e2⟩ := ih (t.drop m.toNat) (by omega) (fun x hx => hb x (List.mem_cons_of_mem _ (List.mem_cons_of_mem _ (List.mem_of_mem_drop hx)))) f k (((r.took 1).took 1).took m) (l ++ [⟨c, t.take m.toNat⟩]) (by omega) (by omega) h3 (by rw [List.length_append]; simp only [List.length_cons, List.length_nil]; omega)
        refine ⟨r', l', e1, ?_⟩
        cases hc : capsIn f (t.drop m.toNat) with
        | none => rw [hc] at e2; exact e2
        | some l2 =>
          rw [hc] at e2
          simp only [Option.map_some]
          refine ⟨?_, by rw [e2.2]; simp⟩
          rw [e2.1, h2.set_at hm (by omega), h1.set_at (by omega) (by simp only [List.length_cons]; omega), h.set_at (by omega) (by simp only [List.length_cons]; omega)]
      · rw [if_neg hle]
        obtain ⟨he, ht⟩ := h2.tookNot (n := m) (by omega)
        obtain ⟨k, rfl⟩ : ∃ m, k = m + 1 := ⟨k - 1, by omega⟩
        exact ⟨_, _, err_l1 he k _, he⟩

theorem capsIn_len : ∀ (f : Nat) (s : List Int) (l : List PA.S61), capsIn f s = some l → l.length ≤ s.length := by
  intro f
  induction f with
  | zero => intro s l h; cases h
  | succ f ih =>
    intro s l h
    rcases s with _ | ⟨c, s⟩
    · simp only [capsIn] at h
      injection h with h
      subst h
      simp
    rcases s with _ | ⟨m, t⟩
    · cases h
    simp only [capsIn] at h
    split at h
    · obtain ⟨l2, h2, rfl⟩ := Option.map_eq_some_iff.1 h
      have := ih _ _ h2
      rw [List.length_drop] at this
      simp only [List.length_cons]
      omega
    · cases h

/-- The reader of all bytes, at a place. -/
def R1 (b : List Int) (a : Int) : Rdr := ⟨b, a, [(b.length : Int)], 0⟩
theorem R1_on (b : List Int) (a : Nat) (h : a ≤ b.length) : On (R1 b a) (b.drop a) := by
  refine ⟨rfl, Int.natCast_nonneg _, ?_, Int.le_refl _, ?_⟩
  · show (a : Int) ≤ (b.length : Int)
    omega
  · show (b.take ((b.length : Int)).toNat).drop ((a : Int)).toNat = _
    simp
theorem R1_new (b : List Int) : Rdr.new b = R1 b 0 := rfl

theorem R1_took (b : List Int) (a : Nat) (n : Nat) (h : a + n ≤ b.length) : (R1 b a).took n = R1 b ((a + n : Nat) : Int) := by
  rw [(R1_on b a (by omega)).took (Int.natCast_nonneg _) (by rw [List.length_drop]; omega)]
  simp [R1]

/-- A block within all bytes. -/
def R2 (b : List Int) (a z : Int) : Rdr := ⟨b, a, [(b.length : Int), z], 0⟩
theorem R2_on (b : List Int) (a n : Nat) (h : a + n ≤ b.length) : On (R2 b a ((a + n : Nat) : Int)) ((b.drop a).take n) := by
  refine ⟨rfl, Int.natCast_nonneg _, ?_, ?_, ?_⟩
  · show (a : Int) ≤ ((a + n : Nat) : Int)
    omega
  · show ((a + n : Nat) : Int) ≤ (b.length : Int)
    omega
  · show (b.take (((a + n : Nat) : Int)).toNat).drop ((a : Int)).toNat = _
    rw [Int.toNat_natCast, Int.toNat_natCast, List.take_drop]
theorem R1_opened (b : List Int) (a n : Nat) (h : a + n ≤ b.length) : (R1 b a).opened n = R2 b a ((a + n : Nat) : Int) := by
  unfold Rdr.opened
  rw [(R1_on b a (by omega)).has (Int.natCast_nonneg _) (by rw [List.length_drop]; omega)]
  simp [R1, R2]
theorem R2_closed (b : List Int) (z : Int) : (R2 b z z).closed = R1 b z := by
  have hw : (R2 b z z).within = R2 b z z := if_neg (by simp [R2])
  have hl : (R2 b z z).left = 0 := by simp [Rdr.left, R2, Rdr.last]
  have hs : (R2 b z z).shutE = R2 b z z := by
    unfold Rdr.shutE
    rw [hw, hl, if_neg (by omega)]
  unfold Rdr.closed
  rw [hs]
  simp [R1, R2]

theorem l0_of (b : List Int) (hb : ∀ x, x ∈ b → 0 ≤ x) (hbl : b.length < 4398046511104) : ∀ (n a : Nat), b.length - a ≤ n → a ≤ b.length → ∀ (f k : Nat) (l : List PA.S61), b.length - a < f → b.length - a < k → l.length + (b.length - a) < 4398046511104 →
    capsRead.l0 k (R1 b a) l = some (capsAns l (capsOut f (b.drop a))) := by
  intro n
  induction n with
  | zero =>
    intro a hn ha f k l hf hk hl
    obtain rfl : a = b.length := by omega
    obtain ⟨f, rfl⟩ : ∃ m, f = m + 1 := ⟨f - 1, by omega⟩
    obtain ⟨k, rfl⟩ : ∃ m, k = m + 1 := ⟨k - 1, by omega⟩
    have h := R1_on b b.length (Nat.le_refl _)
    simp only [capsRead.l0]
    rw [h.left, if_neg (by simp), if_pos h.e]
    simp [capsOut, capsAns]
  | succ n ih =>
    intro a hn ha f k l hf hk hl
    obtain ⟨f, rfl⟩ : ∃ m, f = m + 1 := ⟨f - 1, by omega⟩
    obtain ⟨k, rfl⟩ : ∃ m, k = m + 1 := ⟨k - 1, by omega⟩
    have h := R1_on b a ha
    have hbs : ∀ x, x ∈ b.drop a → 0 ≤ x := fun x hx => hb x (List.mem_of_mem_drop hx)
    have hsl : (b.drop a).length = b.length - a := List.length_drop
    have hdd : ∀ i, (b.drop a).drop i = b.drop (a + i) := fun i => by rw [List.drop_drop]
    simp only [capsRead.l0]
    obtain ⟨s, hs⟩ : ∃ s, b.drop a = s := ⟨_, rfl⟩
    rw [hs] at h hbs hsl hdd ⊢
    rcases s with _ | ⟨t, s⟩
    · rw [h.left, if_neg (by simp), if_pos h.e]
      simp [capsOut, capsAns]
    have hpos : 0 < (R1 b a).left := by rw [h.left]; simp only [List.length_cons]; omega
    have h1 : On ((R1 b a).took 1) s := h.next (n := 1) (by omega) (by simp only [List.length_cons]; omega)
    have t1 : (R1 b a).taken 1 = [t] := by rw [h.taken (by omega) (by simp only [List.length_cons]; omega)]; rfl
    simp only [List.length_cons] at hsl
    have k1 : (R1 b a).took 1 = R1 b ((a + 1 : Nat) : Int) := R1_took b a 1 (by omega)
    rw [if_pos hpos]
    rcases s with _ | ⟨m, s⟩
    · obtain ⟨he, ht⟩ := h1.tookNot (n := 1) (by simp)
      have hop : capsRead.op (R1 b a) = ((R1 b a).took 1).took 1 := by
        unfold capsRead.op
        rw [ht, err_opened he]
      have hen : (((R1 b a).took 1).took 1).ends.length < 1000000 := by
        rw [took_ends, took_ends]
        show 1 < 1000000
        omega
      rw [if_pos hen, hop, if_neg (fun h2 => he h2.1)]
      obtain ⟨k, rfl⟩ : ∃ m, k = m + 1 := ⟨k - 1, by omega⟩
      rw [err_l1 he, Option.bind_some, err_closed he, err_l0 he]
      simp [capsOut, capsAns]
    · have h2 : On (((R1 b a).took 1).took 1) s := h1.next (n := 1) (by omega) (by simp only [List.length_cons]; omega)
      have t2 : ((R1 b a).took 1).taken 1 = [m] := by rw [h1.taken (by omega) (by simp only [List.length_cons]; omega)]; rfl
      simp only [List.length_cons] at hsl
      have k2 : ((R1 b a).took 1).took 1 = R1 b ((a + 2 : Nat) : Int) := by rw [k1]; exact R1_took b (a + 1) 1 (by omega)
      have hm : 0 ≤ m := hbs m (by simp)
      have hop : capsRead.op (R1 b a) = (((R1 b a).took 1).took 1).opened m := by unfold capsRead.op; rw [t2, acc8_one]
      rw [if_pos (show (((R1 b a).took 1).took 1).ends.length < 1000000 by rw [k2]; show 1 < 1000000; omega), t1, acc8_one, hop]
      simp only [capsOut]
      by_cases hle : m.toNat ≤ s.length
      · have hr2 : (((R1 b a).took 1).took 1).opened m = R2 b ((a + 2 : Nat) : Int) ((a + 2 + m.toNat : Nat) : Int) := by
          rw [k2]
          have := R1_opened b (a + 2) m.toNat (by omega)
          rw [show ((m.toNat : Nat) : Int) = m by omega] at this
          exact this
        have hs2 : b.drop (a + 2) = s := by rw [← hdd 2]; rfl
        have hon := R2_on b (a + 2) m.toNat (by omega)
        rw [hs2] at hon
        rw [hr2, if_pos hle]
        by_cases ht : t = 2
        · rw [if_neg (fun h3 => h3.2 ht), if_pos ht]
          obtain ⟨r', l', e1, e2⟩ := l1_of s.length (s.take m.toNat) (by rw [List.length_take]; omega) (fun x hx => hbs x (List.mem_cons_of_mem _ (List.mem_cons_of_mem _ (List.mem_of_mem_take hx)))) (f + 1) k _ l (by rw [List.length_take]; omega) (by rw [List.length_take]; omega) hon (by rw [List.length_take]; omega)
          rw [e1, Option.bind_some]
          cases hc : capsIn (f + 1) (s.take m.toNat) with
          | none =>
            rw [hc] at e2
            obtain ⟨k, rfl⟩ : ∃ m, k = m + 1 := ⟨k - 1, by omega⟩
            rw [err_closed e2, err_l0 e2]
            simp [capsAns]
          | some l2 =>
            rw [hc] at e2
            obtain ⟨e3, e4⟩ := e2
            have hcl : r'.closed = R1 b ((a + 2 + m.toNat : Nat) : Int) := by
              rw [e3]
              exact R2_closed b _
            rw [hcl]
            have hll : l2.length ≤ (s.take m.toNat).length := by
              exact capsIn_len _ _ _ hc
            have := ih (a + 2 + m.toNat) (by omega) (by omega) f k l' (by omega) (by omega) (by rw [e4, List.length_append]; rw [List.length_take] at hll; omega)
            rw [this, show b.drop (a + 2 + m.toNat) = s.drop m.toNat by rw [← hs2, List.drop_drop], e4]
            cases capsOut f (s.drop m.toNat) with
            | error x => simp [capsAns]
            | ok l3 => simp [capsAns]
        · rw [if_pos ⟨rfl, ht⟩, if_neg ht]
          simp [capsAns]
      · rw [if_neg hle]
        have he : ((((R1 b a).took 1).took 1).opened m).e ≠ 0 := by
          unfold Rdr.opened
          rw [if_neg (h2.hasNot (by omega))]
          exact h2.hasNot (by omega)
        obtain ⟨k, rfl⟩ : ∃ m, k = m + 1 := ⟨k - 1, by omega⟩
        rw [if_neg (fun h3 => he h3.1), err_l1 he, Option.bind_some, err_closed he, err_l0 he]
        simp [capsAns]

/-- caps.Read of bytes. -/
theorem capsRead_of (b : List Int) (hb : ∀ x, x ∈ b → 0 ≤ x) (hbl : b.length < 4398046511104) : capsRead.f (b.length + 1) b = some (capsAns [] (capsOut (b.length + 1) b)) := by
  have := l0_of b hb hbl b.length 0 (by omega) (by omega) (b.length + 1) (b.length + 1) [] (by omega) (by omega) (by simp; omega)
  rw [capsRead.f, R1_new]
  exact this

def cap99 (x : PA.S61) : PA.S99 := ⟨x.f0, x.f1⟩
def refAns (l : List PA.S99) : Except Int (List PA.S61) → List PA.S99 × Int × Int
  | .ok l' => (l ++ l'.map cap99, 0, 0)
  | .error x => ([], 2, x)

theorem w64 {n : Int} (h0 : -9223372036854775808 ≤ n) (h1 : n ≤ 9223372036854775807) : wrap64 n = n := by unfold wrap64; omega
theorem rd_drop {b s : List Int} {a : Nat} {t : Int} (h : b.drop a = t :: s) : rd b (a : Int) = t := by
  rw [rd, Int.toNat_natCast, List.getD_eq_getElem?_getD]
  have : (b.drop a)[0]? = some t := by rw [h]; rfl
  rw [List.getElem?_drop] at this
  rw [show a = a + 0 by omega, this]
  rfl
theorem drop_len {b s : List Int} {a : Nat} (h : b.drop a = s) (ha : a ≤ b.length) : b.length = a + s.length := by
  rw [← h, List.length_drop]; omega

theorem ref_l1 (b : List Int) (hb : ∀ x, x ∈ b → 0 ≤ x ∧ x < 256) (hbl : b.length < 4398046511104) : ∀ (n a z : Nat), z - a ≤ n → a ≤ z → z ≤ b.length → ∀ (f k : Nat) (l : List PA.S99), z - a < f → z - a < k → l.length + (z - a) < 4398046511104 →
    match capsIn f ((b.drop a).take (z - a)) with
      | some l2 => ∃ k', k ≤ k' + (z - a) + 1 ∧ PA.consulateref05_Read.l1 k b l a z = PA.consulateref05_Read.l0 k' b (l ++ l2.map cap99) z
      | none => PA.consulateref05_Read.l1 k b l a z = some ([], 2, 0) := by
  intro n
  induction n with
  | zero =>
    intro a z hn haz hz f k l hf hk hl
    obtain rfl : a = z := by omega
    obtain ⟨f, rfl⟩ : ∃ m, f = m + 1 := ⟨f - 1, by omega⟩
    obtain ⟨k, rfl⟩ : ∃ m, k = m + 1 := ⟨k - 1, by omega⟩
    rw [Nat.sub_self, List.take_zero]
    simp only [capsIn]
    refine ⟨k, by omega, ?_⟩
    simp only [PA.consulateref05_Read.l1]
    rw [if_neg (by omega)]
    simp
  | succ n ih =>
    intro a z hn haz hz f k l hf hk hl
    obtain ⟨f, rfl⟩ : ∃ m, f = m + 1 := ⟨f - 1, by omega⟩
    obtain ⟨k, rfl⟩ : ∃ m, k = m + 1 := ⟨k - 1, by omega⟩
    by_cases haz0 : a = z
    · subst haz0
      rw [Nat.sub_self, List.take_zero]
      simp only [capsIn]
      refine ⟨k, by omega, ?_⟩
      simp only [PA.consulateref05_Read.l1]
      rw [if_neg (by omega)]
      simp
    obtain ⟨d, hd⟩ : ∃ d, b.drop a = d := ⟨_, rfl⟩
    have hdl := drop_len hd (by omega)
    rw [hd]
    rcases d with _ | ⟨c, d⟩
    · simp at hdl; omega
    have hr1 := rd_drop hd
    have hd1 : b.drop (a + 1) = d := by rw [show a + 1 = a + 1 from rfl, ← List.drop_drop, hd]; rfl
    simp only [List.length_cons] at hdl
    by_cases h1 : z = a + 1
    · subst h1
      rw [show a + 1 - a = 1 by omega]
      simp only [List.take_succ_cons, List.take_zero, capsIn]
      simp only [PA.consulateref05_Read.l1]
      rw [if_pos (by omega), w64 (by omega) (by omega), if_pos (by omega)]
    rcases d with _ | ⟨m, d⟩
    · simp at hdl; omega
    have hr2 : rd b ((a : Int) + 1) = m := by
      have := rd_drop hd1
      rw [← this]
      congr 1
    have hm := hb m (by rw [← List.take_append_drop a b, hd]; simp)
    have hd2 : b.drop (a + 2) = d := by rw [show a + 2 = a + 1 + 1 from rfl, ← List.drop_drop, hd1]; rfl
    simp only [List.length_cons] at hdl
    obtain ⟨j, hj⟩ : ∃ j, z - a = j + 2 := ⟨z - a - 2, by omega⟩
    rw [hj]
    simp only [List.take_succ_cons, capsIn]
    rw [List.length_take]
    by_cases hle : m.toNat ≤ min j d.length
    · rw [if_pos hle]
      simp only [PA.consulateref05_Read.l1]
      rw [if_pos (by omega), w64 (n := (a : Int) + 2) (by omega) (by omega), if_neg (by omega), w64 (n := (a : Int) + 1) (by omega) (by omega), if_pos (by omega), if_pos (by omega), hr2, hr1, w64 (n := m) (by omega) (by omega), w64 (n := (a : Int) + 2 + m) (by omega) (by omega)]
      rw [if_neg (by omega), if_pos (by omega), if_pos (by omega), if_pos (by omega), if_pos (by omega), if_pos (by omega), if_pos (by omega)]
      have hsl : ((b.take ((a : Int) + 2 + m).toNat).drop ((a : Int) + 2).toNat) = (d.take j).take m.toNat := by
        rw [show ((a : Int) + 2).toNat = a + 2 by omega, show ((a : Int) + 2 + m).toNat = (a + 2) + m.toNat by omega, ← List.take_drop, hd2, List.take_take]
        congr 1
        omega
      have hnx : (d.take j).drop m.toNat = (b.drop (a + 2 + m.toNat)).take (z - (a + 2 + m.toNat)) := by
        rw [← List.drop_drop, hd2, List.drop_take]
        congr 1
        omega
      have := ih (a + 2 + m.toNat) z (by omega) (by omega) hz f k (l ++ [cap99 ⟨c, (d.take j).take m.toNat⟩]) (by omega) (by omega) (by rw [List.length_append]; simp only [List.length_cons, List.length_nil]; omega)
      rw [← hnx] at this
      rw [hsl, show ((a : Int) + 2 + m) = ((a + 2 + m.toNat : Nat) : Int) by omega]
      cases hc : capsIn f ((d.take j).drop m.toNat) with
      | none =>
        rw [hc] at this
        exact this
      | some l2 =>
        rw [hc] at this
        obtain ⟨k', h2, h3⟩ := this
        simp only [Option.map_some]
        refine ⟨k', by omega, ?_⟩
        rw [show l ++ List.map cap99 (⟨c, (d.take j).take m.toNat⟩ :: l2) = l ++ [cap99 ⟨c, (d.take j).take m.toNat⟩] ++ l2.map cap99 by simp]
        exact h3
    · rw [if_neg hle]
      simp only [PA.consulateref05_Read.l1]
      rw [if_pos (by omega), w64 (n := (a : Int) + 2) (by omega) (by omega), if_neg (by omega), w64 (n := (a : Int) + 1) (by omega) (by omega), if_pos (by omega), if_pos (by omega), hr2, hr1, w64 (n := m) (by omega) (by omega), w64 (n := (a : Int) + 2 + m) (by omega) (by omega)]
      rw [if_pos (by omega)]

theorem ref_l0 (b : List Int) (hb : ∀ x, x ∈ b → 0 ≤ x ∧ x < 256) (hbl : b.length < 4398046511104) : ∀ (n a : Nat), b.length - a ≤ n → a ≤ b.length → ∀ (f k : Nat) (l : List PA.S99), b.length - a < f → 2 * (b.length - a) + 1 < k → l.length + (b.length - a) < 4398046511104 →
    PA.consulateref05_Read.l0 k b l a = some (refAns l (capsOut f (b.drop a))) := by
  intro n
  induction n with
  | zero =>
    intro a hn ha f k l hf hk hl
    obtain rfl : a = b.length := by omega
    obtain ⟨f, rfl⟩ : ∃ m, f = m + 1 := ⟨f - 1, by omega⟩
    obtain ⟨k, rfl⟩ : ∃ m, k = m + 1 := ⟨k - 1, by omega⟩
    simp only [PA.consulateref05_Read.l0]
    rw [if_neg (by omega)]
    simp [capsOut, refAns]
  | succ n ih =>
    intro a hn ha f k l hf hk hl
    obtain ⟨f, rfl⟩ : ∃ m, f = m + 1 := ⟨f - 1, by omega⟩
    obtain ⟨k, rfl⟩ : ∃ m, k = m + 1 := ⟨k - 1, by omega⟩
    by_cases haz0 : a = b.length
    · subst haz0
      simp only [PA.consulateref05_Read.l0]
      rw [if_neg (by omega)]
      simp [capsOut, refAns]
    obtain ⟨d, hd⟩ : ∃ d, b.drop a = d := ⟨_, rfl⟩
    have hdl := drop_len hd (by omega)
    rw [hd]
    rcases d with _ | ⟨t, d⟩
    · simp at hdl; omega
    have hr1 := rd_drop hd
    have hd1 : b.drop (a + 1) = d := by rw [show a + 1 = a + 1 from rfl, ← List.drop_drop, hd]; rfl
    simp only [List.length_cons] at hdl
    obtain ⟨k, rfl⟩ : ∃ m, k = m + 1 := ⟨k - 1, by omega⟩
    simp only [PA.consulateref05_Read.l0]
    rw [if_pos (by omega), w64 (n := (a : Int) + 2) (by omega) (by omega)]
    rcases d with _ | ⟨m, d⟩
    · simp only [List.length_nil] at hdl
      rw [if_pos (by omega)]
      simp [PA.consulateref05_Read.j1, capsOut, refAns]
    have hr2 : rd b ((a : Int) + 1) = m := by
      have := rd_drop hd1
      rw [← this]
      congr 1
    have hm := hb m (by rw [← List.take_append_drop a b, hd]; simp)
    have hd2 : b.drop (a + 2) = d := by rw [show a + 2 = a + 1 + 1 from rfl, ← List.drop_drop, hd1]; rfl
    simp only [List.length_cons] at hdl
    rw [if_neg (by omega), w64 (n := (a : Int) + 1) (by omega) (by omega), if_pos (by omega), if_pos (by omega), hr2, w64 (n := m) (by omega) (by omega), w64 (n := (a : Int) + 2 + m) (by omega) (by omega)]
    by_cases hle : m.toNat ≤ d.length
    · have hR : capsOut (f + 1) (t :: m :: d) = if t = 2 then match capsIn (f + 1) (d.take m.toNat) with
        | none => .error 0
        | some l => match capsOut f (d.drop m.toNat) with
          | .ok l' => .ok (l ++ l')
          | .error x => .error x
      else .error 4 := by simp only [capsOut]; rw [if_pos hle]; try rfl
      rw [hR]
      simp only [PA.consulateref05_Read.j1]
      rw [if_neg (by simp; omega), if_pos (by omega), if_pos (by omega), hr1]
      by_cases ht : t = 2
      · rw [if_pos ht, if_pos ht, w64 (n := (a : Int) + 1) (by omega) (by omega), if_pos (by omega), if_pos (by omega), hr2, w64 (n := (a : Int) + 2) (by omega) (by omega), w64 (n := m) (by omega) (by omega), w64 (n := (a : Int) + 2 + m) (by omega) (by omega)]
        have := ref_l1 b hb hbl m.toNat (a + 2) (a + 2 + m.toNat) (by omega) (by omega) (by omega) (f + 1) k l (by omega) (by omega) (by omega)
        rw [hd2, show a + 2 + m.toNat - (a + 2) = m.toNat by omega] at this
        rw [show ((a : Int) + 2 + m) = ((a + 2 + m.toNat : Nat) : Int) by omega, show ((a : Int) + 2) = ((a + 2 : Nat) : Int) by omega]
        cases hc : capsIn (f + 1) (d.take m.toNat) with
        | none =>
          rw [hc] at this
          rw [this]
          simp [refAns]
        | some l2 =>
          rw [hc] at this
          obtain ⟨k', h2, h3⟩ := this
          have hll := capsIn_len _ _ _ hc
          rw [List.length_take] at hll
          rw [h3, ih (a + 2 + m.toNat) (by omega) (by omega) f k' _ (by omega) (by omega) (by rw [List.length_append, List.length_map]; omega), show b.drop (a + 2 + m.toNat) = d.drop m.toNat by rw [← hd2, List.drop_drop]]
          cases capsOut f (d.drop m.toNat) with
          | error x => simp [refAns]
          | ok l3 => simp [refAns]
      · rw [if_neg ht, if_neg ht]
        simp [refAns]
    · have hR : capsOut (f + 1) (t :: m :: d) = .error 0 := by simp only [capsOut]; rw [if_neg hle]
      rw [hR]
      simp only [PA.consulateref05_Read.j1]
      rw [if_pos (by simp; omega)]
      simp [refAns]

theorem ref_of (b : List Int) (hb : ∀ x, x ∈ b → 0 ≤ x ∧ x < 256) (hbl : b.length < 4398046511104) : PA.consulateref05_Read.f (2 * b.length + 2) b = some (refAns [] (capsOut (b.length + 1) b)) :=
  ref_l0 b hb hbl b.length 0 (by omega) (by omega) (b.length + 1) (2 * b.length + 2) [] (by omega) (by omega) (by simp; omega)

theorem of_l0 (l : List PA.S61) (hl : l.length < 4398046511104) : ∀ (n a : Nat), l.length - a ≤ n → a ≤ l.length → ∀ k, l.length - a < k →
    PA.consulatelaw05_of.l0 k ((l.take a).map cap99) l (l.length : Int) a = some (l.map cap99) := by
  intro n
  induction n with
  | zero =>
    intro a hn ha k hk
    obtain rfl : a = l.length := by omega
    obtain ⟨k, rfl⟩ : ∃ m, k = m + 1 := ⟨k - 1, by omega⟩
    simp only [PA.consulatelaw05_of.l0]
    rw [if_neg (by omega), List.take_length]
  | succ n ih =>
    intro a hn ha k hk
    obtain ⟨k, rfl⟩ : ∃ m, k = m + 1 := ⟨k - 1, by omega⟩
    by_cases h : a = l.length
    · subst h
      simp only [PA.consulatelaw05_of.l0]
      rw [if_neg (by omega), List.take_length]
    · simp only [PA.consulatelaw05_of.l0]
      rw [if_pos (by omega), if_pos (by omega), if_pos (by omega), if_pos (by rw [List.length_map, List.length_take]; omega), w64 (by omega) (by omega)]
      have := ih (a + 1) (by omega) (by omega) k (by omega)
      rw [List.take_succ_eq_append_getElem (by omega), List.map_append, List.map_cons, List.map_nil] at this
      have hx : PA.rd_T61 l (a : Int) = l[a] := by rw [PA.rd_T61, Int.toNat_natCast, List.getD_eq_getElem?_getD, List.getElem?_eq_getElem (by omega)]; rfl
      rw [hx]
      exact this
theorem of_of (l : List PA.S61) (hl : l.length < 4398046511104) : PA.consulatelaw05_of.f (l.length + 1) l = some (l.map cap99) :=
  of_l0 l hl l.length 0 (by omega) (by omega) _ (by omega)

theorem same_l0 (l : List PA.S99) (hl : l.length < 4398046511104) : ∀ (n a : Nat), l.length - a ≤ n → a ≤ l.length → ∀ k, l.length - a < k →
    PA.consulatelaw05_same.l0 k l l (l.length : Int) a = some true := by
  intro n
  induction n with
  | zero =>
    intro a hn ha k hk
    obtain rfl : a = l.length := by omega
    obtain ⟨k, rfl⟩ : ∃ m, k = m + 1 := ⟨k - 1, by omega⟩
    simp only [PA.consulatelaw05_same.l0]
    rw [if_neg (by omega)]
  | succ n ih =>
    intro a hn ha k hk
    obtain ⟨k, rfl⟩ : ∃ m, k = m + 1 := ⟨k - 1, by omega⟩
    by_cases h : a = l.length
    · subst h
      simp only [PA.consulatelaw05_same.l0]
      rw [if_neg (by omega)]
    · simp only [PA.consulatelaw05_same.l0, PA.bytes_Equal.f]
      rw [if_pos (by omega), if_pos (by omega), if_pos (by omega), if_pos (by omega), if_pos True.intro, w64 (by omega) (by omega)]
      simp only [Option.bind_some, beq_self_eq_true, if_true]
      exact ih (a + 1) (by omega) (by omega) k (by omega)
theorem same_of (l : List PA.S99) (hl : l.length < 4398046511104) : PA.consulatelaw05_same.f (l.length + 1) l l = some true := by
  unfold PA.consulatelaw05_same.f
  rw [if_pos rfl]
  exact same_l0 l hl l.length 0 (by omega) (by omega) _ (by omega)
theorem equal_of (l : List Int) : PA.bytes_Equal.f l l = some true := by simp [PA.bytes_Equal.f]

theorem capsOut_len : ∀ (f : Nat) (s : List Int) (l : List PA.S61), capsOut f s = .ok l → l.length ≤ s.length := by
  intro f
  induction f with
  | zero => intro s l h; cases h
  | succ f ih =>
    intro s l h
    rcases s with _ | ⟨t, s⟩
    · simp only [capsOut] at h
      injection h with h
      subst h
      simp
    rcases s with _ | ⟨m, d⟩
    · simp only [capsOut] at h
      cases h
    simp only [capsOut] at h
    split at h
    case isFalse => cases h
    split at h
    case isFalse => cases h
    split at h
    · cases h
    · rename_i l1 hc
      split at h
      · rename_i l2 h2
        injection h with h
        subst h
        have h3 := capsIn_len _ _ _ hc
        have h4 := ih _ _ h2
        rw [List.length_take] at h3
        rw [List.length_drop] at h4
        rw [List.length_append]
        simp only [List.length_cons]
        omega
      · cases h
theorem capsOut_err : ∀ (f : Nat) (s : List Int) (x : Int), capsOut f s = .error x → x = 0 ∨ x = 4 := by
  intro f
  induction f with
  | zero =>
    intro s x h
    injection h with h
    exact .inl h.symm
  | succ f ih =>
    intro s x h
    rcases s with _ | ⟨t, s⟩
    · simp only [capsOut] at h
      cases h
    rcases s with _ | ⟨m, d⟩
    · simp only [capsOut] at h
      injection h with h
      exact .inl h.symm
    simp only [capsOut] at h
    split at h
    case isFalse =>
      injection h with h
      exact .inl h.symm
    split at h
    case isFalse =>
      injection h with h
      exact .inr h.symm
    split at h
    · injection h with h
      exact .inl h.symm
    · split at h
      · cases h
      · rename_i y h2
        injection h with h
        subst h
        exact ih _ _ h2
end Go.Proofs.YthafedmlbialiaaDoor
