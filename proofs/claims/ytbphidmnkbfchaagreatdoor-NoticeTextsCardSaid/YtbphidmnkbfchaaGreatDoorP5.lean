/-
  Plain: a reader without an error, and what is left of it.
-/
import Derived.Test.YtbphidmnkbfchaaGreatDoorR0
namespace Go.Proofs.YtbphidmnkbfchaaGreatDoor
open Go.RowKit Go.Proofs.YtbphidmnkbfchaaGreatDoorW.PrintWords
set_option linter.unusedVariables false
set_option linter.unusedSimpArgs false

/-! ### A reader without an error: what is left of its innermost block -/
structure On (r : Rdr) (s : List Int) : Prop where
  e : r.e = 0
  at_ : 0 ≤ r.at_
  le : r.at_ ≤ r.last
  last : r.last ≤ r.b.length
  rest : (r.b.take r.last.toNat).drop r.at_.toNat = s
theorem On.left {r : Rdr} {s : List Int} (h : On r s) : r.left = s.length := by
  have h1 := h.at_
  have h2 := h.le
  have h3 := h.last
  unfold Rdr.left
  rw [if_pos h.e, ← h.rest, List.length_drop, List.length_take]
  omega
theorem On.has {r : Rdr} {s : List Int} (h : On r s) {n : Int} (h0 : 0 ≤ n) (h1 : n ≤ s.length) : r.has n = r := by
  unfold Rdr.has
  rw [h.left, if_neg (by omega)]
theorem On.hasNot {r : Rdr} {s : List Int} (h : On r s) {n : Int} (h1 : (s.length : Int) < n) : (r.has n).e ≠ 0 := by
  unfold Rdr.has
  rw [h.left, if_pos (.inr h1)]
  exact Rdr.fail_e (by decide)
theorem On.took {r : Rdr} {s : List Int} (h : On r s) {n : Int} (h0 : 0 ≤ n) (h1 : n ≤ s.length) : r.took n = { r with at_ := r.at_ + n } := by
  unfold Rdr.took
  rw [h.has h0 h1, if_pos h.e]
theorem On.tookNot {r : Rdr} {s : List Int} (h : On r s) {n : Int} (h1 : (s.length : Int) < n) : (r.took n).e ≠ 0 ∧ r.taken n = [] := by
  unfold Rdr.took Rdr.taken
  rw [if_neg (h.hasNot h1), if_neg (h.hasNot h1)]
  exact ⟨h.hasNot h1, rfl⟩
theorem On.next {r : Rdr} {s : List Int} (h : On r s) {n : Int} (h0 : 0 ≤ n) (h1 : n ≤ s.length) : On (r.took n) (s.drop n.toNat) := by
  have hl := h.left
  unfold Rdr.left at hl
  rw [if_pos h.e] at hl
  have h2 := h.at_
  rw [h.took h0 h1]
  refine ⟨h.e, show 0 ≤ r.at_ + n by omega, show r.at_ + n ≤ r.last by omega, h.last, ?_⟩
  show (r.b.take r.last.toNat).drop (r.at_ + n).toNat = _
  rw [← h.rest, List.drop_drop]
  congr 1
  omega
theorem On.taken {r : Rdr} {s : List Int} (h : On r s) {n : Int} (h0 : 0 ≤ n) (h1 : n ≤ s.length) : r.taken n = s.take n.toNat := by
  have hl := h.left
  unfold Rdr.left at hl
  rw [if_pos h.e] at hl
  have h2 := h.at_
  unfold Rdr.taken
  rw [h.has h0 h1, if_pos h.e, ← h.rest, List.take_drop, List.take_take]
  congr 2
  omega

/-- What a byte's taking answers. -/
theorem acc8_one (x : Int) : acc8 [x] = x := by simp [acc8]
theorem acc8_nil : acc8 [] = 0 := rfl
theorem On.last_took {r : Rdr} {s : List Int} (h : On r s) {n : Int} (h0 : 0 ≤ n) (h1 : n ≤ s.length) : (r.took n).last = r.last ∧ (r.took n).ends = r.ends ∧ (r.took n).b = r.b := by
  rw [h.took h0 h1]
  exact ⟨rfl, rfl, rfl⟩
theorem On.fin {r : Rdr} (h : On r []) : ({ r with at_ := r.last } : Rdr) = r := by
  have hl := h.left
  unfold Rdr.left at hl
  rw [if_pos h.e] at hl
  have : r.last = r.at_ := by simp at hl; omega
  rw [this]
theorem On.set_at {r : Rdr} {s : List Int} (h : On r s) {n : Int} (h0 : 0 ≤ n) (h1 : n ≤ s.length) : ({ r.took n with at_ := (r.took n).last } : Rdr) = { r with at_ := r.last } := by
  rw [h.took h0 h1]
  rfl

def R1 (b : List Int) (a : Int) : Rdr := ⟨b, a, [(b.length : Int)], 0⟩
theorem R1_on (b : List Int) (a : Nat) (h : a ≤ b.length) : On (R1 b a) (b.drop a) := by
  refine ⟨rfl, Int.natCast_nonneg _, ?_, Int.le_refl _, ?_⟩
  · show (a : Int) ≤ (b.length : Int)
    omega
  · show (b.take ((b.length : Int)).toNat).drop ((a : Int)).toNat = _
    simp
theorem R1_new (b : List Int) : Rdr.new b = R1 b 0 := rfl

theorem R1_took (b : List Int) (a : Nat) (n : Nat) (h : a + n ≤ b.length) : (R1 b a).took n = R1 b ((a + n : Nat) : Int) := by
  rw [(R1_on b a (by omega)).took (Int.natCast_nonneg _) (by rw [List.length_drop]; omega)]
  simp [R1]


theorem Rdr.new_on (b : List Int) : On (Rdr.new b) b := by
  have h := R1_on b 0 (by omega)
  rw [List.drop_zero] at h
  exact h
theorem RByte_on {w : World} {B g : Nat} {r : Rdr} {a : Int} {s : List Int} (h : IsR w B g r) (ho : On r (a :: s)) :
    Calls Tryz.prog 48 #[.pointer (some ⟨g, 0, none⟩)] w fun e w' => e = .returned (.int .u8 a) ∧ IsR w' B g (r.took 1) ∧ On (r.took 1) s ∧ KT B [175] w w' := by
  have h1 := ho.taken (n := 1) (by omega) (by simp; omega)
  have h2 := ho.next (n := 1) (by omega) (by simp; omega)
  refine (RByte_calls w B g r h).mono fun e w' ⟨he, hr, hk⟩ => ⟨?_, hr, h2, hk⟩
  rw [he, h1]
  simp [acc8]
theorem RTwo_on {w : World} {B g : Nat} {r : Rdr} {a b : Int} {s : List Int} (h : IsR w B g r) (ho : On r (a :: b :: s)) (ha : 0 ≤ a ∧ a < 256) (hb : 0 ≤ b ∧ b < 256) :
    Calls Tryz.prog 35 #[.pointer (some ⟨g, 0, none⟩)] w fun e w' => e = .returned (.int .u16 (a * 256 + b)) ∧ IsR w' B g (r.took 2) ∧ On (r.took 2) s ∧ KT B [175] w w' := by
  have h1 := ho.taken (n := 2) (by omega) (by simp; omega)
  have h2 := ho.next (n := 2) (by omega) (by simp; omega)
  refine (RTwo_calls w B g r h).mono fun e w' ⟨he, hr, hk⟩ => ⟨?_, hr, h2, hk⟩
  rw [he, h1]
  have : acc16 [a, b] = a * 256 + b := by simp [acc16]; omega
  simp [this]
theorem Rest_on {w : World} {B g : Nat} {r : Rdr} {s : List Int} (h : IsR w B g r) (ho : On r s) :
    Calls Tryz.prog 39 #[.pointer (some ⟨g, 0, none⟩)] w fun e w' => ∃ v, e = .returned v ∧ (Kd.int .u8).R 5 w' B (fun _ => True) v s ∧ KT B [175] w w' := by
  have h1 := ho.taken (n := s.length) (by omega) (by omega)
  refine (Rest_calls w B g r h).mono fun e w' ⟨v, he, hv, hr, hk⟩ => ⟨v, he, ?_, hk⟩
  rw [ho.left, h1] at hv
  simpa using hv
end Go.Proofs.YtbphidmnkbfchaaGreatDoor
