/-
  The walks of a reader's methods, last part: New.
-/
import Derived.Test.YthafedmlbialiaaDoorR3
namespace Go.Proofs.YthafedmlbialiaaDoor
open Go.RowKit Go.Proofs.YthafedmlbialiaaDoorW.PrintWords Go.Proofs.YthafedmlbialiaaDoorW.PrintLast Go.Proofs.YthafedmlbialiaaDoorW.PrintMore
set_option linter.unusedVariables false
set_option linter.unusedSimpArgs false

theorem IsR.lower {w : World} {B B' g : Nat} {r : Rdr} (h : IsR w B g r) (hB : B' ≤ B) : IsR w B' g r := by
  obtain ⟨bv, ev, hg, hb, h1, h2, ok⟩ := h
  exact ⟨bv, ev, hg, Nat.le_trans hB hb, Kd.R_lower h1 hB, Kd.R_lower h2 hB, ok⟩
/-- What turns no reader. -/
theorem IsR.kt {w w' : World} {B B' g : Nat} {r : Rdr} {ts : List Nat} (h : IsR w B g r) (hk : KT B' ts w w') (h1 : 121 ∉ ts) (h2 : 5 ∉ ts) (h3 : 3 ∉ ts) : IsR w' B g r := by
  obtain ⟨bv, ev, hg, hb, hv, he, ok⟩ := h
  exact ⟨bv, ev, blk_kt hg hk h1, hb, R_kt hv hk (fun q hq => by rw [List.mem_singleton.1 hq]; exact h2), R_kt he hk (fun q hq => by rw [List.mem_singleton.1 hq]; exact h3), ok⟩

/-- A reader of bytes. -/
def Rdr.new (b : List Int) : Rdr := ⟨b, 0, [(b.length : Int)], 0⟩
theorem Rdr.new_ok (b : List Int) (hl : b.length ≤ 140737488351232) (hb : ∀ x, x ∈ b → 0 ≤ x ∧ x < 256) : (Rdr.new b).Ok :=
  ⟨hl, by simp [Rdr.new], Int.le_refl _, fun x hx => by
    rw [List.mem_singleton.1 hx]
    show (0 : Int) ≤ _ ∧ _
    exact ⟨Int.natCast_nonneg _, Int.le_refl _⟩, by simp [Rdr.new], by simp [Rdr.new], hb⟩

theorem New_calls (w : World) (A : Option Addr) (c : Nat) (xs : List Int) (hC : (Kd.int .u8).C w A xs.length xs) (hl : xs.length ≤ 140737488351232) (hb : ∀ x, x ∈ xs → 0 ≤ x ∧ x < 256) :
    Calls Tryd.prog 56 #[.slice A xs.length c] w fun e w' => ∃ g, e = .returned (.pointer (some ⟨g, 0, none⟩)) ∧ IsR w' w.heap.size g (Rdr.new xs) ∧ Below w.heap.size w w' := by
  have hok := Rdr.new_ok xs hl hb
  go_enter Tryd.func56, Tryd.ntmps56
  go_wp2_with fail
  refine (Clone_calls w w.heap.size A c xs (Nat.le_refl _) hC hl).mono ?_
  rintro e w1 ⟨v, rfl, hv, hb1⟩
  obtain ⟨A1, c1, rfl⟩ := Kd.R_slice hv
  go_wp2_with fail
  go_ret
  have hs := hb1.size
  have b2 : Below w1.heap.size w1 (w1.alloc (.cells #[.int .i64 (xs.length : Int)] 3)) := below_alloc (Below.refl _ _) _
  have hr := World.ownsRow_lit (base := w.heap.size) (e := 3) (size := 1) w1 #[.int .i64 (xs.length : Int)] 1 hs (by simp [maxLen]) (by simp)
  have hR : (Kd.int .i64).R 3 (w1.alloc (.cells #[.int .i64 (xs.length : Int)] 3)) w.heap.size (fun _ => True) (.slice (some ⟨w1.heap.size, 0, none⟩) 1 1) [(xs.length : Int)] := by
    refine ⟨fun _ _ => trivial, [.int .i64 (xs.length : Int)], (show World.ownsRow _ _ _ 1 _ _ _ by simpa using hr), ⟨rfl, fun j p hj => ?_⟩⟩
    rcases j with _ | j
    · simp at hj
      subst hj
      rfl
    · simp at hj
  refine ⟨w1.heap.size + 1, rfl, ⟨.slice A1 xs.length c1, .slice (some ⟨w1.heap.size, 0, none⟩) 1 1, ?_, by omega, Kd.R_alloc (Kd.R_alloc hv _) _, Kd.R_alloc hR _, hok⟩, hb1.trans ((b2.mono hs).trans ((below_alloc (Below.refl _ _) _).mono (by simp; omega)))⟩
  have h := blk_new (w1.alloc (.cells #[.int .i64 (xs.length : Int)] 3)) (.cells #[.slice A1 xs.length c1, .int .i64 0, .slice (some ⟨w1.heap.size, 0, none⟩) 1 1, .int .i64 0] 121)
  rw [show (w1.alloc (.cells #[.int .i64 (xs.length : Int)] 3)).heap.size = w1.heap.size + 1 by simp] at h
  exact h
end Go.Proofs.YthafedmlbialiaaDoor
