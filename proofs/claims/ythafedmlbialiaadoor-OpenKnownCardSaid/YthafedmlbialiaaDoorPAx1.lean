-- Written by the kit's print.py, all laws of the seat in one call (wip/tools/print-all.sh).
import Derived.Test.YthafedmlbialiaaDoorPAx0
namespace Go.Proofs.YthafedmlbialiaaDoor.PA
open Go.RowKit Go.Proofs.YthafedmlbialiaaDoorW.PrintWords Go.Proofs.YthafedmlbialiaaDoorW.PrintLast Go.Proofs.YthafedmlbialiaaDoorW.PrintMore
attribute [local go_sem] max2_int min2_int max_two min_two max_three min_three max_four min_four   -- for this text's walks alone
set_option linter.unusedVariables false
set_option linter.unusedSimpArgs false

-- NOT PRINTED: function 14 (bytes_Clone)

-- NOT PRINTED: function 66 (slices_Clone_byte_byte)

-- NOT PRINTED: function 56 (scroll_New)

-- NOT PRINTED: function 60 (scroll_Reader_Err)

-- NOT PRINTED: function 57 (scroll_Reader_Left)

-- NOT PRINTED: function 91 (scroll_Reader_Fail)

-- NOT PRINTED: function 89 (scroll_Reader_has)

-- NOT PRINTED: function 61 (scroll_Reader_Take)

-- NOT PRINTED: function 88 (scroll_number_byte)

-- NOT PRINTED: function 58 (scroll_Reader_Byte)

-- NOT PRINTED: function 59 (scroll_Reader_Open)

-- NOT PRINTED: function 99 (scroll_Reader_Deep)

-- NOT PRINTED: function 90 (scroll_Reader_within)

-- NOT PRINTED: function 62 (scroll_Reader_Close)

-- NOT PRINTED: function 15 (caps_Read)

/-! ### consulateref05_Read: function 16 -/
mutual
def consulateref05_Read.l0 : Nat → List Int → List (S99) → Int → Option ((List (S99)) × Int × Int)
  | 0, _, _, _ => none
  | k + 1, x0, x5, x6 => if x6 < (x0.length : Int) then (if (wrap64 (x6 + 2)) > (x0.length : Int) then (consulateref05_Read.j1 k x0 x5 x6 true) else (if 0 ≤ (wrap64 (x6 + 1)) then (if (wrap64 (x6 + 1)) < (x0.length : Int) then (consulateref05_Read.j1 k x0 x5 x6 (decide ((wrap64 ((wrap64 (x6 + 2)) + (wrap64 (rd x0 (wrap64 (x6 + 1)))))) > (x0.length : Int)))) else (none)) else (none))) else (some (x5, 0, 0))
def consulateref05_Read.j1 : Nat → List Int → List (S99) → Int → Bool → Option ((List (S99)) × Int × Int)
  | 0, _, _, _, _ => none
  | k + 1, x0, x5, x6, x31 => if x31 = true then (some (([] : List (S99)), 2, 0)) else (if 0 ≤ x6 then (if x6 < (x0.length : Int) then (if (rd x0 x6) = 2 then (if 0 ≤ (wrap64 (x6 + 1)) then (if (wrap64 (x6 + 1)) < (x0.length : Int) then (consulateref05_Read.l1 k x0 x5 (wrap64 (x6 + 2)) (wrap64 ((wrap64 (x6 + 2)) + (wrap64 (rd x0 (wrap64 (x6 + 1))))))) else (none)) else (none)) else (some (([] : List (S99)), 2, 4))) else (none)) else (none))
def consulateref05_Read.l1 : Nat → List Int → List (S99) → Int → Int → Option ((List (S99)) × Int × Int)
  | 0, _, _, _, _ => none
  | k + 1, x0, x5, x6, x7 => if x6 < x7 then (if (wrap64 (x6 + 2)) > x7 then (some (([] : List (S99)), 2, 0)) else (if 0 ≤ (wrap64 (x6 + 1)) then (if (wrap64 (x6 + 1)) < (x0.length : Int) then (if (wrap64 ((wrap64 (x6 + 2)) + (wrap64 (rd x0 (wrap64 (x6 + 1)))))) > x7 then (some (([] : List (S99)), 2, 0)) else (if 0 ≤ x6 then (if x6 < (x0.length : Int) then (if 0 ≤ (wrap64 (x6 + 2)) then (if (wrap64 (x6 + 2)) ≤ (wrap64 ((wrap64 (x6 + 2)) + (wrap64 (rd x0 (wrap64 (x6 + 1)))))) then (if (wrap64 ((wrap64 (x6 + 2)) + (wrap64 (rd x0 (wrap64 (x6 + 1)))))) ≤ (x0.length : Int) then (if x5.length < 4398046511104 then (consulateref05_Read.l1 k x0 (x5 ++ [(⟨rd x0 x6, ((x0.take ((wrap64 ((wrap64 (x6 + 2)) + (wrap64 (rd x0 (wrap64 (x6 + 1)))))) : Int).toNat).drop ((wrap64 (x6 + 2)) : Int).toNat)⟩ : S99)]) (wrap64 ((wrap64 (x6 + 2)) + (wrap64 (rd x0 (wrap64 (x6 + 1)))))) x7) else (none)) else (none)) else (none)) else (none)) else (none)) else (none))) else (none)) else (none))) else (consulateref05_Read.l0 k x0 x5 x6)
end
def consulateref05_Read.f (k : Nat) (l0 : List Int) : Option ((List (S99)) × Int × Int) := consulateref05_Read.l0 k l0 ([] : List (S99)) 0
theorem consulateref05_Read.mono_l : ∀ k, (∀ y0 y1 y2, LeO (consulateref05_Read.l0 k y0 y1 y2) (consulateref05_Read.l0 (k + 1) y0 y1 y2)) ∧ (∀ y0 y1 y2 y3, LeO (consulateref05_Read.j1 k y0 y1 y2 y3) (consulateref05_Read.j1 (k + 1) y0 y1 y2 y3)) ∧ (∀ y0 y1 y2 y3, LeO (consulateref05_Read.l1 k y0 y1 y2 y3) (consulateref05_Read.l1 (k + 1) y0 y1 y2 y3))
  | 0 => ⟨fun _ _ _ r h => by simp [consulateref05_Read.l0] at h, fun _ _ _ _ r h => by simp [consulateref05_Read.j1] at h, fun _ _ _ _ r h => by simp [consulateref05_Read.l1] at h⟩
  | k + 1 => by
    obtain ⟨ih0, ih1, ih2⟩ := consulateref05_Read.mono_l k
    refine ⟨?_, ?_, ?_⟩
    · intro y0 y1 y2
      unfold consulateref05_Read.l0
      repeat' first
      | (with_reducible exact ih0 _ _ _)
      | (with_reducible exact ih1 _ _ _ _)
      | (with_reducible exact ih2 _ _ _ _)
      | (with_reducible exact LeO.refl _)
      | (with_reducible exact LeO.none _)
      | (with_reducible refine LeO.ite ?_ ?_)
      | (with_reducible refine LeO.bind ?_ (fun _ => ?_))
      | exact ih0 _ _ _
      | exact ih1 _ _ _ _
      | exact ih2 _ _ _ _
      | exact LeO.none _
      | refine LeO.ite ?_ ?_
      | refine LeO.bind ?_ (fun _ => ?_)
    · intro y0 y1 y2 y3
      unfold consulateref05_Read.j1
      repeat' first
      | (with_reducible exact ih0 _ _ _)
      | (with_reducible exact ih1 _ _ _ _)
      | (with_reducible exact ih2 _ _ _ _)
      | (with_reducible exact LeO.refl _)
      | (with_reducible exact LeO.none _)
      | (with_reducible refine LeO.ite ?_ ?_)
      | (with_reducible refine LeO.bind ?_ (fun _ => ?_))
      | exact ih0 _ _ _
      | exact ih1 _ _ _ _
      | exact ih2 _ _ _ _
      | exact LeO.none _
      | refine LeO.ite ?_ ?_
      | refine LeO.bind ?_ (fun _ => ?_)
    · intro y0 y1 y2 y3
      unfold consulateref05_Read.l1
      repeat' first
      | (with_reducible exact ih0 _ _ _)
      | (with_reducible exact ih1 _ _ _ _)
      | (with_reducible exact ih2 _ _ _ _)
      | (with_reducible exact LeO.refl _)
      | (with_reducible exact LeO.none _)
      | (with_reducible refine LeO.ite ?_ ?_)
      | (with_reducible refine LeO.bind ?_ (fun _ => ?_))
      | exact ih0 _ _ _
      | exact ih1 _ _ _ _
      | exact ih2 _ _ _ _
      | exact LeO.none _
      | refine LeO.ite ?_ ?_
      | refine LeO.bind ?_ (fun _ => ?_)
theorem consulateref05_Read.mono : ∀ a0 k, LeO (consulateref05_Read.f k a0) (consulateref05_Read.f (k + 1) a0) := by
  intro a0 k
  obtain ⟨ih0, ih1, ih2⟩ := consulateref05_Read.mono_l k
  unfold consulateref05_Read.f
  repeat' first
      | (with_reducible exact ih0 _ _ _)
      | (with_reducible exact ih1 _ _ _ _)
      | (with_reducible exact ih2 _ _ _ _)
      | (with_reducible exact LeO.refl _)
      | (with_reducible exact LeO.none _)
      | (with_reducible refine LeO.ite ?_ ?_)
      | (with_reducible refine LeO.bind ?_ (fun _ => ?_))
      | exact ih0 _ _ _
      | exact ih1 _ _ _ _
      | exact ih2 _ _ _ _
      | exact LeO.none _
      | refine LeO.ite ?_ ?_
      | refine LeO.bind ?_ (fun _ => ?_)
def consulateref05_Read.T14 : Bool × List (List Nat × List Nat) := (true, [([], []), ([], []), ([], []), ([1, 2], [1, 2]), ([3], [3]), ([], []), ([], []), ([6], [6]), ([], []), ([8], [8]), ([], []), ([9, 10], [9, 10]), ([5, 7, 11], [5, 7, 11]), ([4, 12], [4, 12]), ([13], [13]), ([0, 14], [0, 14]), ([15, 15, 0, 1, 2, 3, 4, 5, 6, 7, 8, 9, 10, 11, 12, 13, 14, 15], [0, 15])])
def consulateref05_Read.B14 : List Nat := [0, 0, 0, 6, 14, 0, 0, 64, 0, 256, 0, 1792, 4064, 8190, 16382, 32767, 65535]
theorem consulateref05_Read.tab14 : rtab .any (opsOf Tryd.f16 14) = consulateref05_Read.T14 := by kernel_rfl
theorem consulateref05_Read.bits14 : waitsOk consulateref05_Read.T14.2 consulateref05_Read.B14 = true := by kernel_rfl
set_option maxHeartbeats 8000000 in
set_option maxRecDepth 100000 in
theorem consulateref05_Read.calls (k : Nat) (P0_ : Nat → Prop) (A0 : Option Addr) (c0 : Nat) (l0 : List Int) (r1 : List (S99)) (r2 : Int) (r3 : Int) (w : World) (hs0 : Kd.V (Kd.int .u8) 5 w w.heap.size (fun k_ => P0_ k_) (.slice A0 l0.length c0) l0) (h : consulateref05_Read.f k l0 = some (r1, r2, r3)) :
    Calls Tryd.prog 16 #[.slice A0 l0.length c0] w fun e w' => ∃ v0_ : Value, e = .returned (.tuple #[v0_, .int .i64 r2, .int .i64 r3]) ∧ Kd.N k99 99 w' w.heap.size (fun k_ => (P0_ k_ ∨ w.heap.size ≤ k_)) v0_ r1 ∧ Below w.heap.size w w' := by
  have hu99 := Tryd.underlying99
  have HO0 := Aside0.mk (show Kd.V (Kd.int .u8) 5 w w.heap.size (fun k_ => (P0_ k_ ∨ w.heap.size ≤ k_)) (.slice A0 l0.length c0) l0 from Kd.V_mono hs0 (fun k_ hk => .inl hk))
  have HB := Aside0.mk (Below.refl w.heap.size w)
  have H : (consulateref05_Read.l0 k l0 ([] : List (S99)) 0) = some (r1, r2, r3) := h
  clear h
  have H' := Aside0.mk H
  clear H
  go_enter Tryd.func16, Tryd.ntmps16
  go_wp2
  go_loopg [5, 6] k (fun kq v5 v6 w' => ∃ (x5_1 : List (S99)) (x6_1 : Int), v6 = .int .i64 x6_1 ∧ Aside0 (consulateref05_Read.l0 kq l0 x5_1 x6_1 = some (r1, r2, r3)) ∧ Aside0 (kq ≤ k) ∧ Aside0 (Kd.V (Kd.int .u8) 5 w' w.heap.size (fun k_ => (P0_ k_ ∨ w.heap.size ≤ k_) ∧ some k_ ≠ (v5 : Value).ownBlock) (.slice A0 l0.length c0) l0) ∧ Aside0 (Kd.N k99 99 w' w.heap.size (fun k_ => (P0_ k_ ∨ w.heap.size ≤ k_)) v5 x5_1) ∧ Aside0 (Below w.heap.size w w'))
  case atStart => exact ⟨(([] : List (S99))), (0), (by first | rfl | (simp; done) | (simp [*]; done)), H', ⟨Nat.le_refl _⟩, ⟨by (with_reducible repeat (first | apply Kd.V_alloc | apply Kd.V_drewN | apply Kd.V_drew)); exact Kd.V_mono HO0.out (fun _ hk => ⟨hk, (by simp [Value.ownBlock])⟩)⟩, ⟨by first | exact Kd.S_nil _ _ _ _ _ | exact Kd.N_nil _ _ _ _ _ | exact Kd.V_nil _ _ _ _ _ | exact Kd.Q_nil _ _ _ _ _ | exact Kd.R_nil _ _ _ _ _⟩, ⟨by repeat (first | (with_reducible first | exact HB.out | apply below_alloc | apply pw_below_drewN | apply below_drew1) | exact HB.out)⟩⟩
  case round =>
    clear H'
    try clear c1
    obtain ⟨x5_1, x6_1, rfl, HA, HK1, HO_0, HO_5, HB⟩ := hrel
    cases gk with
    | zero => exact absurd HA.out (by simp [consulateref05_Read.l0])
    | succ k1 =>
      have H := HA.out
      clear HA
      simp only [consulateref05_Read.l0] at H
      by_cases c2 : x6_1 < (l0.length : Int)
      · rw [if_pos c2] at H
        have c2b0 : decide (x6_1 < (l0.length : Int)) = true := decide_eq_true c2
        clear c2
        have HC3 := Aside0.mk H
        clear H
        go_upto_region 4 with (fail)
        go_cut [31] (fun v31 wc => ∃ (kq : Nat) (x31_2 : Bool), v31 = .bool x31_2 ∧ Aside0 (consulateref05_Read.j1 kq l0 x5_1 x6_1 x31_2 = some (r1, r2, r3)) ∧ Aside0 (kq ≤ k1) ∧ Aside0 (Kd.V (Kd.int .u8) 5 wc w.heap.size (fun k_ => (P0_ k_ ∨ w.heap.size ≤ k_) ∧ some k_ ≠ (u5 : Value).ownBlock) (.slice A0 l0.length c0) l0) ∧ Aside0 (Kd.N k99 99 wc w.heap.size (fun k_ => (P0_ k_ ∨ w.heap.size ≤ k_)) u5 x5_1) ∧ Aside0 (Below w.heap.size w wc))
        case first =>
          have H := HC3.out
          clear HC3
          by_cases c4 : (wrap64 (x6_1 + 2)) > (l0.length : Int)
          · rw [if_pos c4] at H
            have c4b0 : decide ((l0.length : Int) < (wrap64 (x6_1 + 2))) = true := decide_eq_true c4
            clear c4
            (first | rw [c4b0] | (simp only [i64_w, i32_w]; rw [c4b0]) | skip)
            have H' := Aside0.mk H
            clear H
            go_wp2
            go_meet
            case rel => exact ⟨_, (true), (by first | rfl | (simp; done) | (simp [*]; done)), H', ⟨by have := HK1.out; first | omega | exact Nat.le_refl _⟩, ⟨by (with_reducible repeat (first | apply Kd.V_alloc | apply Kd.V_drewN | apply Kd.V_drew)); exact HO_0.out⟩, ⟨by (with_reducible repeat (first | apply Kd.N_alloc | apply Kd.N_drewN | apply Kd.N_drew)); exact HO_5.out⟩, ⟨by repeat (first | (with_reducible first | exact HB.out | apply below_alloc | apply pw_below_drewN | apply below_drew1) | exact HB.out)⟩⟩
          · rw [if_neg c4] at H
            have c4b0 : decide ((l0.length : Int) < (wrap64 (x6_1 + 2))) = false := decide_eq_false c4
            clear c4
            (first | rw [c4b0] | (simp only [i64_w, i32_w]; rw [c4b0]) | skip)
            obtain ⟨ji5, hji5⟩ : ∃ j_ : Int, (wrap64 (x6_1 + 1)) = j_ := ⟨_, rfl⟩
            replace H : (if 0 ≤ (ji5) then (if (ji5) < (l0.length : Int) then (consulateref05_Read.j1 k1 l0 x5_1 x6_1 (decide ((wrap64 ((wrap64 (x6_1 + 2)) + (wrap64 (rd l0 (ji5))))) > (l0.length : Int)))) else (none)) else (none)) = some (r1, r2, r3) := by first | (rw [hji5] at H; exact H) | (simp only [hji5] at H ⊢; exact H)
            have hji5w : (IntKind.i64.wrap (x6_1 + 1)) = ji5 := (i64_w _).trans hji5
            by_cases c6 : 0 ≤ (ji5)
            · rw [if_pos c6] at H
              have c6b0 : decide (0 ≤ (ji5)) = true := decide_eq_true c6
              clear c6
              by_cases c7 : (ji5) < (l0.length : Int)
              · rw [if_pos c7] at H
                have c7b0 : decide ((ji5) < (l0.length : Int)) = true := decide_eq_true c7
                clear c7
                have H' := Aside0.mk H
                clear H
                have p102 : 0 ≤ ((ji5) : Int) := of_decide_eq_true (by first | (with_reducible assumption) | assumption)
                have q102 : (ji5) < (l0.length : Int) := of_decide_eq_true (by first | (with_reducible assumption) | assumption)
                obtain ⟨ad102, e102, hx102_0⟩ := Kd.at_int (Kd.V_reads' HO_0.out).2.2 (ji5) p102 q102
                cases e102
                replace p102 := eq_true p102
                replace q102 := eq_true q102
                go_wp2
                go_meet
                case rel => exact ⟨_, (decide ((wrap64 ((wrap64 (x6_1 + 2)) + (wrap64 (rd l0 (ji5))))) > (l0.length : Int))), (by first | rfl | (simp; done) | (simp only [← hji5] <;> (first | rfl | simp)) | (simp [*]; done)), H', ⟨by have := HK1.out; first | omega | exact Nat.le_refl _⟩, ⟨by (with_reducible repeat (first | apply Kd.V_alloc | apply Kd.V_drewN | apply Kd.V_drew)); exact HO_0.out⟩, ⟨by (with_reducible repeat (first | apply Kd.N_alloc | apply Kd.N_drewN | apply Kd.N_drew)); exact HO_5.out⟩, ⟨by repeat (first | (with_reducible first | exact HB.out | apply below_alloc | apply pw_below_drewN | apply below_drew1) | exact HB.out)⟩⟩
              · rw [if_neg c7] at H
                exact absurd H (by simp)
            · rw [if_neg c6] at H
              exact absurd H (by simp)
        case rest =>
          clear HC3
          try clear c1
          try clear p1
          try clear q1
          try clear hx1
          try clear c2
          try clear c2b0
          try clear p2
          try clear c4
          try clear c4b0
          try clear c6
          try clear c6b0
          try clear p6
          try clear c7
          try clear c7b0
          try clear hx102_0
          try clear p102
          try clear q102
          obtain ⟨kq, x31_2, rfl, HA, HJ2, HO_0, HO_5, HB⟩ := hcut
          cases kq with
          | zero => exact absurd HA.out (by simp [consulateref05_Read.j1])
          | succ kj2 =>
            have H := HA.out
            clear HA
            simp only [consulateref05_Read.j1] at H
            by_cases c8 : x31_2 = true
            · subst c8
              have H1 : (some (([] : List (S99)), 2, 0)) = some (r1, r2, r3) := by rw [if_pos rfl] at H; exact H
              clear H
              have H := H1
              clear H1
              simp only [Option.some.injEq, Prod.mk.injEq] at H
              obtain ⟨rfl, rfl, rfl⟩ := H
              go_wp2
              go_ret3
              exact ⟨_, by first | rfl | (simp [errW_none, errW_some] <;> rfl) | (simp [*, errW_none, errW_some] <;> rfl), by first | exact Kd.S_nil _ _ _ _ _ | exact Kd.N_nil _ _ _ _ _ | exact Kd.V_nil _ _ _ _ _ | exact Kd.Q_nil _ _ _ _ _ | exact Kd.R_nil _ _ _ _ _, by repeat (first | (with_reducible first | exact HB.out | apply below_alloc | apply pw_below_drewN | apply below_drew1) | exact HB.out)⟩
            · replace c8 := Bool.eq_false_iff.mpr c8
              subst c8
              have H1 : (if 0 ≤ x6_1 then (if x6_1 < (l0.length : Int) then (if (rd l0 x6_1) = 2 then (if 0 ≤ (wrap64 (x6_1 + 1)) then (if (wrap64 (x6_1 + 1)) < (l0.length : Int) then (consulateref05_Read.l1 kj2 l0 x5_1 (wrap64 (x6_1 + 2)) (wrap64 ((wrap64 (x6_1 + 2)) + (wrap64 (rd l0 (wrap64 (x6_1 + 1))))))) else (none)) else (none)) else (some (([] : List (S99)), 2, 4))) else (none)) else (none)) = some (r1, r2, r3) := by rw [if_neg (show ¬ (false = true) by decide)] at H; exact H
              clear H
              have H := H1
              clear H1
              by_cases c9 : 0 ≤ x6_1
              · rw [if_pos c9] at H
                have c9b0 : decide (0 ≤ x6_1) = true := decide_eq_true c9
                clear c9
                by_cases c10 : x6_1 < (l0.length : Int)
                · rw [if_pos c10] at H
                  have c10b0 : decide (x6_1 < (l0.length : Int)) = true := decide_eq_true c10
                  clear c10
                  by_cases c11 : (rd l0 x6_1) = 2
                  · rw [if_pos c11] at H
                    have c11b0 : ((rd l0 x6_1) == 2) = true := beq_iff_eq.mpr c11
                    have c11b1 : ((rd l0 x6_1) != 2) = false := bne_eq_false_iff_eq.mpr c11
                    clear c11
                    obtain ⟨ji12, hji12⟩ : ∃ j_ : Int, (wrap64 (x6_1 + 1)) = j_ := ⟨_, rfl⟩
                    replace H : (if 0 ≤ (ji12) then (if (ji12) < (l0.length : Int) then (consulateref05_Read.l1 kj2 l0 x5_1 (wrap64 (x6_1 + 2)) (wrap64 ((wrap64 (x6_1 + 2)) + (wrap64 (rd l0 (ji12)))))) else (none)) else (none)) = some (r1, r2, r3) := by first | (rw [hji12] at H; exact H) | (simp only [hji12] at H ⊢; exact H)
                    have hji12w : (IntKind.i64.wrap (x6_1 + 1)) = ji12 := (i64_w _).trans hji12
                    by_cases c13 : 0 ≤ (ji12)
                    · rw [if_pos c13] at H
                      have c13b0 : decide (0 ≤ (ji12)) = true := decide_eq_true c13
                      clear c13
                      by_cases c14 : (ji12) < (l0.length : Int)
                      · rw [if_pos c14] at H
                        have c14b0 : decide ((ji12) < (l0.length : Int)) = true := decide_eq_true c14
                        clear c14
                        have H' := Aside0.mk H
                        clear H
                        have p103 : 0 ≤ (x6_1 : Int) := of_decide_eq_true (by first | (with_reducible assumption) | assumption)
                        have q103 : x6_1 < (l0.length : Int) := of_decide_eq_true (by first | (with_reducible assumption) | assumption)
                        obtain ⟨ad103, e103, hx103_0⟩ := Kd.at_int (Kd.V_reads' HO_0.out).2.2 x6_1 p103 q103
                        cases e103
                        replace p103 := eq_true p103
                        replace q103 := eq_true q103
                        have p104 : 0 ≤ ((ji12) : Int) := of_decide_eq_true (by first | (with_reducible assumption) | assumption)
                        have q104 : (ji12) < (l0.length : Int) := of_decide_eq_true (by first | (with_reducible assumption) | assumption)
                        obtain ⟨ad104, e104, hx104_0⟩ := Kd.at_int (Kd.V_reads' HO_0.out).2.2 (ji12) p104 q104
                        obtain rfl : ad103 = ad104 := (by injection e104)
                        replace p104 := eq_true p104
                        replace q104 := eq_true q104
                        go_wp2
                        go_loopg [5, 6] kj2 (fun kq v5 v6 w' => ∃ (x5_3 : List (S99)) (x6_3 : Int), v6 = .int .i64 x6_3 ∧ Aside0 (consulateref05_Read.l1 kq l0 x5_3 x6_3 (wrap64 ((wrap64 (x6_1 + 2)) + (wrap64 (rd l0 (ji12))))) = some (r1, r2, r3)) ∧ Aside0 (kq ≤ kj2) ∧ Aside0 (Kd.V (Kd.int .u8) 5 w' w.heap.size (fun k_ => (P0_ k_ ∨ w.heap.size ≤ k_) ∧ some k_ ≠ (v5 : Value).ownBlock) (.slice (some ad103) l0.length c0) l0) ∧ Aside0 (Kd.N k99 99 w' w.heap.size (fun k_ => (P0_ k_ ∨ w.heap.size ≤ k_)) v5 x5_3) ∧ Aside0 (Below w.heap.size w w'))
                        case atStart => exact ⟨(x5_1), (wrap64 (x6_1 + 2)), (by first | rfl | (simp; done) | (simp [*]; done)), H', ⟨Nat.le_refl _⟩, ⟨by (with_reducible repeat (first | apply Kd.V_alloc | apply Kd.V_drewN | apply Kd.V_drew)); exact HO_0.out⟩, ⟨by (with_reducible repeat (first | apply Kd.N_alloc | apply Kd.N_drewN | apply Kd.N_drew)); exact HO_5.out⟩, ⟨by repeat (first | (with_reducible first | exact HB.out | apply below_alloc | apply pw_below_drewN | apply below_drew1) | exact HB.out)⟩⟩
                        case round =>
                          clear H'
                          try clear c1
                          try clear p1
                          try clear q1
                          try clear hx1
                          try clear c2
                          try clear c2b0
                          try clear p2
                          try clear c4
                          try clear c4b0
                          try clear c6
                          try clear c6b0
                          try clear p6
                          try clear c7
                          try clear c7b0
                          try clear c8
                          try clear c9
                          try clear c9b0
                          try clear c10
                          try clear c10b0
                          try clear p10
                          try clear q10
                          try clear hx10
                          try clear c11
                          try clear c11b0
                          try clear c11b1
                          try clear c13
                          try clear c13b0
                          try clear c14
                          try clear c14b0
                          try clear hx102_0
                          try clear hx103_0
                          try clear hx104_0
                          try clear p1
                          try clear p102
                          try clear p103
                          try clear p104
                          try clear p2
                          try clear p6
                          try clear q1
                          try clear q102
                          try clear q103
                          try clear q104
                          obtain ⟨x5_3, x6_3, rfl, HA, HK3, HO_0, HO_5, HB⟩ := hrel
                          cases gk with
                          | zero => exact absurd HA.out (by simp [consulateref05_Read.l1])
                          | succ k3 =>
                            have H := HA.out
                            clear HA
                            simp only [consulateref05_Read.l1] at H
                            by_cases c15 : x6_3 < (wrap64 ((wrap64 (x6_1 + 2)) + (wrap64 (rd l0 (ji12)))))
                            · rw [if_pos c15] at H
                              have c15b0 : decide (x6_3 < (wrap64 ((wrap64 (x6_1 + 2)) + (wrap64 (rd l0 (ji12)))))) = true := decide_eq_true c15
                              clear c15
                              by_cases c16 : (wrap64 (x6_3 + 2)) > (wrap64 ((wrap64 (x6_1 + 2)) + (wrap64 (rd l0 (ji12)))))
                              · rw [if_pos c16] at H
                                have c16b0 : decide ((wrap64 ((wrap64 (x6_1 + 2)) + (wrap64 (rd l0 (ji12))))) < (wrap64 (x6_3 + 2))) = true := decide_eq_true c16
                                clear c16
                                simp only [Option.some.injEq, Prod.mk.injEq] at H
                                obtain ⟨rfl, rfl, rfl⟩ := H
                                go_wp2
                                go_ret3
                                exact ⟨_, by first | rfl | (simp [errW_none, errW_some] <;> rfl) | (simp only [← hji12]; first | rfl | (simp [errW_none, errW_some] <;> rfl)) | (simp [*, errW_none, errW_some] <;> rfl), by first | exact Kd.S_nil _ _ _ _ _ | exact Kd.N_nil _ _ _ _ _ | exact Kd.V_nil _ _ _ _ _ | exact Kd.Q_nil _ _ _ _ _ | exact Kd.R_nil _ _ _ _ _, by repeat (first | (with_reducible first | exact HB.out | apply below_alloc | apply pw_below_drewN | apply below_drew1) | exact HB.out)⟩
                              · rw [if_neg c16] at H
                                have c16b0 : decide ((wrap64 ((wrap64 (x6_1 + 2)) + (wrap64 (rd l0 (ji12))))) < (wrap64 (x6_3 + 2))) = false := decide_eq_false c16
                                clear c16
                                obtain ⟨ji17, hji17⟩ : ∃ j_ : Int, (wrap64 (x6_3 + 1)) = j_ := ⟨_, rfl⟩
                                replace H : (if 0 ≤ (ji17) then (if (ji17) < (l0.length : Int) then (if (wrap64 ((wrap64 (x6_3 + 2)) + (wrap64 (rd l0 (ji17))))) > (wrap64 ((wrap64 (x6_1 + 2)) + (wrap64 (rd l0 (ji12))))) then (some (([] : List (S99)), 2, 0)) else (if 0 ≤ x6_3 then (if x6_3 < (l0.length : Int) then (if 0 ≤ (wrap64 (x6_3 + 2)) then (if (wrap64 (x6_3 + 2)) ≤ (wrap64 ((wrap64 (x6_3 + 2)) + (wrap64 (rd l0 (ji17))))) then (if (wrap64 ((wrap64 (x6_3 + 2)) + (wrap64 (rd l0 (ji17))))) ≤ (l0.length : Int) then (if x5_3.length < 4398046511104 then (consulateref05_Read.l1 k3 l0 (x5_3 ++ [(⟨rd l0 x6_3, ((l0.take ((wrap64 ((wrap64 (x6_3 + 2)) + (wrap64 (rd l0 (ji17))))) : Int).toNat).drop ((wrap64 (x6_3 + 2)) : Int).toNat)⟩ : S99)]) (wrap64 ((wrap64 (x6_3 + 2)) + (wrap64 (rd l0 (ji17))))) (wrap64 ((wrap64 (x6_1 + 2)) + (wrap64 (rd l0 (ji12)))))) else (none)) else (none)) else (none)) else (none)) else (none)) else (none))) else (none)) else (none)) = some (r1, r2, r3) := by first | (rw [hji17] at H; exact H) | (simp only [hji17] at H ⊢; exact H)
                                have hji17w : (IntKind.i64.wrap (x6_3 + 1)) = ji17 := (i64_w _).trans hji17
                                by_cases c18 : 0 ≤ (ji17)
                                · rw [if_pos c18] at H
                                  have c18b0 : decide (0 ≤ (ji17)) = true := decide_eq_true c18
                                  clear c18
                                  by_cases c19 : (ji17) < (l0.length : Int)
                                  · rw [if_pos c19] at H
                                    have c19b0 : decide ((ji17) < (l0.length : Int)) = true := decide_eq_true c19
                                    clear c19
                                    by_cases c20 : (wrap64 ((wrap64 (x6_3 + 2)) + (wrap64 (rd l0 (ji17))))) > (wrap64 ((wrap64 (x6_1 + 2)) + (wrap64 (rd l0 (ji12)))))
                                    · rw [if_pos c20] at H
                                      have c20b0 : decide ((wrap64 ((wrap64 (x6_1 + 2)) + (wrap64 (rd l0 (ji12))))) < (wrap64 ((wrap64 (x6_3 + 2)) + (wrap64 (rd l0 (ji17)))))) = true := decide_eq_true c20
                                      clear c20
                                      simp only [Option.some.injEq, Prod.mk.injEq] at H
                                      obtain ⟨rfl, rfl, rfl⟩ := H
                                      have p105 : 0 ≤ ((ji17) : Int) := of_decide_eq_true (by first | (with_reducible assumption) | assumption)
                                      have q105 : (ji17) < (l0.length : Int) := of_decide_eq_true (by first | (with_reducible assumption) | assumption)
                                      obtain ⟨ad105, e105, hx105_0⟩ := Kd.at_int (Kd.V_reads' HO_0.out).2.2 (ji17) p105 q105
                                      obtain rfl : ad103 = ad105 := (by injection e105)
                                      replace p105 := eq_true p105
                                      replace q105 := eq_true q105
                                      go_wp2
                                      go_ret3
                                      exact ⟨_, by first | rfl | (simp [errW_none, errW_some] <;> rfl) | (simp only [← hji12, ← hji17]; first | rfl | (simp [errW_none, errW_some] <;> rfl)) | (simp [*, errW_none, errW_some] <;> rfl), by first | exact Kd.S_nil _ _ _ _ _ | exact Kd.N_nil _ _ _ _ _ | exact Kd.V_nil _ _ _ _ _ | exact Kd.Q_nil _ _ _ _ _ | exact Kd.R_nil _ _ _ _ _, by repeat (first | (with_reducible first | exact HB.out | apply below_alloc | apply pw_below_drewN | apply below_drew1) | exact HB.out)⟩
                                    · rw [if_neg c20] at H
                                      have c20b0 : decide ((wrap64 ((wrap64 (x6_1 + 2)) + (wrap64 (rd l0 (ji12))))) < (wrap64 ((wrap64 (x6_3 + 2)) + (wrap64 (rd l0 (ji17)))))) = false := decide_eq_false c20
                                      clear c20
                                      by_cases c21 : 0 ≤ x6_3
                                      · rw [if_pos c21] at H
                                        have c21b0 : decide (0 ≤ x6_3) = true := decide_eq_true c21
                                        clear c21
                                        by_cases c22 : x6_3 < (l0.length : Int)
                                        · rw [if_pos c22] at H
                                          have c22b0 : decide (x6_3 < (l0.length : Int)) = true := decide_eq_true c22
                                          clear c22
                                          obtain ⟨ji23, hji23⟩ : ∃ j_ : Int, (wrap64 (x6_3 + 2)) = j_ := ⟨_, rfl⟩
                                          replace H : (if 0 ≤ (ji23) then (if (ji23) ≤ (wrap64 ((ji23) + (wrap64 (rd l0 (ji17))))) then (if (wrap64 ((ji23) + (wrap64 (rd l0 (ji17))))) ≤ (l0.length : Int) then (if x5_3.length < 4398046511104 then (consulateref05_Read.l1 k3 l0 (x5_3 ++ [(⟨rd l0 x6_3, ((l0.take ((wrap64 ((ji23) + (wrap64 (rd l0 (ji17))))) : Int).toNat).drop ((ji23) : Int).toNat)⟩ : S99)]) (wrap64 ((ji23) + (wrap64 (rd l0 (ji17))))) (wrap64 ((wrap64 (x6_1 + 2)) + (wrap64 (rd l0 (ji12)))))) else (none)) else (none)) else (none)) else (none)) = some (r1, r2, r3) := by first | (rw [hji23] at H; exact H) | (simp only [hji23] at H ⊢; exact H)
                                          (try rw [hji23] at c16b0)
                                          (try rw [hji23] at c20b0)
                                          have hji23w : (IntKind.i64.wrap (x6_3 + 2)) = ji23 := (i64_w _).trans hji23
                                          by_cases c24 : 0 ≤ (ji23)
                                          · rw [if_pos c24] at H
                                            have c24b0 := eq_true c24
                                            have c24b1 : decide (0 ≤ (ji23)) = true := decide_eq_true c24
                                            clear c24
                                            by_cases c25 : (ji23) ≤ (wrap64 ((ji23) + (wrap64 (rd l0 (ji17)))))
                                            · rw [if_pos c25] at H
                                              have c25b0 := eq_true c25
                                              have c25b1 : decide ((ji23) ≤ (wrap64 ((ji23) + (wrap64 (rd l0 (ji17)))))) = true := decide_eq_true c25
                                              by_cases c26 : (wrap64 ((ji23) + (wrap64 (rd l0 (ji17))))) ≤ (l0.length : Int)
                                              · rw [if_pos c26] at H
                                                have c26b0 := eq_true c26
                                                have c26b1 : decide ((wrap64 ((ji23) + (wrap64 (rd l0 (ji17))))) ≤ (l0.length : Int)) = true := decide_eq_true c26
                                                obtain ⟨y108, hy108⟩ : ∃ y_ : List Int, y_ = ((l0.take ((wrap64 ((ji23) + (wrap64 (rd l0 (ji17))))) : Int).toNat).drop ((ji23) : Int).toNat) := ⟨_, rfl⟩
                                                replace H : (if x5_3.length < 4398046511104 then (consulateref05_Read.l1 k3 l0 (x5_3 ++ [(⟨rd l0 x6_3, y108⟩ : S99)]) (wrap64 ((ji23) + (wrap64 (rd l0 (ji17))))) (wrap64 ((wrap64 (x6_1 + 2)) + (wrap64 (rd l0 (ji12)))))) else (none)) = some (r1, r2, r3) := by first | (rw [hy108]; with_reducible exact H) | (have H2_ := (Option.bind_some _ _).symm.trans H; rw [hy108]; with_reducible exact H2_) | (have H2_ := (Option.bind_some _ _).symm.trans H; with_reducible exact H2_) | with_reducible exact H | (rw [hy108]; exact H) | exact H
                                                have Ny108 := Aside0.mk hy108
                                                clear hy108
                                                by_cases c27 : x5_3.length < 4398046511104
                                                · rw [if_pos c27] at H
                                                  have LMc27 := Aside0.mk c27
                                                  clear c27
                                                  obtain ⟨y113, hy113⟩ : ∃ y_ : List (S99), y_ = (x5_3 ++ [(⟨rd l0 x6_3, y108⟩ : S99)]) := ⟨_, rfl⟩
                                                  replace H : (consulateref05_Read.l1 k3 l0 y113 (wrap64 ((ji23) + (wrap64 (rd l0 (ji17))))) (wrap64 ((wrap64 (x6_1 + 2)) + (wrap64 (rd l0 (ji12)))))) = some (r1, r2, r3) := by first | (rw [hy113]; with_reducible exact H) | (have H2_ := (Option.bind_some _ _).symm.trans H; rw [hy113]; with_reducible exact H2_) | (have H2_ := (Option.bind_some _ _).symm.trans H; with_reducible exact H2_) | with_reducible exact H | (rw [hy113]; exact H) | exact H
                                                  have Ny113 := Aside0.mk hy113
                                                  clear hy113
                                                  have H' := Aside0.mk H
                                                  clear H
                                                  have p105 : 0 ≤ ((ji17) : Int) := of_decide_eq_true (by first | (with_reducible assumption) | assumption)
                                                  have q105 : (ji17) < (l0.length : Int) := of_decide_eq_true (by first | (with_reducible assumption) | assumption)
                                                  obtain ⟨ad105, e105, hx105_0⟩ := Kd.at_int (Kd.V_reads' HO_0.out).2.2 (ji17) p105 q105
                                                  obtain rfl : ad103 = ad105 := (by injection e105)
                                                  replace p105 := eq_true p105
                                                  replace q105 := eq_true q105
                                                  have p106 : 0 ≤ ((ji17) : Int) := of_decide_eq_true (by first | (with_reducible assumption) | assumption)
                                                  have q106 : (ji17) < (l0.length : Int) := of_decide_eq_true (by first | (with_reducible assumption) | assumption)
                                                  obtain ⟨ad106, e106, hx106_0⟩ := Kd.at_int (Kd.V_reads' HO_0.out).2.2 (ji17) p106 q106
                                                  obtain rfl : ad103 = ad106 := (by injection e106)
                                                  replace p106 := eq_true p106
                                                  replace q106 := eq_true q106
                                                  try go_wp2
                                                  have n0_ := Aside0.mk (Kd.V_drew HO_0.out)
                                                  have n1_ := Aside0.mk (Kd.N_drew HO_5.out)
                                                  have n2_ := Aside0.mk (below_drew1 HB.out)
                                                  clear HO_0
                                                  clear HO_5
                                                  clear HB
                                                  have HO_0 := n0_
                                                  have HO_5 := n1_
                                                  have HB := n2_
                                                  clear n0_ n1_ n2_
                                                  have p107 : 0 ≤ (x6_3 : Int) := of_decide_eq_true (by first | (with_reducible assumption) | assumption)
                                                  have q107 : x6_3 < (l0.length : Int) := of_decide_eq_true (by first | (with_reducible assumption) | assumption)
                                                  obtain ⟨ad107, e107, hx107_0⟩ := Kd.at_int (Kd.V_reads' HO_0.out).2.2 x6_3 p107 q107
                                                  obtain rfl : ad103 = ad107 := (by injection e107)
                                                  replace p107 := eq_true p107
                                                  replace q107 := eq_true q107
                                                  have q29 : ((wrap64 ((ji23) + (wrap64 (rd l0 (ji17))))) : Int) ≤ ((l0.length : Int) : Int) := of_decide_eq_true (by first | (with_reducible assumption) | assumption)
                                                  obtain ⟨i029, hi029, _, hsz29, _⟩ := info_parts info5
                                                  have hroom29 : l0.length ≤ c0 := (Kd.V_reads' HO_0.out).2.1
                                                  have hC29 : Kd.F (Kd.int .u8) _ _ (some ad103) l0.length l0 := (Kd.V_at (base := w.heap.size) HO_0.out).2.2
                                                  have ql29 : ((ji23) : Int) ≤ ((wrap64 ((ji23) + (wrap64 (rd l0 (ji17))))) : Int) := of_decide_eq_true (by first | (with_reducible assumption) | assumption)
                                                  have q029 : (0 : Int) ≤ ((ji23) : Int) := of_decide_eq_true (by first | (with_reducible assumption) | assumption)
                                                  have hcut29 := cut_mid (P := Tryd.prog) 22 5 .i64 .i64 Tryd.underlying22 hi029 1 hsz29 (some ad103) l0.length c0 (ji23) (wrap64 ((ji23) + (wrap64 (rd l0 (ji17))))) q029 ql29 q29 hroom29
                                                  have hr29 := Kd.F_mid (lo := ((ji23) : Int).toNat) (hi := ((wrap64 ((ji23) + (wrap64 (rd l0 (ji17))))) : Int).toNat) (c := c0) hC29 (by omega) (by omega) hroom29
                                                  obtain ⟨A29, hA29⟩ : ∃ A1, A1 = (if c0 = ((ji23) : Int).toNat then (some ad103) else ((some ad103) : Option Addr).map (·.add (((ji23) : Int).toNat * 1))) := ⟨_, rfl⟩
                                                  obtain ⟨c29, hc29⟩ : ∃ c1, c1 = c0 - ((ji23) : Int).toNat := ⟨_, rfl⟩
                                                  have hy29 : y108.length = ((wrap64 ((ji23) + (wrap64 (rd l0 (ji17))))) : Int).toNat - ((ji23) : Int).toNat := (by rw [Ny108.out, List.length_drop, List.length_take] <;> omega)
                                                  rw [show ((l0).take ((wrap64 ((ji23) + (wrap64 (rd l0 (ji17))))) : Int).toNat).drop ((ji23) : Int).toNat = y108 from Ny108.out.symm] at hr29
                                                  replace hr29 : Kd.F (Kd.int .u8) _ _ A29 y108.length y108 := (by rw [hA29]; exact hr29)
                                                  rw [← hy29, ← hA29, ← hc29] at hcut29
                                                  have HO112 := Aside0.mk (show Kd.V (Kd.int .u8) 5 _ w.heap.size _ (.slice A29 y108.length c29) y108 from Kd.V_mk (by rw [hy29, hc29]; exact Nat.sub_le_sub_right (Nat.le_trans (by omega) hroom29) _) hr29)
                                                  have HC112 := Aside0.mk (show y108.length ≤ c29 from by rw [hy29, hc29]; exact Nat.sub_le_sub_right (Nat.le_trans (by omega) hroom29) _)
                                                  clear hr29 hC29 hroom29 hi029 hsz29 hc29
                                                  have KY29 := Aside0.mk hy29
                                                  have KA29 := Aside0.mk hA29
                                                  clear hy29 hA29
                                                  replace q29 := eq_true q29
                                                  refine start_ (n := 17) (S := fun w' => w'.cell? (ad103.add (x6_3).toNat) = some (.int .u8 (rd l0 x6_3))) (ds := [14, 15]) #[false, false, false, false, false, false, false, false, false, false, false, false, false, false, false, false, false] (by kernel_rfl) rfl rfl (hx107_0) (fun hHeld => ?_); refine with_tabW consulateref05_Read.tab14 consulateref05_Read.bits14 (fun HT_ HW_ => ?_)
                                                  generalize wr.drew = w28 at HO_0 HO_5 HB HO112 hx107_0 hHeld ⊢
                                                  refine pure_ (i := 0) (N := some 74) (v := ?_) (a' := ?_) #[true, false, false, false, false, false, false, false, false, false, false, false, false, false, false, false, false] rfl rfl (any_of HT_.out (by kernel_rfl)) (fun _ _ _ h => h) (Or.inl ⟨by rfl, ?_⟩) ?_ ?_
                                                  rotate_left
                                                  · intro w'
                                                    go_simp
                                                    with_reducible rfl
                                                  rotate_left
                                                  · simp only [Act.put, List.setIfInBounds_toArray, List.set_cons_zero, List.set_cons_succ, i64_w, i32_w]
                                                    rfl
                                                  refine pure_ (i := 1) (N := some 75) (v := ?_) (a' := ?_) #[true, true, false, false, false, false, false, false, false, false, false, false, false, false, false, false, false] rfl rfl (any_of HT_.out (by kernel_rfl)) (fun _ _ _ h => h) (Or.inl ⟨by rfl, ?_⟩) ?_ ?_
                                                  rotate_left
                                                  · intro w'
                                                    go_simp
                                                    with_reducible rfl
                                                  rotate_left
                                                  · simp only [Act.put, List.setIfInBounds_toArray, List.set_cons_zero, List.set_cons_succ, i64_w, i32_w]
                                                    rfl
                                                  refine pure_ (i := 2) (N := some 76) (v := ?_) (a' := ?_) #[true, true, true, false, false, false, false, false, false, false, false, false, false, false, false, false, false] rfl rfl (any_of HT_.out (by kernel_rfl)) (fun _ _ _ h => h) (Or.inl ⟨by rfl, ?_⟩) ?_ ?_
                                                  rotate_left
                                                  · intro w'
                                                    go_simp
                                                    with_reducible rfl
                                                  rotate_left
                                                  · simp only [Act.put, List.setIfInBounds_toArray, List.set_cons_zero, List.set_cons_succ, i64_w, i32_w]
                                                    rfl
                                                  refine pure_ (i := 3) (N := some 77) (v := ?_) (a' := ?_) #[true, true, true, true, false, false, false, false, false, false, false, false, false, false, false, false, false] rfl rfl (any_of HT_.out (by kernel_rfl)) (fun _ _ _ h => h) (Or.inl ⟨by rfl, ?_⟩) ?_ ?_
                                                  rotate_left
                                                  · intro w'
                                                    go_simp
                                                    with_reducible rfl
                                                  rotate_left
                                                  · simp only [Act.put, List.setIfInBounds_toArray, List.set_cons_zero, List.set_cons_succ, i64_w, i32_w]
                                                    rfl
                                                  refine pure_ (i := 5) (N := some 79) (v := ?_) (a' := ?_) #[true, true, true, true, false, true, false, false, false, false, false, false, false, false, false, false, false] rfl rfl (any_of HT_.out (by kernel_rfl)) (fun _ _ _ h => h) (Or.inl ⟨by rfl, ?_⟩) ?_ ?_
                                                  rotate_left
                                                  · intro w'
                                                    go_simp
                                                    with_reducible rfl
                                                  rotate_left
                                                  · simp only [Act.put, List.setIfInBounds_toArray, List.set_cons_zero, List.set_cons_succ, i64_w, i32_w]
                                                    rfl
                                                  refine pure_ (i := 6) (N := some 80) (v := ?_) (a' := ?_) #[true, true, true, true, false, true, true, false, false, false, false, false, false, false, false, false, false] rfl rfl (any_of HT_.out (by kernel_rfl)) (fun _ _ _ h => h) (Or.inl ⟨by rfl, ?_⟩) ?_ ?_
                                                  rotate_left
                                                  · intro w'
                                                    go_simp
                                                    with_reducible rfl
                                                  rotate_left
                                                  · simp only [Act.put, List.setIfInBounds_toArray, List.set_cons_zero, List.set_cons_succ, i64_w, i32_w]
                                                    rfl
                                                  refine pure_ (i := 7) (N := some 81) (v := ?_) (a' := ?_) #[true, true, true, true, false, true, true, true, false, false, false, false, false, false, false, false, false] rfl rfl (any_of HT_.out (by kernel_rfl)) (fun _ _ _ h => h) (Or.inl ⟨by rfl, ?_⟩) ?_ ?_
                                                  rotate_left
                                                  · intro w'
                                                    go_simp
                                                    with_reducible rfl
                                                  rotate_left
                                                  · simp only [Act.put, List.setIfInBounds_toArray, List.set_cons_zero, List.set_cons_succ, i64_w, i32_w]
                                                    rfl
                                                  refine pure_ (i := 8) (N := some 82) (v := ?_) (a' := ?_) #[true, true, true, true, false, true, true, true, true, false, false, false, false, false, false, false, false] rfl rfl (any_of HT_.out (by kernel_rfl)) (fun _ _ _ h => h) (Or.inl ⟨by rfl, ?_⟩) ?_ ?_
                                                  rotate_left
                                                  · intro w'
                                                    go_simp
                                                    with_reducible rfl
                                                  rotate_left
                                                  · simp only [Act.put, List.setIfInBounds_toArray, List.set_cons_zero, List.set_cons_succ, i64_w, i32_w]
                                                    rfl
                                                  refine pure_ (i := 9) (N := some 83) (v := ?_) (a' := ?_) #[true, true, true, true, false, true, true, true, true, true, false, false, false, false, false, false, false] rfl rfl (any_of HT_.out (by kernel_rfl)) (fun _ _ _ h => h) (Or.inl ⟨by rfl, ?_⟩) ?_ ?_
                                                  rotate_left
                                                  · intro w'
                                                    go_simp
                                                    with_reducible rfl
                                                  rotate_left
                                                  · simp only [Act.put, List.setIfInBounds_toArray, List.set_cons_zero, List.set_cons_succ, i64_w, i32_w]
                                                    rfl
                                                  refine pure_ (i := 10) (N := some 84) (v := ?_) (a' := ?_) #[true, true, true, true, false, true, true, true, true, true, true, false, false, false, false, false, false] rfl rfl (any_of HT_.out (by kernel_rfl)) (fun _ _ _ h => h) (Or.inl ⟨by rfl, ?_⟩) ?_ ?_
                                                  rotate_left
                                                  · intro w'
                                                    go_simp
                                                    with_reducible rfl
                                                  rotate_left
                                                  · simp only [Act.put, List.setIfInBounds_toArray, List.set_cons_zero, List.set_cons_succ, i64_w, i32_w]
                                                    rfl
                                                  refine pure_ (i := 11) (N := some 85) (v := ?_) (a' := ?_) #[true, true, true, true, false, true, true, true, true, true, true, true, false, false, false, false, false] rfl rfl (any_of HT_.out (by kernel_rfl)) (fun _ _ _ h => h) (Or.inl ⟨by rfl, ?_⟩) ?_ ?_
                                                  rotate_left
                                                  · intro w'
                                                    go_simp
                                                    with_reducible rfl
                                                  rotate_left
                                                  · simp only [Act.put, List.setIfInBounds_toArray, List.set_cons_zero, List.set_cons_succ, i64_w, i32_w]
                                                    rfl
                                                  refine pure_ (i := 12) (N := some 86) (v := ?_) (a' := ?_) #[true, true, true, true, false, true, true, true, true, true, true, true, true, false, false, false, false] rfl rfl (any_of HT_.out (by kernel_rfl)) (fun _ _ _ h => h) (Or.inl ⟨by rfl, ?_⟩) ?_ ?_
                                                  rotate_left
                                                  · intro w'
                                                    go_simp
                                                    with_reducible rfl
                                                  rotate_left
                                                  · simp only [Act.put, List.setIfInBounds_toArray, List.set_cons_zero, List.set_cons_succ, i64_w, i32_w]
                                                    rfl
                                                  refine take_ (i := 4) (N := some 78) (v := ?_) (a' := ?_) #[true, true, true, true, true, true, true, true, true, true, true, true, true, false, false, false, false] rfl rfl (take_ofW HT_.out HW_.out (by kernel_rfl)) (fun _ _ _ h => h) (Or.inl ⟨by rfl, ?_⟩) hHeld ?_ ?_
                                                  rotate_left
                                                  · intro w' s0
                                                    go_simp
                                                    with_reducible rfl
                                                  rotate_left
                                                  · simp only [Act.put, List.setIfInBounds_toArray, List.set_cons_zero, List.set_cons_succ, i64_w, i32_w]
                                                    rfl
                                                  refine pure_ (i := 13) (N := some 87) (v := ?_) (a' := ?_) #[true, true, true, true, true, true, true, true, true, true, true, true, true, true, false, false, false] rfl rfl (any_of HT_.out (by kernel_rfl)) (fun _ _ _ h => h) (Or.inl ⟨by rfl, ?_⟩) ?_ ?_
                                                  rotate_left
                                                  · intro w'
                                                    go_simp
                                                    with_reducible rfl
                                                  rotate_left
                                                  · simp only [Act.put, List.setIfInBounds_toArray, List.set_cons_zero, List.set_cons_succ, i64_w, i32_w]
                                                    rfl
                                                  refine last_ (i := 14) (N := some 88) #[true, true, true, true, true, true, true, true, true, true, true, true, true, true, true, false, false] rfl rfl (one_of HT_.out (by kernel_rfl)) (by decide) (fun K hK => ?_)
                                                  refine value_ (w1 := ?_) (v := ?_) (by rfl) rfl ?_ ?_
                                                  rotate_left 2
                                                  · go_simp
                                                    constructor
                                                    · rfl
                                                    · rfl
                                                  refine hK.out _ _ ?_
                                                  clear hK K
                                                  refine norm_ (a' := ?_) ?_ ?_
                                                  rotate_left
                                                  · show Act.put _ (some 88) _ = _
                                                    simp only [Act.put, List.setIfInBounds_toArray, List.set_cons_zero, List.set_cons_succ, i64_w, i32_w]
                                                    rfl
                                                  refine last_ (i := 15) (N := some 89) #[true, true, true, true, true, true, true, true, true, true, true, true, true, true, true, true, false] rfl rfl (one_of HT_.out (by kernel_rfl)) (by decide) (fun K hK => ?_)
                                                  refine Kd.N_append_step k99 (w0 := w) w.heap.size (by rfl) (.tmp 74) (.tmp 88) 29 99 (.agg #[(.int .u8 0), (.slice none 0 0)]) 32 rfl Tryd.underlying29 info99 rfl (by decide) (by omega) u5 x5_3 (⟨rd l0 x6_3, y108⟩ : S99) [.int .u8 (rd l0 x6_3), .slice A29 y108.length c29] (fun k_ => (P0_ k_ ∨ w.heap.size ≤ k_)) (fun k_ => ((fun k_ => (P0_ k_ ∨ w.heap.size ≤ k_))) k_ ∧ some k_ ≠ (u5 : Value).ownBlock) rfl rfl ?aP (fun _ hk => hk) ?aF ?aO ?aB ?aS ?aL ?_
                                                  (case aP => exact (k99_mkF _ _ (⟨rd l0 x6_3, y108⟩ : S99) (Kd.V_reads' (Kd.V_mono (ok' := (fun k_ => ((fun k_ => (P0_ k_ ∨ w.heap.size ≤ k_))) k_ ∧ some k_ ≠ (u5 : Value).ownBlock)) (HO112.out) (fun k_ hk => ⟨hk.1, hk.2⟩))).2.1 (Kd.V_F (Kd.V_mono (ok' := (fun k_ => ((fun k_ => (P0_ k_ ∨ w.heap.size ≤ k_))) k_ ∧ some k_ ≠ (u5 : Value).ownBlock)) (HO112.out) (fun k_ hk => ⟨hk.1, hk.2⟩)))))
                                                  (case aB => exact (by repeat (first | (with_reducible first | exact HB.out | apply below_alloc | apply pw_below_drewN | apply below_drew1) | exact HB.out)))
                                                  (case aF => exact (fun k_ hk => (.inr (Nat.le_trans (below_size (by repeat (first | (with_reducible first | exact HB.out | apply below_alloc | apply pw_below_drewN | apply below_drew1) | exact HB.out))) hk))))
                                                  (case aO => exact (by (with_reducible repeat (first | apply Kd.N_alloc | apply Kd.N_drewN | apply Kd.N_drew)); exact HO_5.out))
                                                  (case aS => exact (below_size (by repeat (first | (with_reducible first | exact HB.out | apply below_alloc | apply pw_below_drewN | apply below_drew1) | exact HB.out))))
                                                  (case aL => have := LMc27.out; omega)
                                                  intro v114 w30 ho hb hg hat
                                                  rw [← Ny113.out] at ho
                                                  have n0_ := Aside0.mk (Kd.V_afterv (ok := (fun k_ => (P0_ k_ ∨ w.heap.size ≤ k_))) (by (with_reducible repeat (first | apply Kd.V_alloc | apply Kd.V_drewN | apply Kd.V_drew)); exact HO_0.out) hg hat)
                                                  have n1_ := Aside0.mk (Kd.V_afterv (ok := (fun k_ => (P0_ k_ ∨ w.heap.size ≤ k_))) (by (with_reducible repeat (first | apply Kd.V_alloc | apply Kd.V_drewN | apply Kd.V_drew)); exact HO112.out) hg hat)
                                                  have n2_ := Aside0.mk (hb)
                                                  have n3_ := Aside0.mk (ho)
                                                  clear HO_0
                                                  clear HO112
                                                  clear HB
                                                  clear HO_5
                                                  have HO_0 := n0_
                                                  have HO112 := n1_
                                                  have HB := n2_
                                                  have HO115 := n3_
                                                  clear n0_ n1_ n2_ n3_
                                                  clear ho hb hg hat
                                                  refine hK.out _ _ ?_
                                                  clear hK K
                                                  refine norm_ (a' := ?_) ?_ ?_
                                                  rotate_left
                                                  · show Act.put _ (some 89) _ = _
                                                    simp only [Act.put, List.setIfInBounds_toArray, List.set_cons_zero, List.set_cons_succ, i64_w, i32_w]
                                                    rfl
                                                  refine pure_ (i := 16) (N := some 5) (v := ?_) (a' := ?_) #[true, true, true, true, true, true, true, true, true, true, true, true, true, true, true, true, true] rfl rfl (any_of HT_.out (by kernel_rfl)) (fun _ _ _ h => h) (Or.inl ⟨by rfl, ?_⟩) ?_ ?_
                                                  rotate_left
                                                  · intro w'
                                                    go_simp
                                                    with_reducible rfl
                                                  rotate_left
                                                  · simp only [Act.put, List.setIfInBounds_toArray, List.set_cons_zero, List.set_cons_succ, i64_w, i32_w]
                                                    rfl
                                                  refine done_ (done_of HT_.out (by kernel_rfl)) ?_
                                                  try go_wp2
                                                  go_roundg k3
                                                  case measure => have := HK1.out; have := HJ2.out; have := HK3.out; omega
                                                  case rel => exact ⟨(y113), (wrap64 ((ji23) + (wrap64 (rd l0 (ji17))))), (by first | rfl | (simp; done) | (simp only [← hji17, ← hji23] <;> (first | rfl | simp)) | (simp [*]; done)), H', ⟨by have := HK1.out; have := HJ2.out; have := HK3.out; omega⟩, ⟨by (with_reducible repeat (first | apply Kd.V_alloc | apply Kd.V_drewN | apply Kd.V_drew)); exact HO_0.out⟩, ⟨by (with_reducible repeat (first | apply Kd.N_alloc | apply Kd.N_drewN | apply Kd.N_drew)); exact HO115.out⟩, ⟨by repeat (first | (with_reducible first | exact HB.out | apply below_alloc | apply pw_below_drewN | apply below_drew1) | exact HB.out)⟩⟩
                                                · rw [if_neg c27] at H
                                                  exact absurd H (by simp)
                                              · rw [if_neg c26] at H
                                                exact absurd H (by simp)
                                            · rw [if_neg c25] at H
                                              exact absurd H (by simp)
                                          · rw [if_neg c24] at H
                                            exact absurd H (by simp)
                                        · rw [if_neg c22] at H
                                          exact absurd H (by simp)
                                      · rw [if_neg c21] at H
                                        exact absurd H (by simp)
                                  · rw [if_neg c19] at H
                                    exact absurd H (by simp)
                                · rw [if_neg c18] at H
                                  exact absurd H (by simp)
                            · rw [if_neg c15] at H
                              have c15b0 : decide (x6_3 < (wrap64 ((wrap64 (x6_1 + 2)) + (wrap64 (rd l0 (ji12)))))) = false := decide_eq_false c15
                              clear c15
                              have H' := Aside0.mk H
                              clear H
                              go_wp2
                              go_roundg k3
                              case measure => have := HK1.out; have := HJ2.out; have := HK3.out; omega
                              case rel => exact ⟨(x5_3), (x6_3), (by first | rfl | (simp; done) | (simp [*]; done)), H', ⟨by have := HK1.out; have := HJ2.out; have := HK3.out; omega⟩, ⟨by (with_reducible repeat (first | apply Kd.V_alloc | apply Kd.V_drewN | apply Kd.V_drew)); exact HO_0.out⟩, ⟨by (with_reducible repeat (first | apply Kd.N_alloc | apply Kd.N_drewN | apply Kd.N_drew)); exact HO_5.out⟩, ⟨by repeat (first | (with_reducible first | exact HB.out | apply below_alloc | apply pw_below_drewN | apply below_drew1) | exact HB.out)⟩⟩
                      · rw [if_neg c14] at H
                        exact absurd H (by simp)
                    · rw [if_neg c13] at H
                      exact absurd H (by simp)
                  · rw [if_neg c11] at H
                    have c11b0 : ((rd l0 x6_1) == 2) = false := beq_eq_false_iff_ne.mpr c11
                    have c11b1 : ((rd l0 x6_1) != 2) = true := bne_iff_ne.mpr c11
                    simp only [Option.some.injEq, Prod.mk.injEq] at H
                    obtain ⟨rfl, rfl, rfl⟩ := H
                    have p103 : 0 ≤ (x6_1 : Int) := of_decide_eq_true (by first | (with_reducible assumption) | assumption)
                    have q103 : x6_1 < (l0.length : Int) := of_decide_eq_true (by first | (with_reducible assumption) | assumption)
                    obtain ⟨ad103, e103, hx103_0⟩ := Kd.at_int (Kd.V_reads' HO_0.out).2.2 x6_1 p103 q103
                    cases e103
                    replace p103 := eq_true p103
                    replace q103 := eq_true q103
                    go_wp2
                    go_ret3
                    exact ⟨_, by first | rfl | (simp [errW_none, errW_some] <;> rfl) | (simp [*, errW_none, errW_some] <;> rfl), by first | exact Kd.S_nil _ _ _ _ _ | exact Kd.N_nil _ _ _ _ _ | exact Kd.V_nil _ _ _ _ _ | exact Kd.Q_nil _ _ _ _ _ | exact Kd.R_nil _ _ _ _ _, by repeat (first | (with_reducible first | exact HB.out | apply below_alloc | apply pw_below_drewN | apply below_drew1) | exact HB.out)⟩
                · rw [if_neg c10] at H
                  exact absurd H (by simp)
              · rw [if_neg c9] at H
                exact absurd H (by simp)
      · rw [if_neg c2] at H
        have c2b0 : decide (x6_1 < (l0.length : Int)) = false := decide_eq_false c2
        clear c2
        simp only [Option.some.injEq, Prod.mk.injEq] at H
        obtain ⟨rfl, rfl, rfl⟩ := H
        go_wp2
        go_ret3
        exact ⟨_, by first | rfl | (simp [errW_none, errW_some] <;> rfl) | (simp [*, errW_none, errW_some] <;> rfl), by (with_reducible repeat (first | apply Kd.N_alloc | apply Kd.N_drewN | apply Kd.N_drew)); exact HO_5.out, by repeat (first | (with_reducible first | exact HB.out | apply below_alloc | apply pw_below_drewN | apply below_drew1) | exact HB.out)⟩

/-! ### bytes_Equal: function 19 -/
def bytes_Equal.f (l0 : List Int) (l1 : List Int) : Option (Bool) := some ((strOfNums l0).toList == (strOfNums l1).toList)
set_option maxHeartbeats 8000000 in
set_option maxRecDepth 100000 in
theorem bytes_Equal.calls (A0 : Option Addr) (c0 : Nat) (l0 : List Int) (A1 : Option Addr) (c1 : Nat) (l1 : List Int) (r : Bool) (w : World) (hr0 : Kd.C (Kd.int .u8) w A0 l0.length l0) (hc0 : l0.length ≤ c0) (hr1 : Kd.C (Kd.int .u8) w A1 l1.length l1) (hc1 : l1.length ≤ c1) (h : bytes_Equal.f l0 l1 = some r) :
    Calls Tryd.prog 19 #[.slice A0 l0.length c0, .slice A1 l1.length c1] w fun e w' => e = .returned (.bool r) ∧ Drawn0 w w' := by
  have HR0 := Aside0.mk hr0
  have HC0 := Aside0.mk hc0
  clear hr0 hc0
  have HR1 := Aside0.mk hr1
  have HC1 := Aside0.mk hc1
  clear hr1 hc1
  have H : (some ((strOfNums l0).toList == (strOfNums l1).toList)) = some r := h
  clear h
  obtain rfl := Option.some.inj H
  have hcv3 := Kd.C_string (P := Tryd.prog) (A := A0) (c := c0) Tryd.underlying22 Tryd.underlying5 Tryd.underlying9 HR0.out
  have hcv4 := Kd.C_string (P := Tryd.prog) (A := A1) (c := c1) Tryd.underlying22 Tryd.underlying5 Tryd.underlying9 HR1.out
  go_enter Tryd.func19, Tryd.ntmps19
  go_wp2
  go_ret
  exact ⟨by first | rfl | (simp; done) | (simp [*]; done), by repeat (first | exact Drawn0.refl _ | apply Drawn0.step)⟩

end Go.Proofs.YthafedmlbialiaaDoor.PA
