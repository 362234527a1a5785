-- Written by the kit's print.py, all laws of the seat in one call (wip/tools/print-all.sh).
import Derived.Test.YthafedmlbialiaaDoorTPAx0
namespace Go.Proofs.YthafedmlbialiaaDoor.PA
open Go.RowKit Go.Proofs.YthafedmlbialiaaDoorW.PrintWords Go.Proofs.YthafedmlbialiaaDoorW.PrintLast Go.Proofs.YthafedmlbialiaaDoorW.PrintMore
attribute [local go_sem] max2_int min2_int max_two min_two max_three min_three max_four min_four   -- for this text's walks alone
set_option linter.unusedVariables false
set_option linter.unusedSimpArgs false

/-! ### consulateref05_IPv4: function 38 -/
def consulateref05_IPv4.l0 : Nat → List (S99) → Bool → Int → Option (Bool)
  | 0, _, _, _ => none
  | k + 1, x0, x3, x4 => if x4 < (x0.length : Int) then (if 0 ≤ x4 then (if ((rd_T99 x0 x4).f0) = 1 then (if (((rd_T99 x0 x4).f1).length : Int) = 4 then (if 0 < (((rd_T99 x0 x4).f1).length : Int) then (if (rd ((rd_T99 x0 x4).f1) 0) = 0 then (if 1 < (((rd_T99 x0 x4).f1).length : Int) then (if (rd ((rd_T99 x0 x4).f1) 1) = 1 then (if 2 < (((rd_T99 x0 x4).f1).length : Int) then (if (rd ((rd_T99 x0 x4).f1) 2) = 0 then (if 3 < (((rd_T99 x0 x4).f1).length : Int) then (if (rd ((rd_T99 x0 x4).f1) 3) = 1 then (some true) else (consulateref05_IPv4.l0 k x0 true (wrap64 (x4 + 1)))) else (none)) else (consulateref05_IPv4.l0 k x0 true (wrap64 (x4 + 1)))) else (none)) else (consulateref05_IPv4.l0 k x0 true (wrap64 (x4 + 1)))) else (none)) else (consulateref05_IPv4.l0 k x0 true (wrap64 (x4 + 1)))) else (none)) else (consulateref05_IPv4.l0 k x0 true (wrap64 (x4 + 1)))) else (consulateref05_IPv4.l0 k x0 x3 (wrap64 (x4 + 1)))) else (none)) else (some (!x3))
def consulateref05_IPv4.f (k : Nat) (l0 : List (S99)) : Option (Bool) := consulateref05_IPv4.l0 k l0 false 0
set_option maxHeartbeats 8000000 in
set_option maxRecDepth 100000 in
theorem consulateref05_IPv4.calls (k : Nat) (A0 : Option Addr) (c0 : Nat) (l0 : List (S99)) (r : Bool) (w : World) (hr0 : Kd.C k99 w A0 l0.length l0) (hc0 : l0.length ≤ c0) (h : consulateref05_IPv4.f k l0 = some r) :
    Calls Tryd.prog 38 #[.slice A0 l0.length c0] w fun e w' => e = .returned (.bool r) ∧ Drawn0 w w' := by
  have HR0 := Aside0.mk hr0
  have HC0 := Aside0.mk hc0
  clear hr0 hc0
  have H : (consulateref05_IPv4.l0 k l0 false 0) = some r := h
  clear h
  have H' := Aside0.mk H
  clear H
  go_enter Tryd.func38, Tryd.ntmps38
  go_wp2
  go_loopg [3, 4] k (fun kq v3 v4 w' => ∃ (x3_1 : Bool) (x4_1 : Int), v3 = .bool x3_1 ∧ v4 = .int .i64 x4_1 ∧ Aside0 (consulateref05_IPv4.l0 kq l0 x3_1 x4_1 = some r) ∧ Aside0 (kq ≤ k) ∧ Drawn0 w w')
  case atStart => exact ⟨(false), (0), (by first | rfl | (simp; done) | (simp [*]; done)), (by first | rfl | (simp; done) | (simp [*]; done)), H', ⟨Nat.le_refl _⟩, by repeat (first | exact Drawn0.refl _ | apply Drawn0.step)⟩
  case round =>
    clear H'
    obtain ⟨x3_1, x4_1, rfl, rfl, HA, HK1, ⟨m1, rfl⟩⟩ := hrel
    cases gk with
    | zero => exact absurd HA.out (by simp [consulateref05_IPv4.l0])
    | succ k1 =>
      have H := HA.out
      clear HA
      simp only [consulateref05_IPv4.l0] at H
      by_cases c2 : x4_1 < (l0.length : Int)
      · rw [if_pos c2] at H
        have c2b0 : decide (x4_1 < (l0.length : Int)) = true := decide_eq_true c2
        clear c2
        by_cases c3 : 0 ≤ x4_1
        · rw [if_pos c3] at H
          have c3b0 : decide (0 ≤ x4_1) = true := decide_eq_true c3
          clear c3
          by_cases c4 : ((rd_T99 l0 x4_1).f0) = 1
          · rw [if_pos c4] at H
            have c4b0 : (((rd_T99 l0 x4_1).f0) == 1) = true := beq_iff_eq.mpr c4
            have c4b1 : (((rd_T99 l0 x4_1).f0) != 1) = false := bne_eq_false_iff_eq.mpr c4
            clear c4
            by_cases c5 : (((rd_T99 l0 x4_1).f1).length : Int) = 4
            · rw [if_pos c5] at H
              have c5b0 : ((((rd_T99 l0 x4_1).f1).length : Int) == 4) = true := beq_iff_eq.mpr c5
              have c5b1 : ((((rd_T99 l0 x4_1).f1).length : Int) != 4) = false := bne_eq_false_iff_eq.mpr c5
              clear c5
              by_cases c6 : 0 < (((rd_T99 l0 x4_1).f1).length : Int)
              · rw [if_pos c6] at H
                have c6b0 : decide (0 < (((rd_T99 l0 x4_1).f1).length : Int)) = true := decide_eq_true c6
                have c6b1 : decide (0 < ((rd_T99 l0 x4_1).f1).length) = true := decide_eq_true (by omega)
                clear c6
                by_cases c7 : (rd ((rd_T99 l0 x4_1).f1) 0) = 0
                · rw [if_pos c7] at H
                  have c7b0 : ((rd ((rd_T99 l0 x4_1).f1) 0) == 0) = true := beq_iff_eq.mpr c7
                  have c7b1 : ((rd ((rd_T99 l0 x4_1).f1) 0) != 0) = false := bne_eq_false_iff_eq.mpr c7
                  clear c7
                  by_cases c8 : 1 < (((rd_T99 l0 x4_1).f1).length : Int)
                  · rw [if_pos c8] at H
                    have c8b0 : decide (1 < (((rd_T99 l0 x4_1).f1).length : Int)) = true := decide_eq_true c8
                    have c8b1 : decide (1 < ((rd_T99 l0 x4_1).f1).length) = true := decide_eq_true (by omega)
                    clear c8
                    by_cases c9 : (rd ((rd_T99 l0 x4_1).f1) 1) = 1
                    · rw [if_pos c9] at H
                      have c9b0 : ((rd ((rd_T99 l0 x4_1).f1) 1) == 1) = true := beq_iff_eq.mpr c9
                      have c9b1 : ((rd ((rd_T99 l0 x4_1).f1) 1) != 1) = false := bne_eq_false_iff_eq.mpr c9
                      clear c9
                      by_cases c10 : 2 < (((rd_T99 l0 x4_1).f1).length : Int)
                      · rw [if_pos c10] at H
                        have c10b0 : decide (2 < (((rd_T99 l0 x4_1).f1).length : Int)) = true := decide_eq_true c10
                        have c10b1 : decide (2 < ((rd_T99 l0 x4_1).f1).length) = true := decide_eq_true (by omega)
                        clear c10
                        by_cases c11 : (rd ((rd_T99 l0 x4_1).f1) 2) = 0
                        · rw [if_pos c11] at H
                          have c11b0 : ((rd ((rd_T99 l0 x4_1).f1) 2) == 0) = true := beq_iff_eq.mpr c11
                          have c11b1 : ((rd ((rd_T99 l0 x4_1).f1) 2) != 0) = false := bne_eq_false_iff_eq.mpr c11
                          clear c11
                          by_cases c12 : 3 < (((rd_T99 l0 x4_1).f1).length : Int)
                          · rw [if_pos c12] at H
                            have c12b0 : decide (3 < (((rd_T99 l0 x4_1).f1).length : Int)) = true := decide_eq_true c12
                            have c12b1 : decide (3 < ((rd_T99 l0 x4_1).f1).length) = true := decide_eq_true (by omega)
                            clear c12
                            by_cases c13 : (rd ((rd_T99 l0 x4_1).f1) 3) = 1
                            · rw [if_pos c13] at H
                              have c13b0 : ((rd ((rd_T99 l0 x4_1).f1) 3) == 1) = true := beq_iff_eq.mpr c13
                              have c13b1 : ((rd ((rd_T99 l0 x4_1).f1) 3) != 1) = false := bne_eq_false_iff_eq.mpr c13
                              clear c13
                              obtain rfl := Option.some.inj H
                              have p253 : 0 ≤ (x4_1 : Int) := of_decide_eq_true (by first | (with_reducible assumption) | assumption)
                              have q253 : x4_1 < (l0.length : Int) := of_decide_eq_true (by first | (with_reducible assumption) | assumption)
                              obtain ⟨ad253, A253_1, c253_1, e253, hx253_0, hx253_1, hl253_1, hi253_1⟩ := at_T99 HR0.out x4_1 p253 q253
                              cases e253
                              have HR253_1 := Aside0.mk hi253_1
                              have HC253_1 := Aside0.mk hl253_1
                              clear hi253_1 hl253_1
                              replace p253 := eq_true p253
                              replace q253 := eq_true q253
                              have p254 : 0 ≤ (x4_1 : Int) := of_decide_eq_true (by first | (with_reducible assumption) | assumption)
                              have q254 : x4_1 < (l0.length : Int) := of_decide_eq_true (by first | (with_reducible assumption) | assumption)
                              obtain ⟨ad254, A254_1, c254_1, e254, hx254_0, hx254_1, hl254_1, hi254_1⟩ := at_T99 HR0.out x4_1 p254 q254
                              obtain rfl : ad253 = ad254 := (by injection e254)
                              have HR254_1 := Aside0.mk hi254_1
                              have HC254_1 := Aside0.mk hl254_1
                              clear hi254_1 hl254_1
                              replace p254 := eq_true p254
                              replace q254 := eq_true q254
                              have ea_ := Option.some.inj (hx253_1.symm.trans hx254_1)
                              injection ea_ with ea_ en_ ec_
                              subst ea_
                              subst ec_
                              clear en_
                              have p255 : 0 ≤ (0 : Int) := (by omega)
                              have q255 : 0 < (((rd_T99 l0 x4_1).f1).length : Int) := of_decide_eq_true (by first | (with_reducible assumption) | assumption)
                              obtain ⟨ad255, e255, hx255_0⟩ := Kd.at_int HR253_1.out 0 p255 q255
                              cases e255
                              have qi255 : (0 < ((rd_T99 l0 x4_1).f1).length) = True := eq_true (by omega)
                              (try rw [show ((0 : Int)).toNat = 0 from rfl] at hx255_0)
                              (try rw [Addr.add_zero'] at hx255_0)
                              replace p255 := eq_true p255
                              replace q255 := eq_true q255
                              have p256 : 0 ≤ (1 : Int) := (by omega)
                              have q256 : 1 < (((rd_T99 l0 x4_1).f1).length : Int) := of_decide_eq_true (by first | (with_reducible assumption) | assumption)
                              obtain ⟨ad256, e256, hx256_0⟩ := Kd.at_int HR253_1.out 1 p256 q256
                              obtain rfl : ad255 = ad256 := (by injection e256)
                              (try simp only [show (1 : Int).toNat = 1 from rfl, Nat.reduceMul, Nat.reduceEqDiff, Go.Addr.add, ↓reduceIte] at hx256_0)
                              have qi256 : (1 < ((rd_T99 l0 x4_1).f1).length) = True := eq_true (by omega)
                              (try rw [show ((1 : Int)).toNat = 1 from rfl] at hx256_0)
                              replace p256 := eq_true p256
                              replace q256 := eq_true q256
                              have p257 : 0 ≤ (2 : Int) := (by omega)
                              have q257 : 2 < (((rd_T99 l0 x4_1).f1).length : Int) := of_decide_eq_true (by first | (with_reducible assumption) | assumption)
                              obtain ⟨ad257, e257, hx257_0⟩ := Kd.at_int HR253_1.out 2 p257 q257
                              obtain rfl : ad255 = ad257 := (by injection e257)
                              (try simp only [show (2 : Int).toNat = 2 from rfl, Nat.reduceMul, Nat.reduceEqDiff, Go.Addr.add, ↓reduceIte] at hx257_0)
                              have qi257 : (2 < ((rd_T99 l0 x4_1).f1).length) = True := eq_true (by omega)
                              (try rw [show ((2 : Int)).toNat = 2 from rfl] at hx257_0)
                              replace p257 := eq_true p257
                              replace q257 := eq_true q257
                              have p258 : 0 ≤ (3 : Int) := (by omega)
                              have q258 : 3 < (((rd_T99 l0 x4_1).f1).length : Int) := of_decide_eq_true (by first | (with_reducible assumption) | assumption)
                              obtain ⟨ad258, e258, hx258_0⟩ := Kd.at_int HR253_1.out 3 p258 q258
                              obtain rfl : ad255 = ad258 := (by injection e258)
                              (try simp only [show (3 : Int).toNat = 3 from rfl, Nat.reduceMul, Nat.reduceEqDiff, Go.Addr.add, ↓reduceIte] at hx258_0)
                              have qi258 : (3 < ((rd_T99 l0 x4_1).f1).length) = True := eq_true (by omega)
                              (try rw [show ((3 : Int)).toNat = 3 from rfl] at hx258_0)
                              replace p258 := eq_true p258
                              replace q258 := eq_true q258
                              go_wp2
                              go_ret
                              exact ⟨by first | rfl | (simp; done) | (simp [*]; done), by repeat (first | exact Drawn0.refl _ | apply Drawn0.step)⟩
                            · rw [if_neg c13] at H
                              have c13b0 : ((rd ((rd_T99 l0 x4_1).f1) 3) == 1) = false := beq_eq_false_iff_ne.mpr c13
                              have c13b1 : ((rd ((rd_T99 l0 x4_1).f1) 3) != 1) = true := bne_iff_ne.mpr c13
                              have H' := Aside0.mk H
                              clear H
                              have p253 : 0 ≤ (x4_1 : Int) := of_decide_eq_true (by first | (with_reducible assumption) | assumption)
                              have q253 : x4_1 < (l0.length : Int) := of_decide_eq_true (by first | (with_reducible assumption) | assumption)
                              obtain ⟨ad253, A253_1, c253_1, e253, hx253_0, hx253_1, hl253_1, hi253_1⟩ := at_T99 HR0.out x4_1 p253 q253
                              cases e253
                              have HR253_1 := Aside0.mk hi253_1
                              have HC253_1 := Aside0.mk hl253_1
                              clear hi253_1 hl253_1
                              replace p253 := eq_true p253
                              replace q253 := eq_true q253
                              have p254 : 0 ≤ (x4_1 : Int) := of_decide_eq_true (by first | (with_reducible assumption) | assumption)
                              have q254 : x4_1 < (l0.length : Int) := of_decide_eq_true (by first | (with_reducible assumption) | assumption)
                              obtain ⟨ad254, A254_1, c254_1, e254, hx254_0, hx254_1, hl254_1, hi254_1⟩ := at_T99 HR0.out x4_1 p254 q254
                              obtain rfl : ad253 = ad254 := (by injection e254)
                              have HR254_1 := Aside0.mk hi254_1
                              have HC254_1 := Aside0.mk hl254_1
                              clear hi254_1 hl254_1
                              replace p254 := eq_true p254
                              replace q254 := eq_true q254
                              have ea_ := Option.some.inj (hx253_1.symm.trans hx254_1)
                              injection ea_ with ea_ en_ ec_
                              subst ea_
                              subst ec_
                              clear en_
                              have p255 : 0 ≤ (0 : Int) := (by omega)
                              have q255 : 0 < (((rd_T99 l0 x4_1).f1).length : Int) := of_decide_eq_true (by first | (with_reducible assumption) | assumption)
                              obtain ⟨ad255, e255, hx255_0⟩ := Kd.at_int HR253_1.out 0 p255 q255
                              cases e255
                              have qi255 : (0 < ((rd_T99 l0 x4_1).f1).length) = True := eq_true (by omega)
                              (try rw [show ((0 : Int)).toNat = 0 from rfl] at hx255_0)
                              (try rw [Addr.add_zero'] at hx255_0)
                              replace p255 := eq_true p255
                              replace q255 := eq_true q255
                              have p256 : 0 ≤ (1 : Int) := (by omega)
                              have q256 : 1 < (((rd_T99 l0 x4_1).f1).length : Int) := of_decide_eq_true (by first | (with_reducible assumption) | assumption)
                              obtain ⟨ad256, e256, hx256_0⟩ := Kd.at_int HR253_1.out 1 p256 q256
                              obtain rfl : ad255 = ad256 := (by injection e256)
                              (try simp only [show (1 : Int).toNat = 1 from rfl, Nat.reduceMul, Nat.reduceEqDiff, Go.Addr.add, ↓reduceIte] at hx256_0)
                              have qi256 : (1 < ((rd_T99 l0 x4_1).f1).length) = True := eq_true (by omega)
                              (try rw [show ((1 : Int)).toNat = 1 from rfl] at hx256_0)
                              replace p256 := eq_true p256
                              replace q256 := eq_true q256
                              have p257 : 0 ≤ (2 : Int) := (by omega)
                              have q257 : 2 < (((rd_T99 l0 x4_1).f1).length : Int) := of_decide_eq_true (by first | (with_reducible assumption) | assumption)
                              obtain ⟨ad257, e257, hx257_0⟩ := Kd.at_int HR253_1.out 2 p257 q257
                              obtain rfl : ad255 = ad257 := (by injection e257)
                              (try simp only [show (2 : Int).toNat = 2 from rfl, Nat.reduceMul, Nat.reduceEqDiff, Go.Addr.add, ↓reduceIte] at hx257_0)
                              have qi257 : (2 < ((rd_T99 l0 x4_1).f1).length) = True := eq_true (by omega)
                              (try rw [show ((2 : Int)).toNat = 2 from rfl] at hx257_0)
                              replace p257 := eq_true p257
                              replace q257 := eq_true q257
                              have p258 : 0 ≤ (3 : Int) := (by omega)
                              have q258 : 3 < (((rd_T99 l0 x4_1).f1).length : Int) := of_decide_eq_true (by first | (with_reducible assumption) | assumption)
                              obtain ⟨ad258, e258, hx258_0⟩ := Kd.at_int HR253_1.out 3 p258 q258
                              obtain rfl : ad255 = ad258 := (by injection e258)
                              (try simp only [show (3 : Int).toNat = 3 from rfl, Nat.reduceMul, Nat.reduceEqDiff, Go.Addr.add, ↓reduceIte] at hx258_0)
                              have qi258 : (3 < ((rd_T99 l0 x4_1).f1).length) = True := eq_true (by omega)
                              (try rw [show ((3 : Int)).toNat = 3 from rfl] at hx258_0)
                              replace p258 := eq_true p258
                              replace q258 := eq_true q258
                              go_wp2
                              go_roundg k1
                              case measure => have := HK1.out; omega
                              case rel => exact ⟨(true), (wrap64 (x4_1 + 1)), (by first | rfl | (simp; done) | (simp [*]; done)), (by first | rfl | (simp; done) | (simp [*]; done)), H', ⟨by have := HK1.out; omega⟩, by repeat (first | exact Drawn0.refl _ | apply Drawn0.step)⟩
                          · rw [if_neg c12] at H
                            exact absurd H (by simp)
                        · rw [if_neg c11] at H
                          have c11b0 : ((rd ((rd_T99 l0 x4_1).f1) 2) == 0) = false := beq_eq_false_iff_ne.mpr c11
                          have c11b1 : ((rd ((rd_T99 l0 x4_1).f1) 2) != 0) = true := bne_iff_ne.mpr c11
                          have H' := Aside0.mk H
                          clear H
                          have p253 : 0 ≤ (x4_1 : Int) := of_decide_eq_true (by first | (with_reducible assumption) | assumption)
                          have q253 : x4_1 < (l0.length : Int) := of_decide_eq_true (by first | (with_reducible assumption) | assumption)
                          obtain ⟨ad253, A253_1, c253_1, e253, hx253_0, hx253_1, hl253_1, hi253_1⟩ := at_T99 HR0.out x4_1 p253 q253
                          cases e253
                          have HR253_1 := Aside0.mk hi253_1
                          have HC253_1 := Aside0.mk hl253_1
                          clear hi253_1 hl253_1
                          replace p253 := eq_true p253
                          replace q253 := eq_true q253
                          have p254 : 0 ≤ (x4_1 : Int) := of_decide_eq_true (by first | (with_reducible assumption) | assumption)
                          have q254 : x4_1 < (l0.length : Int) := of_decide_eq_true (by first | (with_reducible assumption) | assumption)
                          obtain ⟨ad254, A254_1, c254_1, e254, hx254_0, hx254_1, hl254_1, hi254_1⟩ := at_T99 HR0.out x4_1 p254 q254
                          obtain rfl : ad253 = ad254 := (by injection e254)
                          have HR254_1 := Aside0.mk hi254_1
                          have HC254_1 := Aside0.mk hl254_1
                          clear hi254_1 hl254_1
                          replace p254 := eq_true p254
                          replace q254 := eq_true q254
                          have ea_ := Option.some.inj (hx253_1.symm.trans hx254_1)
                          injection ea_ with ea_ en_ ec_
                          subst ea_
                          subst ec_
                          clear en_
                          have p255 : 0 ≤ (0 : Int) := (by omega)
                          have q255 : 0 < (((rd_T99 l0 x4_1).f1).length : Int) := of_decide_eq_true (by first | (with_reducible assumption) | assumption)
                          obtain ⟨ad255, e255, hx255_0⟩ := Kd.at_int HR253_1.out 0 p255 q255
                          cases e255
                          have qi255 : (0 < ((rd_T99 l0 x4_1).f1).length) = True := eq_true (by omega)
                          (try rw [show ((0 : Int)).toNat = 0 from rfl] at hx255_0)
                          (try rw [Addr.add_zero'] at hx255_0)
                          replace p255 := eq_true p255
                          replace q255 := eq_true q255
                          have p256 : 0 ≤ (1 : Int) := (by omega)
                          have q256 : 1 < (((rd_T99 l0 x4_1).f1).length : Int) := of_decide_eq_true (by first | (with_reducible assumption) | assumption)
                          obtain ⟨ad256, e256, hx256_0⟩ := Kd.at_int HR253_1.out 1 p256 q256
                          obtain rfl : ad255 = ad256 := (by injection e256)
                          (try simp only [show (1 : Int).toNat = 1 from rfl, Nat.reduceMul, Nat.reduceEqDiff, Go.Addr.add, ↓reduceIte] at hx256_0)
                          have qi256 : (1 < ((rd_T99 l0 x4_1).f1).length) = True := eq_true (by omega)
                          (try rw [show ((1 : Int)).toNat = 1 from rfl] at hx256_0)
                          replace p256 := eq_true p256
                          replace q256 := eq_true q256
                          have p257 : 0 ≤ (2 : Int) := (by omega)
                          have q257 : 2 < (((rd_T99 l0 x4_1).f1).length : Int) := of_decide_eq_true (by first | (with_reducible assumption) | assumption)
                          obtain ⟨ad257, e257, hx257_0⟩ := Kd.at_int HR253_1.out 2 p257 q257
                          obtain rfl : ad255 = ad257 := (by injection e257)
                          (try simp only [show (2 : Int).toNat = 2 from rfl, Nat.reduceMul, Nat.reduceEqDiff, Go.Addr.add, ↓reduceIte] at hx257_0)
                          have qi257 : (2 < ((rd_T99 l0 x4_1).f1).length) = True := eq_true (by omega)
                          (try rw [show ((2 : Int)).toNat = 2 from rfl] at hx257_0)
                          replace p257 := eq_true p257
                          replace q257 := eq_true q257
                          go_wp2
                          go_roundg k1
                          case measure => have := HK1.out; omega
                          case rel => exact ⟨(true), (wrap64 (x4_1 + 1)), (by first | rfl | (simp; done) | (simp [*]; done)), (by first | rfl | (simp; done) | (simp [*]; done)), H', ⟨by have := HK1.out; omega⟩, by repeat (first | exact Drawn0.refl _ | apply Drawn0.step)⟩
                      · rw [if_neg c10] at H
                        exact absurd H (by simp)
                    · rw [if_neg c9] at H
                      have c9b0 : ((rd ((rd_T99 l0 x4_1).f1) 1) == 1) = false := beq_eq_false_iff_ne.mpr c9
                      have c9b1 : ((rd ((rd_T99 l0 x4_1).f1) 1) != 1) = true := bne_iff_ne.mpr c9
                      have H' := Aside0.mk H
                      clear H
                      have p253 : 0 ≤ (x4_1 : Int) := of_decide_eq_true (by first | (with_reducible assumption) | assumption)
                      have q253 : x4_1 < (l0.length : Int) := of_decide_eq_true (by first | (with_reducible assumption) | assumption)
                      obtain ⟨ad253, A253_1, c253_1, e253, hx253_0, hx253_1, hl253_1, hi253_1⟩ := at_T99 HR0.out x4_1 p253 q253
                      cases e253
                      have HR253_1 := Aside0.mk hi253_1
                      have HC253_1 := Aside0.mk hl253_1
                      clear hi253_1 hl253_1
                      replace p253 := eq_true p253
                      replace q253 := eq_true q253
                      have p254 : 0 ≤ (x4_1 : Int) := of_decide_eq_true (by first | (with_reducible assumption) | assumption)
                      have q254 : x4_1 < (l0.length : Int) := of_decide_eq_true (by first | (with_reducible assumption) | assumption)
                      obtain ⟨ad254, A254_1, c254_1, e254, hx254_0, hx254_1, hl254_1, hi254_1⟩ := at_T99 HR0.out x4_1 p254 q254
                      obtain rfl : ad253 = ad254 := (by injection e254)
                      have HR254_1 := Aside0.mk hi254_1
                      have HC254_1 := Aside0.mk hl254_1
                      clear hi254_1 hl254_1
                      replace p254 := eq_true p254
                      replace q254 := eq_true q254
                      have ea_ := Option.some.inj (hx253_1.symm.trans hx254_1)
                      injection ea_ with ea_ en_ ec_
                      subst ea_
                      subst ec_
                      clear en_
                      have p255 : 0 ≤ (0 : Int) := (by omega)
                      have q255 : 0 < (((rd_T99 l0 x4_1).f1).length : Int) := of_decide_eq_true (by first | (with_reducible assumption) | assumption)
                      obtain ⟨ad255, e255, hx255_0⟩ := Kd.at_int HR253_1.out 0 p255 q255
                      cases e255
                      have qi255 : (0 < ((rd_T99 l0 x4_1).f1).length) = True := eq_true (by omega)
                      (try rw [show ((0 : Int)).toNat = 0 from rfl] at hx255_0)
                      (try rw [Addr.add_zero'] at hx255_0)
                      replace p255 := eq_true p255
                      replace q255 := eq_true q255
                      have p256 : 0 ≤ (1 : Int) := (by omega)
                      have q256 : 1 < (((rd_T99 l0 x4_1).f1).length : Int) := of_decide_eq_true (by first | (with_reducible assumption) | assumption)
                      obtain ⟨ad256, e256, hx256_0⟩ := Kd.at_int HR253_1.out 1 p256 q256
                      obtain rfl : ad255 = ad256 := (by injection e256)
                      (try simp only [show (1 : Int).toNat = 1 from rfl, Nat.reduceMul, Nat.reduceEqDiff, Go.Addr.add, ↓reduceIte] at hx256_0)
                      have qi256 : (1 < ((rd_T99 l0 x4_1).f1).length) = True := eq_true (by omega)
                      (try rw [show ((1 : Int)).toNat = 1 from rfl] at hx256_0)
                      replace p256 := eq_true p256
                      replace q256 := eq_true q256
                      go_wp2
                      go_roundg k1
                      case measure => have := HK1.out; omega
                      case rel => exact ⟨(true), (wrap64 (x4_1 + 1)), (by first | rfl | (simp; done) | (simp [*]; done)), (by first | rfl | (simp; done) | (simp [*]; done)), H', ⟨by have := HK1.out; omega⟩, by repeat (first | exact Drawn0.refl _ | apply Drawn0.step)⟩
                  · rw [if_neg c8] at H
                    exact absurd H (by simp)
                · rw [if_neg c7] at H
                  have c7b0 : ((rd ((rd_T99 l0 x4_1).f1) 0) == 0) = false := beq_eq_false_iff_ne.mpr c7
                  have c7b1 : ((rd ((rd_T99 l0 x4_1).f1) 0) != 0) = true := bne_iff_ne.mpr c7
                  have H' := Aside0.mk H
                  clear H
                  have p253 : 0 ≤ (x4_1 : Int) := of_decide_eq_true (by first | (with_reducible assumption) | assumption)
                  have q253 : x4_1 < (l0.length : Int) := of_decide_eq_true (by first | (with_reducible assumption) | assumption)
                  obtain ⟨ad253, A253_1, c253_1, e253, hx253_0, hx253_1, hl253_1, hi253_1⟩ := at_T99 HR0.out x4_1 p253 q253
                  cases e253
                  have HR253_1 := Aside0.mk hi253_1
                  have HC253_1 := Aside0.mk hl253_1
                  clear hi253_1 hl253_1
                  replace p253 := eq_true p253
                  replace q253 := eq_true q253
                  have p254 : 0 ≤ (x4_1 : Int) := of_decide_eq_true (by first | (with_reducible assumption) | assumption)
                  have q254 : x4_1 < (l0.length : Int) := of_decide_eq_true (by first | (with_reducible assumption) | assumption)
                  obtain ⟨ad254, A254_1, c254_1, e254, hx254_0, hx254_1, hl254_1, hi254_1⟩ := at_T99 HR0.out x4_1 p254 q254
                  obtain rfl : ad253 = ad254 := (by injection e254)
                  have HR254_1 := Aside0.mk hi254_1
                  have HC254_1 := Aside0.mk hl254_1
                  clear hi254_1 hl254_1
                  replace p254 := eq_true p254
                  replace q254 := eq_true q254
                  have ea_ := Option.some.inj (hx253_1.symm.trans hx254_1)
                  injection ea_ with ea_ en_ ec_
                  subst ea_
                  subst ec_
                  clear en_
                  have p255 : 0 ≤ (0 : Int) := (by omega)
                  have q255 : 0 < (((rd_T99 l0 x4_1).f1).length : Int) := of_decide_eq_true (by first | (with_reducible assumption) | assumption)
                  obtain ⟨ad255, e255, hx255_0⟩ := Kd.at_int HR253_1.out 0 p255 q255
                  cases e255
                  have qi255 : (0 < ((rd_T99 l0 x4_1).f1).length) = True := eq_true (by omega)
                  (try rw [show ((0 : Int)).toNat = 0 from rfl] at hx255_0)
                  (try rw [Addr.add_zero'] at hx255_0)
                  replace p255 := eq_true p255
                  replace q255 := eq_true q255
                  go_wp2
                  go_roundg k1
                  case measure => have := HK1.out; omega
                  case rel => exact ⟨(true), (wrap64 (x4_1 + 1)), (by first | rfl | (simp; done) | (simp [*]; done)), (by first | rfl | (simp; done) | (simp [*]; done)), H', ⟨by have := HK1.out; omega⟩, by repeat (first | exact Drawn0.refl _ | apply Drawn0.step)⟩
              · rw [if_neg c6] at H
                exact absurd H (by simp)
            · rw [if_neg c5] at H
              have c5b0 : ((((rd_T99 l0 x4_1).f1).length : Int) == 4) = false := beq_eq_false_iff_ne.mpr c5
              have c5b1 : ((((rd_T99 l0 x4_1).f1).length : Int) != 4) = true := bne_iff_ne.mpr c5
              have H' := Aside0.mk H
              clear H
              have p253 : 0 ≤ (x4_1 : Int) := of_decide_eq_true (by first | (with_reducible assumption) | assumption)
              have q253 : x4_1 < (l0.length : Int) := of_decide_eq_true (by first | (with_reducible assumption) | assumption)
              obtain ⟨ad253, A253_1, c253_1, e253, hx253_0, hx253_1, hl253_1, hi253_1⟩ := at_T99 HR0.out x4_1 p253 q253
              cases e253
              have HR253_1 := Aside0.mk hi253_1
              have HC253_1 := Aside0.mk hl253_1
              clear hi253_1 hl253_1
              replace p253 := eq_true p253
              replace q253 := eq_true q253
              have p254 : 0 ≤ (x4_1 : Int) := of_decide_eq_true (by first | (with_reducible assumption) | assumption)
              have q254 : x4_1 < (l0.length : Int) := of_decide_eq_true (by first | (with_reducible assumption) | assumption)
              obtain ⟨ad254, A254_1, c254_1, e254, hx254_0, hx254_1, hl254_1, hi254_1⟩ := at_T99 HR0.out x4_1 p254 q254
              obtain rfl : ad253 = ad254 := (by injection e254)
              have HR254_1 := Aside0.mk hi254_1
              have HC254_1 := Aside0.mk hl254_1
              clear hi254_1 hl254_1
              replace p254 := eq_true p254
              replace q254 := eq_true q254
              have ea_ := Option.some.inj (hx253_1.symm.trans hx254_1)
              injection ea_ with ea_ en_ ec_
              subst ea_
              subst ec_
              clear en_
              go_wp2
              go_roundg k1
              case measure => have := HK1.out; omega
              case rel => exact ⟨(true), (wrap64 (x4_1 + 1)), (by first | rfl | (simp; done) | (simp [*]; done)), (by first | rfl | (simp; done) | (simp [*]; done)), H', ⟨by have := HK1.out; omega⟩, by repeat (first | exact Drawn0.refl _ | apply Drawn0.step)⟩
          · rw [if_neg c4] at H
            have c4b0 : (((rd_T99 l0 x4_1).f0) == 1) = false := beq_eq_false_iff_ne.mpr c4
            have c4b1 : (((rd_T99 l0 x4_1).f0) != 1) = true := bne_iff_ne.mpr c4
            have H' := Aside0.mk H
            clear H
            have p253 : 0 ≤ (x4_1 : Int) := of_decide_eq_true (by first | (with_reducible assumption) | assumption)
            have q253 : x4_1 < (l0.length : Int) := of_decide_eq_true (by first | (with_reducible assumption) | assumption)
            obtain ⟨ad253, A253_1, c253_1, e253, hx253_0, hx253_1, hl253_1, hi253_1⟩ := at_T99 HR0.out x4_1 p253 q253
            cases e253
            have HR253_1 := Aside0.mk hi253_1
            have HC253_1 := Aside0.mk hl253_1
            clear hi253_1 hl253_1
            replace p253 := eq_true p253
            replace q253 := eq_true q253
            have p254 : 0 ≤ (x4_1 : Int) := of_decide_eq_true (by first | (with_reducible assumption) | assumption)
            have q254 : x4_1 < (l0.length : Int) := of_decide_eq_true (by first | (with_reducible assumption) | assumption)
            obtain ⟨ad254, A254_1, c254_1, e254, hx254_0, hx254_1, hl254_1, hi254_1⟩ := at_T99 HR0.out x4_1 p254 q254
            obtain rfl : ad253 = ad254 := (by injection e254)
            have HR254_1 := Aside0.mk hi254_1
            have HC254_1 := Aside0.mk hl254_1
            clear hi254_1 hl254_1
            replace p254 := eq_true p254
            replace q254 := eq_true q254
            have ea_ := Option.some.inj (hx253_1.symm.trans hx254_1)
            injection ea_ with ea_ en_ ec_
            subst ea_
            subst ec_
            clear en_
            go_wp2
            go_roundg k1
            case measure => have := HK1.out; omega
            case rel => exact ⟨(x3_1), (wrap64 (x4_1 + 1)), (by first | rfl | (simp; done) | (simp [*]; done)), (by first | rfl | (simp; done) | (simp [*]; done)), H', ⟨by have := HK1.out; omega⟩, by repeat (first | exact Drawn0.refl _ | apply Drawn0.step)⟩
        · rw [if_neg c3] at H
          exact absurd H (by simp)
      · rw [if_neg c2] at H
        have c2b0 : decide (x4_1 < (l0.length : Int)) = false := decide_eq_false c2
        clear c2
        obtain rfl := Option.some.inj H
        go_wp2
        go_ret
        exact ⟨by first | rfl | (simp; done) | (simp [*]; done), by repeat (first | exact Drawn0.refl _ | apply Drawn0.step)⟩

/-! ### consulateref05_Ours: function 39 -/
def consulateref05_Ours.f (a0 : Int) : Option ((List (S99))) := some (([(⟨1, (([0, 1, 0, 1] : List Int))⟩ : S99), (⟨2, ([] : List Int)⟩ : S99), (⟨65, (([((Int.tdiv a0 16777216) % 4294967296) % 256, ((Int.tdiv a0 65536) % 4294967296) % 256, ((Int.tdiv a0 256) % 4294967296) % 256, (Int.tmod a0 256) % 256] : List Int))⟩ : S99)] : List (S99)))
set_option maxHeartbeats 8000000 in
set_option maxRecDepth 100000 in
theorem consulateref05_Ours.calls (a0 : Int) (r : List (S99)) (w : World) (h : consulateref05_Ours.f a0 = some r) :
    Calls Tryd.prog 39 #[.int .u32 a0] w fun e w' => ∃ v0_ : Value, e = .returned (v0_) ∧ Kd.N k99 99 w' w.heap.size (fun k_ => (w.heap.size ≤ k_)) v0_ r ∧ Below w.heap.size w w' := by
  have hu99 := Tryd.underlying99
  have HB := Aside0.mk (Below.refl w.heap.size w)
  have H : (some (([(⟨1, (([0, 1, 0, 1] : List Int))⟩ : S99), (⟨2, ([] : List Int)⟩ : S99), (⟨65, (([((Int.tdiv a0 16777216) % 4294967296) % 256, ((Int.tdiv a0 65536) % 4294967296) % 256, ((Int.tdiv a0 256) % 4294967296) % 256, (Int.tmod a0 256) % 256] : List Int))⟩ : S99)] : List (S99)))) = some r := h
  clear h
  obtain ⟨y259, hy259⟩ : ∃ y_ : List Int, y_ = (([((Int.tdiv a0 16777216) % 4294967296) % 256, ((Int.tdiv a0 65536) % 4294967296) % 256, ((Int.tdiv a0 256) % 4294967296) % 256, (Int.tmod a0 256) % 256] : List Int)) := ⟨_, rfl⟩
  replace H : (some (([(⟨1, (([0, 1, 0, 1] : List Int))⟩ : S99), (⟨2, ([] : List Int)⟩ : S99), (⟨65, y259⟩ : S99)] : List (S99)))) = some r := by first | (rw [hy259]; with_reducible exact H) | (have H2_ := (Option.bind_some _ _).symm.trans H; rw [hy259]; with_reducible exact H2_) | (have H2_ := (Option.bind_some _ _).symm.trans H; with_reducible exact H2_) | with_reducible exact H | (rw [hy259]; exact H) | exact H
  have Ny259 := Aside0.mk hy259
  clear hy259
  obtain ⟨y262, hy262⟩ : ∃ y_ : List Int, y_ = (([0, 1, 0, 1] : List Int)) := ⟨_, rfl⟩
  replace H : (some (([(⟨1, y262⟩ : S99), (⟨2, ([] : List Int)⟩ : S99), (⟨65, y259⟩ : S99)] : List (S99)))) = some r := by first | (rw [hy262]; with_reducible exact H) | (have H2_ := (Option.bind_some _ _).symm.trans H; rw [hy262]; with_reducible exact H2_) | (have H2_ := (Option.bind_some _ _).symm.trans H; with_reducible exact H2_) | with_reducible exact H | (rw [hy262]; exact H) | exact H
  have Ny262 := Aside0.mk hy262
  clear hy262
  obtain ⟨y265, hy265⟩ : ∃ y_ : List (S99), y_ = (([(⟨1, y262⟩ : S99), (⟨2, ([] : List Int)⟩ : S99), (⟨65, y259⟩ : S99)] : List (S99))) := ⟨_, rfl⟩
  replace H : (some y265) = some r := by first | (rw [hy265]; with_reducible exact H) | (have H2_ := (Option.bind_some _ _).symm.trans H; rw [hy265]; with_reducible exact H2_) | (have H2_ := (Option.bind_some _ _).symm.trans H; with_reducible exact H2_) | with_reducible exact H | (rw [hy265]; exact H) | exact H
  have Ny265 := Aside0.mk hy265
  clear hy265
  obtain rfl := Option.some.inj H
  go_enter Tryd.func39, Tryd.ntmps39
  go_wp2_with (first | ((with_reducible refine gate_dst (N := 18) rfl ?_); refine Kd.R_lit (Kd.int .u8) _ 5 ?hg (N := 18) ?hd (xs := ([((Int.tdiv a0 16777216) % 4294967296) % 256, ((Int.tdiv a0 65536) % 4294967296) % 256, ((Int.tdiv a0 256) % 4294967296) % 256, (Int.tmod a0 256) % 256] : List Int)) (inner := [.int .u8 (((Int.tdiv a0 16777216) % 4294967296) % 256), .int .u8 (((Int.tdiv a0 65536) % 4294967296) % 256), .int .u8 (((Int.tdiv a0 256) % 4294967296) % 256), .int .u8 ((Int.tmod a0 256) % 256)]) (ok := fun _ => True) (okp := fun _ => True) ?hr ?hp (fun _ hk => hk) trivial (Below.refl _ _) (Nat.le_refl _) (by simp) ?_; (case hd => rfl); (case hg => rfl); (case hr => first | (go_simp; done) | (go_simp; rfl)); (case hp => exact (Reps.one (show Kd.M (Kd.int .u8) _ _ _ (((Int.tdiv a0 16777216) % 4294967296) % 256) [.int .u8 (((Int.tdiv a0 16777216) % 4294967296) % 256)] from rfl) (Reps.one (show Kd.M (Kd.int .u8) _ _ _ (((Int.tdiv a0 65536) % 4294967296) % 256) [.int .u8 (((Int.tdiv a0 65536) % 4294967296) % 256)] from rfl) (Reps.one (show Kd.M (Kd.int .u8) _ _ _ (((Int.tdiv a0 256) % 4294967296) % 256) [.int .u8 (((Int.tdiv a0 256) % 4294967296) % 256)] from rfl) (Reps.one (show Kd.M (Kd.int .u8) _ _ _ ((Int.tmod a0 256) % 256) [.int .u8 ((Int.tmod a0 256) % 256)] from rfl) (Reps.none _ _)))))); intro v260 w2 ho3 hb hg_ hnew_; clear hg_ hnew_; (first | rw [← Ny259.out] at ho3 | (simp only [Int.reduceToNat] at ho3; rw [← Ny259.out] at ho3)); have n0_ := Aside0.mk (Kd.R_lower (Kd.R_newM (M := fun k_ => (w.heap.size ≤ k_)) ho3 (below_size (by repeat (first | (with_reducible first | exact HB.out | apply below_alloc | apply pw_below_drewN | apply below_drew1) | exact HB.out))) (fun k_ h_ => h_)) (below_size (by repeat (first | (with_reducible first | exact HB.out | apply below_alloc | apply pw_below_drewN | apply below_drew1) | exact HB.out)))); have n1_ := Aside0.mk (below_step (by repeat (first | (with_reducible first | exact HB.out | apply below_alloc | apply pw_below_drewN | apply below_drew1) | exact HB.out)) hb); clear HB; have HO261 := n0_; have HB := n1_; clear n0_ n1_; clear hb ho3) | ((with_reducible refine gate_dst (N := 19) rfl ?_); refine Kd.R_lit (Kd.int .u8) _ 5 ?hg (N := 19) ?hd (xs := ([0, 1, 0, 1] : List Int)) (inner := [.int .u8 0, .int .u8 1, .int .u8 0, .int .u8 1]) (ok := fun _ => True) (okp := fun _ => True) ?hr ?hp (fun _ hk => hk) trivial (Below.refl _ _) (Nat.le_refl _) (by simp) ?_; (case hd => rfl); (case hg => rfl); (case hr => first | (go_simp; done) | (go_simp; rfl)); (case hp => exact (Reps.one (show Kd.M (Kd.int .u8) _ _ _ 0 [.int .u8 0] from rfl) (Reps.one (show Kd.M (Kd.int .u8) _ _ _ 1 [.int .u8 1] from rfl) (Reps.one (show Kd.M (Kd.int .u8) _ _ _ 0 [.int .u8 0] from rfl) (Reps.one (show Kd.M (Kd.int .u8) _ _ _ 1 [.int .u8 1] from rfl) (Reps.none _ _)))))); intro v263 w4 ho5 hb hg_ hnew_; clear hg_ hnew_; (first | rw [← Ny262.out] at ho5 | (simp only [Int.reduceToNat] at ho5; rw [← Ny262.out] at ho5)); have n0_ := Aside0.mk (Kd.R_elder' (by (with_reducible repeat (first | apply Kd.R_alloc | apply Kd.R_drewN | apply Kd.R_drew)); exact HO261.out) (Kd.R_base ho5) hb); have n1_ := Aside0.mk (Kd.R_lower (Kd.R_new' (Kd.R_newM (M := fun k_ => (w.heap.size ≤ k_)) ho5 (below_size (by repeat (first | (with_reducible first | exact HB.out | apply below_alloc | apply pw_below_drewN | apply below_drew1) | exact HB.out))) (fun k_ h_ => h_)) (Kd.R_lt (by (with_reducible repeat (first | apply Kd.R_alloc | apply Kd.R_drewN | apply Kd.R_drew)); exact HO261.out))) (below_size (by repeat (first | (with_reducible first | exact HB.out | apply below_alloc | apply pw_below_drewN | apply below_drew1) | exact HB.out)))); have n2_ := Aside0.mk (below_step (by repeat (first | (with_reducible first | exact HB.out | apply below_alloc | apply pw_below_drewN | apply below_drew1) | exact HB.out)) hb); clear HO261; clear HB; have HO261 := n0_; have HO264 := n1_; have HB := n2_; clear n0_ n1_ n2_; clear hb ho5; obtain ⟨Ao6, co6, eo6⟩ := Kd.R_slice HO264.out; subst eo6; obtain ⟨Ao7, co7, eo7⟩ := Kd.R_slice HO261.out; subst eo7) | ((with_reducible refine gate_dst (N := 24) rfl ?_); refine Kd.N_lit k99 _ 99 ?hg (N' := 24) ?hd (xs := ([(⟨1, y262⟩ : S99), (⟨2, ([] : List Int)⟩ : S99), (⟨65, y259⟩ : S99)] : List (S99))) (inner := [.int .u8 1, .slice Ao6 y262.length co6, .int .u8 2, .slice none 0 0, .int .u8 65, .slice Ao7 y259.length co7]) (ok := (fun k_ => (w.heap.size ≤ k_))) (okp := (fun k_ => (w.heap.size ≤ k_))) ?hr ?hp (fun _ hk => hk) ((show ∀ k_, w4.heap.size ≤ k_ → (fun k_ => (w.heap.size ≤ k_)) k_ from fun k_ hk => (Nat.le_trans (below_size (by repeat (first | (with_reducible first | exact HB.out | apply below_alloc | apply pw_below_drewN | apply below_drew1) | exact HB.out))) hk)) _ (Nat.le_refl _)) (Below.refl _ _) (Nat.le_refl _) (by simp) ?_; (case hd => rfl); (case hg => rfl); (case hr => first | (go_simp; done) | (go_simp; rfl)); (case hp => exact (Reps.c2 (show Kd.FK k99 _ _ (⟨1, y262⟩ : S99) [.int .u8 1, .slice Ao6 y262.length co6] from (k99_mkF _ _ (⟨1, y262⟩ : S99) (Kd.R_reads' (Kd.R_mono (ok' := (fun k_ => (w.heap.size ≤ k_))) (HO264.out) (fun k_ hk => hk.1.1))).2.1 (Kd.R_F (Kd.R_mono (ok' := (fun k_ => (w.heap.size ≤ k_))) (HO264.out) (fun k_ hk => hk.1.1))))) (Reps.c2 (show Kd.FK k99 _ _ (⟨2, ([] : List Int)⟩ : S99) [.int .u8 2, .slice none 0 0] from (k99_mkF _ _ (⟨2, ([] : List Int)⟩ : S99) (Nat.le_refl _) (Kd.F_nil _ _ _))) (Reps.c2 (show Kd.FK k99 _ _ (⟨65, y259⟩ : S99) [.int .u8 65, .slice Ao7 y259.length co7] from (k99_mkF _ _ (⟨65, y259⟩ : S99) (Kd.R_reads' (Kd.R_mono (ok' := (fun k_ => (w.heap.size ≤ k_))) (HO261.out) (fun k_ hk => hk.1.1))).2.1 (Kd.R_F (Kd.R_mono (ok' := (fun k_ => (w.heap.size ≤ k_))) (HO261.out) (fun k_ hk => hk.1.1))))) (Reps.none _ _))))); intro v266 w8 ho9 hb hg_ hnew_; clear hg_ hnew_; (first | rw [← Ny265.out] at ho9 | (simp only [Int.reduceToNat] at ho9; rw [← Ny265.out] at ho9)); have n0_ := Aside0.mk (Kd.N_lower ho9 (below_size (by repeat (first | (with_reducible first | exact HB.out | apply below_alloc | apply pw_below_drewN | apply below_drew1) | exact HB.out)))); have n1_ := Aside0.mk (below_step (by repeat (first | (with_reducible first | exact HB.out | apply below_alloc | apply pw_below_drewN | apply below_drew1) | exact HB.out)) hb); clear HB; clear HO261; clear HO264; have HO267 := n0_; have HB := n1_; clear n0_ n1_; clear hb ho9))
  go_ret
  exact ⟨_, by first | rfl | (simp [errW_none, errW_some] <;> rfl) | (simp [*, errW_none, errW_some] <;> rfl), by (with_reducible repeat (first | apply Kd.N_alloc | apply Kd.N_drewN | apply Kd.N_drew)); exact HO267.out, by repeat (first | (with_reducible first | exact HB.out | apply below_alloc | apply pw_below_drewN | apply below_drew1) | exact HB.out)⟩

-- NOT PRINTED: function 9 (consulatelaw05_CapsTells)

-- NOT PRINTED: function 10 (consulatelaw05_CapsOurs)

end Go.Proofs.YthafedmlbialiaaDoor.PA
