/-
  The walk of the law OpenOurs.
-/
import Derived.Test.YthafedmlbialiaaDoorE3
namespace Go.Proofs.YthafedmlbialiaaDoor
open Go.RowKit Go.Proofs.YthafedmlbialiaaDoorW.PrintWords Go.Proofs.YthafedmlbialiaaDoorW.PrintLast Go.Proofs.YthafedmlbialiaaDoorW.PrintMore
set_option linter.unusedVariables false
set_option linter.unusedSimpArgs false

theorem new_four (a b c d : Int) (ha : 0 ≤ a ∧ a < 256) (hb : 0 ≤ b ∧ b < 256) (hc : 0 ≤ c ∧ c < 256) (hd : 0 ≤ d ∧ d < 256) : acc32 ((Rdr.new [a, b, c, d]).taken 4) = ((a * 256 + b) * 256 + c) * 256 + d := by
  have h := (rdr_at [a, b, c, d] 0 4 (by simp)).1
  rw [show (Rdr.new [a, b, c, d]) = ⟨[a, b, c, d], ((0 : Nat) : Int), [([a, b, c, d].length : Int)], 0⟩ from rfl]
  rw [show ((4 : Int)) = ((4 : Nat) : Int) from rfl, h]
  exact acc32_four a b c d ha hb hc hd
theorem found_65 (n : Int) : found (fun x => x.f0 == 65 && isFour x.f1) (ours n) = (⟨65, [n / 16777216 % 256, n / 65536 % 256, n / 256 % 256, n % 256]⟩, true) := rfl
theorem num_ours (n : Int) (h0 : 0 ≤ n) (h1 : n < 4294967296) : capsNumber (ours n) = (n, true) := by
  unfold capsNumber
  rw [found_65 n]
  show (acc32 ((Rdr.new [n / 16777216 % 256, n / 65536 % 256, n / 256 % 256, n % 256]).taken 4), true) = (n, true)
  rw [new_four _ _ _ _ (by omega) (by omega) (by omega) (by omega)]
  congr 1
  omega
theorem ip_ours (n : Int) : capsIPv4 (ours n) = true := by
  unfold capsIPv4
  rw [show found (fun x => x.f0 == 1 && isUni x.f1) (ours n) = (⟨1, [0, 1, 0, 1]⟩, true) from rfl, Bool.or_true]
theorem short_bd (n : Int) (h0 : 0 ≤ n) : 0 ≤ shortOf n ∧ shortOf n < 65536 := by
  unfold shortOf
  split <;> omega
theorem onum_ours (n : Int) (h0 : 0 ≤ n) (h1 : n < 4294967296) : oNumber (shortOf n) (ours n) = (n, n != 0) := by
  unfold oNumber
  rw [num_ours n h0 h1]
  show (if n = 0 ∨ (shortOf n ≠ n ∧ shortOf n ≠ 23456) then ((0 : Int), false) else (n, true)) = _
  by_cases h : n = 0
  · rw [if_pos (Or.inl h), h]
    rfl
  · have h2 : ¬ (n = 0 ∨ (shortOf n ≠ n ∧ shortOf n ≠ 23456)) := by
      unfold shortOf
      split <;> omega
    rw [if_neg h2, bne_iff_ne.2 h]
/-- What Check says of Ours. -/
theorem ocheck_ours (n hold id was own : Int) (inside : Bool) (h0 : 0 ≤ n) (h1 : n < 4294967296) :
    oCheck (shortOf n) hold id (ours n) was own inside = if n = 0 ∨ n ≠ was then (2, 2, []) else if id = 0 ∨ id ≥ 3758096384 ∨ (inside = true ∧ id = own) then (2, 3, []) else if hold > 0 ∧ hold < 3 then (2, 6, []) else (0, 0, []) := by
  unfold oCheck
  rw [onum_ours n h0 h1, ip_ours]
  have e1 : ((!(n != 0) || n != was) = true) = (n = 0 ∨ n ≠ was) := by simp
  have e2 : ((id == 0 || decide (id ≥ 3758096384) || (inside && id == own)) = true) = (id = 0 ∨ id ≥ 3758096384 ∨ (inside = true ∧ id = own)) := by simp [or_assoc]
  have e3 : ((decide (hold > 0) && decide (hold < 3)) = true) = (hold > 0 ∧ hold < 3) := by simp
  simp only [e1, e2, e3]
  rfl

set_option maxHeartbeats 4000000 in
set_option maxRecDepth 100000 in
theorem OpenOurs_walk (w : World) (hG : GlobC w) (hU : GlobU w) (hO : GlobO w) (n other hold id own : Int) (h0 : 0 ≤ n) (h1 : n < 4294967296) (hh : 0 ≤ hold ∧ hold < 65536) (hi : 0 ≤ id ∧ id < 4294967296) :
    Calls Tryd.prog 5 #[.int .u32 n, .int .u32 other, .int .u16 hold, .int .u32 id, .int .u32 own] w fun e w' => e = .returned (.bool true) ∧ Below w.heap.size w w' := by
  have H1 := oOurs_calls w hU n hold id h0 h1
  have R2 := Aside0.mk (short_bd n h0)
  have R3 := Aside0.mk (show (ours n).length ≤ 140737488351232 by simp [ours])
  have R4 := Aside0.mk (ours_wf0 n)
  have hn := onum_ours n h0 h1
  have hk := ocheck_ours n hold id other own false h0 h1
  have hk2 := ocheck_ours n hold id n id true h0 h1
  generalize shortOf n = sn at *
  generalize ours n = os at *
  have R1 := Aside0.mk H1
  clear H1
  by_cases hz : n = 0
  · subst hz
    rw [if_pos (Or.inl rfl)] at hk
    have R5 := Aside0.mk hn
    have R6 := Aside0.mk hk
    clear hn hk hk2
    go_enter Tryd.func5, Tryd.ntmps5
    go_wp2_with fail
    refine (R1.out).mono ?_
    rintro e w1 ⟨A1, c1, rfl, hC1, hc1, HB⟩
    have hM := blk_new w1 (.cells #[.int .u8 4, .int .u16 sn, .int .u16 hold, .int .u32 id, .slice A1 os.length c1] 41)
    have hb := below_alloc (Below.refl w1.heap.size w1) (.cells #[.int .u8 4, .int .u16 sn, .int .u16 hold, .int .u32 id, .slice A1 os.length c1] 41)
    replace HB := HB.trans (hb.mono HB.size)
    replace hC1 := Kd.C_below hC1 hb
    clear hb
    have x0 := blk_cell hM 0
    have x1 := blk_cell hM 1
    have x2 := blk_cell hM 2
    have x3 := blk_cell hM 3
    have x4 := blk_cell hM 4
    simp at x0 x1 x2 x3 x4
    go_wp2_with fail
    refine (oNumber_calls _ A1 c1 os hC1 R3.out R4.out 4 sn hold id R2.out 0 false R5.out).mono ?_
    rintro e w2 ⟨rfl, hb⟩
    replace HB := HB.trans (hb.mono HB.size)
    replace hM := blk_below hM hb
    replace hC1 := Kd.C_below hC1 hb
    clear x0 x1 x2 x3 x4
    have x0 := blk_cell hM 0
    have x1 := blk_cell hM 1
    have x2 := blk_cell hM 2
    have x3 := blk_cell hM 3
    have x4 := blk_cell hM 4
    simp at x0 x1 x2 x3 x4
    clear hb
    go_wp2_with fail
    refine (oCheck_calls _ (hU.below HB) (hO.below HB) A1 c1 os hC1 R3.out R4.out 4 sn hold id R2.out other own false _ _ _ R6.out).mono ?_
    rintro e w3 ⟨D3, d3, rfl, hD3, hd3, hb⟩
    replace HB := HB.trans (hb.mono HB.size)
    replace hM := blk_below hM hb
    replace hC1 := Kd.C_below hC1 hb
    clear x0 x1 x2 x3 x4 hD3
    clear hb
    have hF := FB.new w3 2 2
    have hb := below_alloc (Below.refl w3.heap.size w3) (.cells #[.int .u8 2, .int .u8 2] 26)
    replace HB := HB.trans (hb.mono HB.size)
    replace hM := blk_below hM hb
    replace hC1 := Kd.C_below hC1 hb
    have x0 := blk_cell hM 0
    have x1 := blk_cell hM 1
    have x2 := blk_cell hM 2
    have x3 := blk_cell hM 3
    have x4 := blk_cell hM 4
    simp at x0 x1 x2 x3 x4

    have u0 := hF.c0
    have u1 := hF.c1
    clear hb
    go_wp2_with fail
    refine (tells_calls _ (hG.below HB) (hU.below HB) (hO.below HB)).mono ?_
    rintro e w9 ⟨rfl, hb⟩
    replace HB := HB.trans (hb.mono HB.size)
    clear hb
    go_wp2
    go_ret
    exact ⟨rfl, HB⟩
  · have nz1 : (n == 0) = false := beq_false_of_ne hz
    have nz2 : (n != 0) = true := bne_iff_ne.2 hz
    rw [nz2] at hn
    have R5 := Aside0.mk hn
    clear hn
    by_cases ho : n = other
    · subst ho
      rw [if_neg (by omega)] at hk hk2
      rw [if_pos (by simp)] at hk2
      have R7 := Aside0.mk hk2
      clear hk2
      by_cases hg : id = 0 ∨ id ≥ 3758096384
      · rw [if_pos (by omega)] at hk
        have R6 := Aside0.mk hk
        clear hk
        have g3 : decide (id ≥ 3758096384) = decide (id ≥ 3758096384) := rfl
        rcases hg with hg | hg
        · subst hg
          clear g3
          by_cases hs1 : hold = 1
          · have s1 : (hold == 1) = true := by simp [hs1]
            clear hs1
            go_enter Tryd.func5, Tryd.ntmps5
            go_wp2_with fail
            refine (R1.out).mono ?_
            rintro e w1 ⟨A1, c1, rfl, hC1, hc1, HB⟩
            have hM := blk_new w1 (.cells #[.int .u8 4, .int .u16 sn, .int .u16 hold, .int .u32 0, .slice A1 os.length c1] 41)
            have hb := below_alloc (Below.refl w1.heap.size w1) (.cells #[.int .u8 4, .int .u16 sn, .int .u16 hold, .int .u32 0, .slice A1 os.length c1] 41)
            replace HB := HB.trans (hb.mono HB.size)
            replace hC1 := Kd.C_below hC1 hb
            clear hb
            have x0 := blk_cell hM 0
            have x1 := blk_cell hM 1
            have x2 := blk_cell hM 2
            have x3 := blk_cell hM 3
            have x4 := blk_cell hM 4
            simp at x0 x1 x2 x3 x4
            go_wp2_with fail
            refine (oNumber_calls _ A1 c1 os hC1 R3.out R4.out 4 sn hold 0 R2.out n true R5.out).mono ?_
            rintro e w2 ⟨rfl, hb⟩
            replace HB := HB.trans (hb.mono HB.size)
            replace hM := blk_below hM hb
            replace hC1 := Kd.C_below hC1 hb
            clear x0 x1 x2 x3 x4
            have x0 := blk_cell hM 0
            have x1 := blk_cell hM 1
            have x2 := blk_cell hM 2
            have x3 := blk_cell hM 3
            have x4 := blk_cell hM 4
            simp at x0 x1 x2 x3 x4
            clear hb
            go_wp2_with fail
            refine (oCheck_calls _ (hU.below HB) (hO.below HB) A1 c1 os hC1 R3.out R4.out 4 sn hold 0 R2.out n own false _ _ _ R6.out).mono ?_
            rintro e w3 ⟨D3, d3, rfl, hD3, hd3, hb⟩
            replace HB := HB.trans (hb.mono HB.size)
            replace hM := blk_below hM hb
            replace hC1 := Kd.C_below hC1 hb
            clear x0 x1 x2 x3 x4 hD3
            clear hb
            have hF := FB.new w3 2 3
            have hb := below_alloc (Below.refl w3.heap.size w3) (.cells #[.int .u8 2, .int .u8 3] 26)
            replace HB := HB.trans (hb.mono HB.size)
            replace hM := blk_below hM hb
            replace hC1 := Kd.C_below hC1 hb
            have x0 := blk_cell hM 0
            have x1 := blk_cell hM 1
            have x2 := blk_cell hM 2
            have x3 := blk_cell hM 3
            have x4 := blk_cell hM 4
            simp at x0 x1 x2 x3 x4

            have u0 := hF.c0
            have u1 := hF.c1
            clear hb
            go_wp2_with fail
            refine (oCheck_calls _ (hU.below HB) (hO.below HB) A1 c1 os hC1 R3.out R4.out 4 sn hold 0 R2.out n 0 true _ _ _ R7.out).mono ?_
            rintro e w4 ⟨D4, d4, rfl, hD4, hd4, hb⟩
            replace HB := HB.trans (hb.mono HB.size)
            replace hM := blk_below hM hb
            replace hF := hF.below hb
            clear x0 x1 x2 x3 x4 hD4 u0 u1
            clear hb
            have hI := FB.new w4 2 3
            have hb := below_alloc (Below.refl w4.heap.size w4) (.cells #[.int .u8 2, .int .u8 3] 26)
            replace HB := HB.trans (hb.mono HB.size)
            replace hF := hF.below hb
            have u0 := hF.c0
            have u1 := hF.c1
            have v0 := hI.c0
            have v1 := hI.c1
            clear hb
            go_wp2_with fail
            refine (tells_calls _ (hG.below HB) (hU.below HB) (hO.below HB)).mono ?_
            rintro e w9 ⟨rfl, hb⟩
            replace HB := HB.trans (hb.mono HB.size)
            clear hb
            go_wp2
            go_ret
            exact ⟨rfl, HB⟩
          · have s1 : (hold == 1) = false := beq_false_of_ne hs1
            clear hs1
            go_enter Tryd.func5, Tryd.ntmps5
            go_wp2_with fail
            refine (R1.out).mono ?_
            rintro e w1 ⟨A1, c1, rfl, hC1, hc1, HB⟩
            have hM := blk_new w1 (.cells #[.int .u8 4, .int .u16 sn, .int .u16 hold, .int .u32 0, .slice A1 os.length c1] 41)
            have hb := below_alloc (Below.refl w1.heap.size w1) (.cells #[.int .u8 4, .int .u16 sn, .int .u16 hold, .int .u32 0, .slice A1 os.length c1] 41)
            replace HB := HB.trans (hb.mono HB.size)
            replace hC1 := Kd.C_below hC1 hb
            clear hb
            have x0 := blk_cell hM 0
            have x1 := blk_cell hM 1
            have x2 := blk_cell hM 2
            have x3 := blk_cell hM 3
            have x4 := blk_cell hM 4
            simp at x0 x1 x2 x3 x4
            go_wp2_with fail
            refine (oNumber_calls _ A1 c1 os hC1 R3.out R4.out 4 sn hold 0 R2.out n true R5.out).mono ?_
            rintro e w2 ⟨rfl, hb⟩
            replace HB := HB.trans (hb.mono HB.size)
            replace hM := blk_below hM hb
            replace hC1 := Kd.C_below hC1 hb
            clear x0 x1 x2 x3 x4
            have x0 := blk_cell hM 0
            have x1 := blk_cell hM 1
            have x2 := blk_cell hM 2
            have x3 := blk_cell hM 3
            have x4 := blk_cell hM 4
            simp at x0 x1 x2 x3 x4
            clear hb
            go_wp2_with fail
            refine (oCheck_calls _ (hU.below HB) (hO.below HB) A1 c1 os hC1 R3.out R4.out 4 sn hold 0 R2.out n own false _ _ _ R6.out).mono ?_
            rintro e w3 ⟨D3, d3, rfl, hD3, hd3, hb⟩
            replace HB := HB.trans (hb.mono HB.size)
            replace hM := blk_below hM hb
            replace hC1 := Kd.C_below hC1 hb
            clear x0 x1 x2 x3 x4 hD3
            clear hb
            have hF := FB.new w3 2 3
            have hb := below_alloc (Below.refl w3.heap.size w3) (.cells #[.int .u8 2, .int .u8 3] 26)
            replace HB := HB.trans (hb.mono HB.size)
            replace hM := blk_below hM hb
            replace hC1 := Kd.C_below hC1 hb
            have x0 := blk_cell hM 0
            have x1 := blk_cell hM 1
            have x2 := blk_cell hM 2
            have x3 := blk_cell hM 3
            have x4 := blk_cell hM 4
            simp at x0 x1 x2 x3 x4

            have u0 := hF.c0
            have u1 := hF.c1
            clear hb
            go_wp2_with fail
            refine (oCheck_calls _ (hU.below HB) (hO.below HB) A1 c1 os hC1 R3.out R4.out 4 sn hold 0 R2.out n 0 true _ _ _ R7.out).mono ?_
            rintro e w4 ⟨D4, d4, rfl, hD4, hd4, hb⟩
            replace HB := HB.trans (hb.mono HB.size)
            replace hM := blk_below hM hb
            replace hF := hF.below hb
            clear x0 x1 x2 x3 x4 hD4 u0 u1
            clear hb
            have hI := FB.new w4 2 3
            have hb := below_alloc (Below.refl w4.heap.size w4) (.cells #[.int .u8 2, .int .u8 3] 26)
            replace HB := HB.trans (hb.mono HB.size)
            replace hF := hF.below hb
            have u0 := hF.c0
            have u1 := hF.c1
            have v0 := hI.c0
            have v1 := hI.c1
            clear hb
            go_wp2_with fail
            refine (tells_calls _ (hG.below HB) (hU.below HB) (hO.below HB)).mono ?_
            rintro e w9 ⟨rfl, hb⟩
            replace HB := HB.trans (hb.mono HB.size)
            clear hb
            go_wp2
            go_ret
            exact ⟨rfl, HB⟩
        · have g1 : decide (id ≥ 3758096384) = true := decide_eq_true hg
          have g2 : decide (3758096384 ≤ id) = true := decide_eq_true hg
          have g4 : (id == 0) = false := beq_false_of_ne (by omega)
          clear g3
          by_cases hs1 : hold = 1
          · have s1 : (hold == 1) = true := by simp [hs1]
            clear hs1
            go_enter Tryd.func5, Tryd.ntmps5
            go_wp2_with fail
            refine (R1.out).mono ?_
            rintro e w1 ⟨A1, c1, rfl, hC1, hc1, HB⟩
            have hM := blk_new w1 (.cells #[.int .u8 4, .int .u16 sn, .int .u16 hold, .int .u32 id, .slice A1 os.length c1] 41)
            have hb := below_alloc (Below.refl w1.heap.size w1) (.cells #[.int .u8 4, .int .u16 sn, .int .u16 hold, .int .u32 id, .slice A1 os.length c1] 41)
            replace HB := HB.trans (hb.mono HB.size)
            replace hC1 := Kd.C_below hC1 hb
            clear hb
            have x0 := blk_cell hM 0
            have x1 := blk_cell hM 1
            have x2 := blk_cell hM 2
            have x3 := blk_cell hM 3
            have x4 := blk_cell hM 4
            simp at x0 x1 x2 x3 x4
            go_wp2_with fail
            refine (oNumber_calls _ A1 c1 os hC1 R3.out R4.out 4 sn hold id R2.out n true R5.out).mono ?_
            rintro e w2 ⟨rfl, hb⟩
            replace HB := HB.trans (hb.mono HB.size)
            replace hM := blk_below hM hb
            replace hC1 := Kd.C_below hC1 hb
            clear x0 x1 x2 x3 x4
            have x0 := blk_cell hM 0
            have x1 := blk_cell hM 1
            have x2 := blk_cell hM 2
            have x3 := blk_cell hM 3
            have x4 := blk_cell hM 4
            simp at x0 x1 x2 x3 x4
            clear hb
            go_wp2_with fail
            refine (oCheck_calls _ (hU.below HB) (hO.below HB) A1 c1 os hC1 R3.out R4.out 4 sn hold id R2.out n own false _ _ _ R6.out).mono ?_
            rintro e w3 ⟨D3, d3, rfl, hD3, hd3, hb⟩
            replace HB := HB.trans (hb.mono HB.size)
            replace hM := blk_below hM hb
            replace hC1 := Kd.C_below hC1 hb
            clear x0 x1 x2 x3 x4 hD3
            clear hb
            have hF := FB.new w3 2 3
            have hb := below_alloc (Below.refl w3.heap.size w3) (.cells #[.int .u8 2, .int .u8 3] 26)
            replace HB := HB.trans (hb.mono HB.size)
            replace hM := blk_below hM hb
            replace hC1 := Kd.C_below hC1 hb
            have x0 := blk_cell hM 0
            have x1 := blk_cell hM 1
            have x2 := blk_cell hM 2
            have x3 := blk_cell hM 3
            have x4 := blk_cell hM 4
            simp at x0 x1 x2 x3 x4

            have u0 := hF.c0
            have u1 := hF.c1
            clear hb
            go_wp2_with fail
            refine (oCheck_calls _ (hU.below HB) (hO.below HB) A1 c1 os hC1 R3.out R4.out 4 sn hold id R2.out n id true _ _ _ R7.out).mono ?_
            rintro e w4 ⟨D4, d4, rfl, hD4, hd4, hb⟩
            replace HB := HB.trans (hb.mono HB.size)
            replace hM := blk_below hM hb
            replace hF := hF.below hb
            clear x0 x1 x2 x3 x4 hD4 u0 u1
            clear hb
            have hI := FB.new w4 2 3
            have hb := below_alloc (Below.refl w4.heap.size w4) (.cells #[.int .u8 2, .int .u8 3] 26)
            replace HB := HB.trans (hb.mono HB.size)
            replace hF := hF.below hb
            have u0 := hF.c0
            have u1 := hF.c1
            have v0 := hI.c0
            have v1 := hI.c1
            clear hb
            go_wp2_with fail
            refine (tells_calls _ (hG.below HB) (hU.below HB) (hO.below HB)).mono ?_
            rintro e w9 ⟨rfl, hb⟩
            replace HB := HB.trans (hb.mono HB.size)
            clear hb
            go_wp2
            go_ret
            exact ⟨rfl, HB⟩
          · have s1 : (hold == 1) = false := beq_false_of_ne hs1
            clear hs1
            go_enter Tryd.func5, Tryd.ntmps5
            go_wp2_with fail
            refine (R1.out).mono ?_
            rintro e w1 ⟨A1, c1, rfl, hC1, hc1, HB⟩
            have hM := blk_new w1 (.cells #[.int .u8 4, .int .u16 sn, .int .u16 hold, .int .u32 id, .slice A1 os.length c1] 41)
            have hb := below_alloc (Below.refl w1.heap.size w1) (.cells #[.int .u8 4, .int .u16 sn, .int .u16 hold, .int .u32 id, .slice A1 os.length c1] 41)
            replace HB := HB.trans (hb.mono HB.size)
            replace hC1 := Kd.C_below hC1 hb
            clear hb
            have x0 := blk_cell hM 0
            have x1 := blk_cell hM 1
            have x2 := blk_cell hM 2
            have x3 := blk_cell hM 3
            have x4 := blk_cell hM 4
            simp at x0 x1 x2 x3 x4
            go_wp2_with fail
            refine (oNumber_calls _ A1 c1 os hC1 R3.out R4.out 4 sn hold id R2.out n true R5.out).mono ?_
            rintro e w2 ⟨rfl, hb⟩
            replace HB := HB.trans (hb.mono HB.size)
            replace hM := blk_below hM hb
            replace hC1 := Kd.C_below hC1 hb
            clear x0 x1 x2 x3 x4
            have x0 := blk_cell hM 0
            have x1 := blk_cell hM 1
            have x2 := blk_cell hM 2
            have x3 := blk_cell hM 3
            have x4 := blk_cell hM 4
            simp at x0 x1 x2 x3 x4
            clear hb
            go_wp2_with fail
            refine (oCheck_calls _ (hU.below HB) (hO.below HB) A1 c1 os hC1 R3.out R4.out 4 sn hold id R2.out n own false _ _ _ R6.out).mono ?_
            rintro e w3 ⟨D3, d3, rfl, hD3, hd3, hb⟩
            replace HB := HB.trans (hb.mono HB.size)
            replace hM := blk_below hM hb
            replace hC1 := Kd.C_below hC1 hb
            clear x0 x1 x2 x3 x4 hD3
            clear hb
            have hF := FB.new w3 2 3
            have hb := below_alloc (Below.refl w3.heap.size w3) (.cells #[.int .u8 2, .int .u8 3] 26)
            replace HB := HB.trans (hb.mono HB.size)
            replace hM := blk_below hM hb
            replace hC1 := Kd.C_below hC1 hb
            have x0 := blk_cell hM 0
            have x1 := blk_cell hM 1
            have x2 := blk_cell hM 2
            have x3 := blk_cell hM 3
            have x4 := blk_cell hM 4
            simp at x0 x1 x2 x3 x4

            have u0 := hF.c0
            have u1 := hF.c1
            clear hb
            go_wp2_with fail
            refine (oCheck_calls _ (hU.below HB) (hO.below HB) A1 c1 os hC1 R3.out R4.out 4 sn hold id R2.out n id true _ _ _ R7.out).mono ?_
            rintro e w4 ⟨D4, d4, rfl, hD4, hd4, hb⟩
            replace HB := HB.trans (hb.mono HB.size)
            replace hM := blk_below hM hb
            replace hF := hF.below hb
            clear x0 x1 x2 x3 x4 hD4 u0 u1
            clear hb
            have hI := FB.new w4 2 3
            have hb := below_alloc (Below.refl w4.heap.size w4) (.cells #[.int .u8 2, .int .u8 3] 26)
            replace HB := HB.trans (hb.mono HB.size)
            replace hF := hF.below hb
            have u0 := hF.c0
            have u1 := hF.c1
            have v0 := hI.c0
            have v1 := hI.c1
            clear hb
            go_wp2_with fail
            refine (tells_calls _ (hG.below HB) (hU.below HB) (hO.below HB)).mono ?_
            rintro e w9 ⟨rfl, hb⟩
            replace HB := HB.trans (hb.mono HB.size)
            clear hb
            go_wp2
            go_ret
            exact ⟨rfl, HB⟩
      · rw [if_neg (by simp; omega)] at hk
        have g1 : decide (id ≥ 3758096384) = false := decide_eq_false (by omega)
        have g2 : decide (3758096384 ≤ id) = false := decide_eq_false (by omega)
        have g4 : (id == 0) = false := beq_false_of_ne (by omega)
        by_cases hs : hold = 1 ∨ hold = 2
        · rw [if_pos (by omega)] at hk
          have R6 := Aside0.mk hk
          clear hk
          rcases hs with rfl | rfl
          · clear hg
            go_enter Tryd.func5, Tryd.ntmps5
            go_wp2_with fail
            refine (R1.out).mono ?_
            rintro e w1 ⟨A1, c1, rfl, hC1, hc1, HB⟩
            have hM := blk_new w1 (.cells #[.int .u8 4, .int .u16 sn, .int .u16 1, .int .u32 id, .slice A1 os.length c1] 41)
            have hb := below_alloc (Below.refl w1.heap.size w1) (.cells #[.int .u8 4, .int .u16 sn, .int .u16 1, .int .u32 id, .slice A1 os.length c1] 41)
            replace HB := HB.trans (hb.mono HB.size)
            replace hC1 := Kd.C_below hC1 hb
            clear hb
            have x0 := blk_cell hM 0
            have x1 := blk_cell hM 1
            have x2 := blk_cell hM 2
            have x3 := blk_cell hM 3
            have x4 := blk_cell hM 4
            simp at x0 x1 x2 x3 x4
            go_wp2_with fail
            refine (oNumber_calls _ A1 c1 os hC1 R3.out R4.out 4 sn 1 id R2.out n true R5.out).mono ?_
            rintro e w2 ⟨rfl, hb⟩
            replace HB := HB.trans (hb.mono HB.size)
            replace hM := blk_below hM hb
            replace hC1 := Kd.C_below hC1 hb
            clear x0 x1 x2 x3 x4
            have x0 := blk_cell hM 0
            have x1 := blk_cell hM 1
            have x2 := blk_cell hM 2
            have x3 := blk_cell hM 3
            have x4 := blk_cell hM 4
            simp at x0 x1 x2 x3 x4
            clear hb
            go_wp2_with fail
            refine (oCheck_calls _ (hU.below HB) (hO.below HB) A1 c1 os hC1 R3.out R4.out 4 sn 1 id R2.out n own false _ _ _ R6.out).mono ?_
            rintro e w3 ⟨D3, d3, rfl, hD3, hd3, hb⟩
            replace HB := HB.trans (hb.mono HB.size)
            replace hM := blk_below hM hb
            replace hC1 := Kd.C_below hC1 hb
            clear x0 x1 x2 x3 x4 hD3
            clear hb
            have hF := FB.new w3 2 6
            have hb := below_alloc (Below.refl w3.heap.size w3) (.cells #[.int .u8 2, .int .u8 6] 26)
            replace HB := HB.trans (hb.mono HB.size)
            replace hM := blk_below hM hb
            replace hC1 := Kd.C_below hC1 hb
            have x0 := blk_cell hM 0
            have x1 := blk_cell hM 1
            have x2 := blk_cell hM 2
            have x3 := blk_cell hM 3
            have x4 := blk_cell hM 4
            simp at x0 x1 x2 x3 x4

            have u0 := hF.c0
            have u1 := hF.c1
            clear hb
            go_wp2_with fail
            refine (oCheck_calls _ (hU.below HB) (hO.below HB) A1 c1 os hC1 R3.out R4.out 4 sn 1 id R2.out n id true _ _ _ R7.out).mono ?_
            rintro e w4 ⟨D4, d4, rfl, hD4, hd4, hb⟩
            replace HB := HB.trans (hb.mono HB.size)
            replace hM := blk_below hM hb
            replace hF := hF.below hb
            clear x0 x1 x2 x3 x4 hD4 u0 u1
            clear hb
            have hI := FB.new w4 2 3
            have hb := below_alloc (Below.refl w4.heap.size w4) (.cells #[.int .u8 2, .int .u8 3] 26)
            replace HB := HB.trans (hb.mono HB.size)
            replace hF := hF.below hb
            have u0 := hF.c0
            have u1 := hF.c1
            have v0 := hI.c0
            have v1 := hI.c1
            clear hb
            go_wp2_with fail
            refine (tells_calls _ (hG.below HB) (hU.below HB) (hO.below HB)).mono ?_
            rintro e w9 ⟨rfl, hb⟩
            replace HB := HB.trans (hb.mono HB.size)
            clear hb
            go_wp2
            go_ret
            exact ⟨rfl, HB⟩
          · clear hg
            go_enter Tryd.func5, Tryd.ntmps5
            go_wp2_with fail
            refine (R1.out).mono ?_
            rintro e w1 ⟨A1, c1, rfl, hC1, hc1, HB⟩
            have hM := blk_new w1 (.cells #[.int .u8 4, .int .u16 sn, .int .u16 2, .int .u32 id, .slice A1 os.length c1] 41)
            have hb := below_alloc (Below.refl w1.heap.size w1) (.cells #[.int .u8 4, .int .u16 sn, .int .u16 2, .int .u32 id, .slice A1 os.length c1] 41)
            replace HB := HB.trans (hb.mono HB.size)
            replace hC1 := Kd.C_below hC1 hb
            clear hb
            have x0 := blk_cell hM 0
            have x1 := blk_cell hM 1
            have x2 := blk_cell hM 2
            have x3 := blk_cell hM 3
            have x4 := blk_cell hM 4
            simp at x0 x1 x2 x3 x4
            go_wp2_with fail
            refine (oNumber_calls _ A1 c1 os hC1 R3.out R4.out 4 sn 2 id R2.out n true R5.out).mono ?_
            rintro e w2 ⟨rfl, hb⟩
            replace HB := HB.trans (hb.mono HB.size)
            replace hM := blk_below hM hb
            replace hC1 := Kd.C_below hC1 hb
            clear x0 x1 x2 x3 x4
            have x0 := blk_cell hM 0
            have x1 := blk_cell hM 1
            have x2 := blk_cell hM 2
            have x3 := blk_cell hM 3
            have x4 := blk_cell hM 4
            simp at x0 x1 x2 x3 x4
            clear hb
            go_wp2_with fail
            refine (oCheck_calls _ (hU.below HB) (hO.below HB) A1 c1 os hC1 R3.out R4.out 4 sn 2 id R2.out n own false _ _ _ R6.out).mono ?_
            rintro e w3 ⟨D3, d3, rfl, hD3, hd3, hb⟩
            replace HB := HB.trans (hb.mono HB.size)
            replace hM := blk_below hM hb
            replace hC1 := Kd.C_below hC1 hb
            clear x0 x1 x2 x3 x4 hD3
            clear hb
            have hF := FB.new w3 2 6
            have hb := below_alloc (Below.refl w3.heap.size w3) (.cells #[.int .u8 2, .int .u8 6] 26)
            replace HB := HB.trans (hb.mono HB.size)
            replace hM := blk_below hM hb
            replace hC1 := Kd.C_below hC1 hb
            have x0 := blk_cell hM 0
            have x1 := blk_cell hM 1
            have x2 := blk_cell hM 2
            have x3 := blk_cell hM 3
            have x4 := blk_cell hM 4
            simp at x0 x1 x2 x3 x4

            have u0 := hF.c0
            have u1 := hF.c1
            clear hb
            go_wp2_with fail
            refine (oCheck_calls _ (hU.below HB) (hO.below HB) A1 c1 os hC1 R3.out R4.out 4 sn 2 id R2.out n id true _ _ _ R7.out).mono ?_
            rintro e w4 ⟨D4, d4, rfl, hD4, hd4, hb⟩
            replace HB := HB.trans (hb.mono HB.size)
            replace hM := blk_below hM hb
            replace hF := hF.below hb
            clear x0 x1 x2 x3 x4 hD4 u0 u1
            clear hb
            have hI := FB.new w4 2 3
            have hb := below_alloc (Below.refl w4.heap.size w4) (.cells #[.int .u8 2, .int .u8 3] 26)
            replace HB := HB.trans (hb.mono HB.size)
            replace hF := hF.below hb
            have u0 := hF.c0
            have u1 := hF.c1
            have v0 := hI.c0
            have v1 := hI.c1
            clear hb
            go_wp2_with fail
            refine (tells_calls _ (hG.below HB) (hU.below HB) (hO.below HB)).mono ?_
            rintro e w9 ⟨rfl, hb⟩
            replace HB := HB.trans (hb.mono HB.size)
            clear hb
            go_wp2
            go_ret
            exact ⟨rfl, HB⟩
        · rw [if_neg (by omega)] at hk
          have R6 := Aside0.mk hk
          have s1 : (hold == 1) = false := beq_false_of_ne (by omega)
          have s2 : (hold == 2) = false := beq_false_of_ne (by omega)
          clear hk hg
          go_enter Tryd.func5, Tryd.ntmps5
          go_wp2_with fail
          refine (R1.out).mono ?_
          rintro e w1 ⟨A1, c1, rfl, hC1, hc1, HB⟩
          have hM := blk_new w1 (.cells #[.int .u8 4, .int .u16 sn, .int .u16 hold, .int .u32 id, .slice A1 os.length c1] 41)
          have hb := below_alloc (Below.refl w1.heap.size w1) (.cells #[.int .u8 4, .int .u16 sn, .int .u16 hold, .int .u32 id, .slice A1 os.length c1] 41)
          replace HB := HB.trans (hb.mono HB.size)
          replace hC1 := Kd.C_below hC1 hb
          clear hb
          have x0 := blk_cell hM 0
          have x1 := blk_cell hM 1
          have x2 := blk_cell hM 2
          have x3 := blk_cell hM 3
          have x4 := blk_cell hM 4
          simp at x0 x1 x2 x3 x4
          go_wp2_with fail
          refine (oNumber_calls _ A1 c1 os hC1 R3.out R4.out 4 sn hold id R2.out n true R5.out).mono ?_
          rintro e w2 ⟨rfl, hb⟩
          replace HB := HB.trans (hb.mono HB.size)
          replace hM := blk_below hM hb
          replace hC1 := Kd.C_below hC1 hb
          clear x0 x1 x2 x3 x4
          have x0 := blk_cell hM 0
          have x1 := blk_cell hM 1
          have x2 := blk_cell hM 2
          have x3 := blk_cell hM 3
          have x4 := blk_cell hM 4
          simp at x0 x1 x2 x3 x4
          clear hb
          go_wp2_with fail
          refine (oCheck_calls _ (hU.below HB) (hO.below HB) A1 c1 os hC1 R3.out R4.out 4 sn hold id R2.out n own false _ _ _ R6.out).mono ?_
          rintro e w3 ⟨D3, d3, rfl, hD3, hd3, hb⟩
          replace HB := HB.trans (hb.mono HB.size)
          replace hM := blk_below hM hb
          replace hC1 := Kd.C_below hC1 hb
          clear x0 x1 x2 x3 x4 hD3
          clear hb
          have hF := FB.new w3 0 0
          have hb := below_alloc (Below.refl w3.heap.size w3) (.cells #[.int .u8 0, .int .u8 0] 26)
          replace HB := HB.trans (hb.mono HB.size)
          replace hM := blk_below hM hb
          replace hC1 := Kd.C_below hC1 hb
          have x0 := blk_cell hM 0
          have x1 := blk_cell hM 1
          have x2 := blk_cell hM 2
          have x3 := blk_cell hM 3
          have x4 := blk_cell hM 4
          simp at x0 x1 x2 x3 x4

          have u0 := hF.c0
          have u1 := hF.c1
          clear hb
          go_wp2_with fail
          refine (oCheck_calls _ (hU.below HB) (hO.below HB) A1 c1 os hC1 R3.out R4.out 4 sn hold id R2.out n id true _ _ _ R7.out).mono ?_
          rintro e w4 ⟨D4, d4, rfl, hD4, hd4, hb⟩
          replace HB := HB.trans (hb.mono HB.size)
          replace hM := blk_below hM hb
          replace hF := hF.below hb
          clear x0 x1 x2 x3 x4 hD4 u0 u1
          clear hb
          have hI := FB.new w4 2 3
          have hb := below_alloc (Below.refl w4.heap.size w4) (.cells #[.int .u8 2, .int .u8 3] 26)
          replace HB := HB.trans (hb.mono HB.size)
          replace hF := hF.below hb
          have u0 := hF.c0
          have u1 := hF.c1
          have v0 := hI.c0
          have v1 := hI.c1
          clear hb
          go_wp2_with fail
          refine (tells_calls _ (hG.below HB) (hU.below HB) (hO.below HB)).mono ?_
          rintro e w9 ⟨rfl, hb⟩
          replace HB := HB.trans (hb.mono HB.size)
          clear hb
          go_wp2
          go_ret
          exact ⟨rfl, HB⟩
    · rw [if_pos (Or.inr ho)] at hk
      have R6 := Aside0.mk hk
      have no1 : (n != other) = true := bne_iff_ne.2 ho
      clear hk hk2
      go_enter Tryd.func5, Tryd.ntmps5
      go_wp2_with fail
      refine (R1.out).mono ?_
      rintro e w1 ⟨A1, c1, rfl, hC1, hc1, HB⟩
      have hM := blk_new w1 (.cells #[.int .u8 4, .int .u16 sn, .int .u16 hold, .int .u32 id, .slice A1 os.length c1] 41)
      have hb := below_alloc (Below.refl w1.heap.size w1) (.cells #[.int .u8 4, .int .u16 sn, .int .u16 hold, .int .u32 id, .slice A1 os.length c1] 41)
      replace HB := HB.trans (hb.mono HB.size)
      replace hC1 := Kd.C_below hC1 hb
      clear hb
      have x0 := blk_cell hM 0
      have x1 := blk_cell hM 1
      have x2 := blk_cell hM 2
      have x3 := blk_cell hM 3
      have x4 := blk_cell hM 4
      simp at x0 x1 x2 x3 x4
      go_wp2_with fail
      refine (oNumber_calls _ A1 c1 os hC1 R3.out R4.out 4 sn hold id R2.out n true R5.out).mono ?_
      rintro e w2 ⟨rfl, hb⟩
      replace HB := HB.trans (hb.mono HB.size)
      replace hM := blk_below hM hb
      replace hC1 := Kd.C_below hC1 hb
      clear x0 x1 x2 x3 x4
      have x0 := blk_cell hM 0
      have x1 := blk_cell hM 1
      have x2 := blk_cell hM 2
      have x3 := blk_cell hM 3
      have x4 := blk_cell hM 4
      simp at x0 x1 x2 x3 x4
      clear hb
      go_wp2_with fail
      refine (oCheck_calls _ (hU.below HB) (hO.below HB) A1 c1 os hC1 R3.out R4.out 4 sn hold id R2.out other own false _ _ _ R6.out).mono ?_
      rintro e w3 ⟨D3, d3, rfl, hD3, hd3, hb⟩
      replace HB := HB.trans (hb.mono HB.size)
      replace hM := blk_below hM hb
      replace hC1 := Kd.C_below hC1 hb
      clear x0 x1 x2 x3 x4 hD3
      clear hb
      have hF := FB.new w3 2 2
      have hb := below_alloc (Below.refl w3.heap.size w3) (.cells #[.int .u8 2, .int .u8 2] 26)
      replace HB := HB.trans (hb.mono HB.size)
      replace hM := blk_below hM hb
      replace hC1 := Kd.C_below hC1 hb
      have x0 := blk_cell hM 0
      have x1 := blk_cell hM 1
      have x2 := blk_cell hM 2
      have x3 := blk_cell hM 3
      have x4 := blk_cell hM 4
      simp at x0 x1 x2 x3 x4

      have u0 := hF.c0
      have u1 := hF.c1
      clear hb
      go_wp2_with fail
      refine (tells_calls _ (hG.below HB) (hU.below HB) (hO.below HB)).mono ?_
      rintro e w9 ⟨rfl, hb⟩
      replace HB := HB.trans (hb.mono HB.size)
      clear hb
      go_wp2
      go_ret
      exact ⟨rfl, HB⟩
end Go.Proofs.YthafedmlbialiaaDoor
