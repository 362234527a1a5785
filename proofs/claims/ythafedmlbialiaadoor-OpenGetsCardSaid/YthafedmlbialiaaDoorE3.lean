/-
  The walk of law06.tells: the chapter's rows.
-/
import Derived.Test.YthafedmlbialiaaDoorE2
namespace Go.Proofs.YthafedmlbialiaaDoor
open Go.RowKit Go.Proofs.YthafedmlbialiaaDoorW.PrintWords Go.Proofs.YthafedmlbialiaaDoorW.PrintLast Go.Proofs.YthafedmlbialiaaDoorW.PrintMore
set_option linter.unusedVariables false
set_option linter.unusedSimpArgs false

theorem ours_wf0 (n : Int) : CapsWf (ours n) := by
  intro x hx
  simp [ours] at hx
  rcases hx with rfl | rfl | rfl
  · exact ⟨by simp, by simp⟩
  · exact ⟨by simp, by simp⟩
  · exact ⟨by simp, by intro b hb; simp at hb; omega⟩
theorem tl_number : oNumber 23456 (ours 70000) = (70000, true) := rfl
theorem tl_get : oGet [3, 0, 1, 0, 90, 10, 0, 0, 1, 0] = (.zero, 2, 1, [0, 4]) := rfl
theorem tl_check : oCheck 23456 90 1 [] 23456 0 false = (2, 2, []) := rfl

set_option maxHeartbeats 4000000 in
set_option maxRecDepth 100000 in
theorem tells_calls (w : World) (hG : GlobC w) (hU : GlobU w) (hO : GlobO w) :
    Calls Tryd.prog 25 #[] w fun e w' => e = .returned (.bool true) ∧ Below w.heap.size w w' := by
  have H1 := oOurs_calls w hU 70000 90 167772161 (by decide) (by decide)
  rw [show shortOf 70000 = 23456 from rfl] at H1
  have T1 := Aside0.mk tl_number
  have T2 := Aside0.mk (ours_wf0 70000)
  have T3 := Aside0.mk (show (ours 70000).length ≤ 140737488351232 by simp [ours])
  generalize ours 70000 = os at *
  go_enter Tryd.func25, Tryd.ntmps25
  go_wp2_with fail
  refine H1.mono ?_
  rintro e w1 ⟨A1, c1, rfl, hC1, hc1, HB⟩
  clear H1
  have hM := blk_new w1 (.cells #[.int .u8 4, .int .u16 23456, .int .u16 90, .int .u32 167772161, .slice A1 os.length c1] 41)
  have hb := below_alloc (Below.refl w1.heap.size w1) (.cells #[.int .u8 4, .int .u16 23456, .int .u16 90, .int .u32 167772161, .slice A1 os.length c1] 41)
  replace HB := HB.trans (hb.mono HB.size)
  replace hC1 := Kd.C_below hC1 hb
  have x0 := blk_cell hM 0
  have x1 := blk_cell hM 1
  have x2 := blk_cell hM 2
  have x3 := blk_cell hM 3
  have x4 := blk_cell hM 4
  simp at x0 x1 x2 x3 x4
  clear hb
  go_wp2_with fail
  refine (oNumber_calls _ A1 c1 os hC1 T3.out T2.out 4 23456 90 167772161 (by decide) 70000 true T1.out).mono ?_
  rintro e w2 ⟨rfl, hb⟩
  replace HB := HB.trans (hb.mono HB.size)
  replace hM := blk_below hM hb
  clear hb x0 x1 x2 x3 x4 hC1
  have hL := litC (litR w2 5 .u8 [3, 0, 1, 0, 90, 10, 0, 0, 1, 0] (by decide))
  have hb := below_alloc (Below.refl w2.heap.size w2) (.cells (nums .u8 [3, 0, 1, 0, 90, 10, 0, 0, 1, 0]).toArray 5)
  replace HB := HB.trans (hb.mono HB.size)
  replace hM := blk_below hM hb
  have H2 := oGet_calls _ (hG.below HB) (hO.below HB) (some ⟨w2.heap.size, 0, none⟩) 10 _ hL (by decide) (by decide) _ _ _ _ tl_get
  clear hb
  go_wp2_with fail
  refine H2.mono ?_
  rintro e w3 ⟨A3, c3, D3, d3, rfl, hC3, hc3, hD3, hd3, hb⟩
  replace HB := HB.trans (hb.mono HB.size)
  replace hM := blk_below hM hb
  clear hb H2 hL hC3
  have hZ := blk_new w3 (.cells #[.int .u8 OpenP.zero.ver, .int .u16 OpenP.zero.an, .int .u16 OpenP.zero.hold, .int .u32 OpenP.zero.id, .slice A3 OpenP.zero.caps.length c3] 41)
  have hb := below_alloc (Below.refl w3.heap.size w3) (.cells #[.int .u8 OpenP.zero.ver, .int .u16 OpenP.zero.an, .int .u16 OpenP.zero.hold, .int .u32 OpenP.zero.id, .slice A3 OpenP.zero.caps.length c3] 41)
  obtain ⟨wa, hwa⟩ : ∃ wa, w3.alloc (.cells #[.int .u8 OpenP.zero.ver, .int .u16 OpenP.zero.an, .int .u16 OpenP.zero.hold, .int .u32 OpenP.zero.id, .slice A3 OpenP.zero.caps.length c3] 41) = wa := ⟨_, rfl⟩
  have sa : wa.heap.size = w3.heap.size + 1 := by rw [← hwa]; simp
  rw [hwa] at hb hZ
  have hF := FB.new wa 2 1
  have hb2 := below_alloc (Below.refl wa.heap.size wa) (.cells #[.int .u8 2, .int .u8 1] 26)
  replace hb := hb.trans (hb2.mono hb.size)
  rw [sa] at hF
  subst hwa
  replace HB := HB.trans (hb.mono HB.size)
  replace hM := blk_below hM hb
  replace hD3 := Kd.C_below hD3 hb
  have H3 := oCheck_calls _ (hU.below HB) (hO.below HB) none 0 [] (Kd.C_nil _ _) (by decide) (by intro x hx; cases hx) 4 23456 90 1 (by decide) 23456 0 false _ _ _ tl_check
  clear hb hb2 sa hZ
  go_wp2_with fail
  refine H3.mono ?_
  rintro e w4 ⟨D4, d4, rfl, hD4, hd4, hb⟩
  replace HB := HB.trans (hb.mono HB.size)
  replace hM := blk_below hM hb
  replace hF := hF.below hb
  replace hD3 := Kd.C_below hD3 hb
  clear hb H3 hD4
  have hH := FB.new w4 2 2
  have hb := below_alloc (Below.refl w4.heap.size w4) (.cells #[.int .u8 2, .int .u8 2] 26)
  replace HB := HB.trans (hb.mono HB.size)
  replace hM := blk_below hM hb
  replace hF := hF.below hb
  replace hD3 := Kd.C_below hD3 hb
  have x1 := blk_cell hM 1
  simp at x1
  have u0 := hF.c0
  have u1 := hF.c1
  have v0 := hH.c0
  have v1 := hH.c1
  have hcv := Kd.C_string (P := Tryd.prog) (A := D3) (c := d3) Tryd.underlying22 Tryd.underlying5 Tryd.underlying9 hD3
  have hs : strOfNums [0, 4] = ⟨#[0, 4]⟩ := by decide
  rw [hs] at hcv
  simp only [List.length_cons, List.length_nil, Nat.reduceAdd, Nat.zero_add] at hcv
  clear hb hM hF hH
  go_wp2_with fail
  go_ret
  exact ⟨rfl, HB⟩
end Go.Proofs.YthafedmlbialiaaDoor
