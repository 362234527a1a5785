/-
  The walk of the law's tells.
-/
import Derived.Test.YtbphidmnkbfchaaGreatDoorN7
namespace Go.Proofs.YtbphidmnkbfchaaGreatDoor
open Go.RowKit Go.Proofs.YtbphidmnkbfchaaGreatDoorW.PrintWords Go.Proofs.YtbphidmnkbfchaaGreatDoorW.PrintLast Go.Proofs.YtbphidmnkbfchaaGreatDoorW.PrintMore
set_option linter.unusedVariables false
set_option linter.unusedSimpArgs false

set_option maxHeartbeats 8000000 in
set_option maxRecDepth 100000 in
theorem Unicast_calls (w : World) :
    Calls Tryz.prog 32 #[.agg #[.int .u16 1, .int .u8 1]] w fun e w' => e = .returned (.bool true) ∧ Below w.heap.size w w' := by
  have hu46 := Tryz.underlying46
  have HB := Aside0.mk (Below.refl w.heap.size w)
  go_enter Tryz.func32, Tryz.ntmps32
  go_wp2_with (first | ((with_reducible refine gate_dst (N := 1) rfl ?_); refine box_event ?hg (N := 1) ?hd (cs := #[.int .u16 1, .int .u8 1]) (t := 46) ?hr ?_; (case hd => rfl); (case hg => rfl); (case hr => first | (go_simp; done) | (go_simp; rfl)); intro gb hg w2 hbox hb; have n0_ := Aside0.mk (below_step (by repeat (first | (with_reducible first | exact HB.out | apply below_alloc | apply pw_below_drewN | apply below_drew1) | exact HB.out)) hb); clear HB; have HB := n0_; have BK := Aside0.mk hbox; clear n0_; clear hb hbox hg; have z0 : w2.cell? ⟨gb, 0, none⟩ = some (.int .u16 1) := (blk_cell BK.out 0).trans rfl; have z1 : w2.cell? ⟨gb, 1, none⟩ = some (.int .u8 1) := (blk_cell BK.out 1).trans rfl; have y0 := blk_frozen BK.out 0; have y1 := blk_frozen BK.out 1))
  go_ret
  exact ⟨by first | rfl | (simp <;> rfl), by repeat (first | (with_reducible first | exact HB.out | apply below_alloc | apply pw_below_drewN | apply below_drew1) | exact HB.out)⟩

theorem text62 : textOf 6 2 = [99, 101, 97, 115, 101, 47, 50] := by unfold textOf nameOf; rw [if_pos (by decide), dec_d3 (by decide)]; decide
theorem text26 : textOf 2 6 = [111, 112, 101, 110, 47, 54] := by unfold textOf nameOf; rw [if_pos (by decide), dec_d3 (by decide)]; decide
theorem text91 : textOf 9 1 = [57, 47, 49] := by unfold textOf nameOf; rw [if_neg (by decide), dec_d3 (by decide), dec_d3 (by decide)]; decide
theorem text_of (w : World) (hG : GlobN w) (c d : Nat) (hc : c < 256) (hd : d < 256) (x y : Int) (hx : x = c) (hy : y = d) (l : List UInt8) (h : textOf c d = l) (a : Array UInt8) (ha : a = l.toArray) :
    Calls Tryz.prog 18 #[.agg #[.int .u8 x, .int .u8 y]] w fun e w' => e = .returned (.string ⟨a⟩) ∧ Below w.heap.size w w' := by
  subst h ha hx hy
  exact Text_calls w hG c d hc hd

set_option maxHeartbeats 16000000 in
set_option maxRecDepth 100000 in
theorem tells_calls (w : World) (hG : GlobN w) :
    Calls Tryz.prog 10 #[] w fun e w' => e = .returned (.bool true) ∧ Below w.heap.size w w' := by
  have b0 := below_alloc (Below.refl w.heap.size w) (.cells #[.int .u8 6, .int .u8 2, .int .u8 7] 5)
  have hC0 := litC (litR w 5 .u8 [6, 2, 7] (by decide))
  have H1 := Read3_calls (w.alloc (.cells #[.int .u8 6, .int .u8 2, .int .u8 7] 5)) (hG.below b0) (some ⟨w.heap.size, 0, none⟩) 3 6 2 [7] hC0 (by decide) (by intro q hq; simp at hq; omega) false false false
  generalize hw0 : w.alloc (.cells #[.int .u8 6, .int .u8 2, .int .u8 7] 5) = w0 at *
  simp only [List.length_cons, List.length_nil, Nat.zero_add, Nat.reduceAdd] at H1
  clear hC0
  go_enter Tryz.func10, Tryz.ntmps10
  go_upto_region 1 with fail
  refine wp_region_lit ?_
  refine wpList_val rfl (.slice (some ⟨w.heap.size, 0, none⟩) 3 3) (W := w0) (by go_simp) ?_
  refine wpList_build_run rfl 59 _ rfl #[(0, .int .u8 3), (1, .slice (some ⟨w.heap.size, 0, none⟩) 3 3)] (by simp [Act.put, Act.eval]) (.agg #[.int .u8 3, .slice (some ⟨w.heap.size, 0, none⟩) 3 3]) (by kernel_rfl) ?_
  refine wpList_build_run rfl 50 #[] rfl #[] (by simp) (.agg #[.bool false, .bool false, .bool false]) (by kernel_rfl) ?_
  refine goesL_ (some 9) rfl rfl Tryz.func9 (by kernel_rfl) rfl #[.agg #[.int .u8 3, .slice (some ⟨w.heap.size, 0, none⟩) 3 3], .agg #[.bool false, .bool false, .bool false]] rfl (by simp [Act.put, Act.eval]) ?_
  refine H1.mono ?_
  rintro e w1 ⟨A5, c5, rfl, hC5, hc5, hb1⟩
  have HB := b0.trans (hb1.mono b0.size)
  clear H1 hb1 b0
  refine ⟨_, rfl, ?_⟩
  have hm1 := blk_new w1 (.cells #[.int .u8 0, .int .u8 0, .int .u16 0, .int .u16 0, .int .u32 0, .slice none 0 0, .slice none 0 0, .int .u32 0, .int .u8 0, .slice none 0 0, .int .u32 0, .int .u32 0, .int .u32 0, .int .u32 0, .int .u32 0, .slice none 0 0, .slice none 0 0, .int .u32 0, .int .u32 0, .slice none 0 0, .slice none 0 0, .int .i64 0, .int .u8 0, .int .u8 0, .slice none 0 0, .int .u16 0, .int .u8 0] 48)
  have hm2 := blk_alloc hm1 (.cells #[.int .u8 0, .int .u8 0, .slice none 0 0] 44)
  have hn2 := blk_new (w1.alloc (.cells #[.int .u8 0, .int .u8 0, .int .u16 0, .int .u16 0, .int .u32 0, .slice none 0 0, .slice none 0 0, .int .u32 0, .int .u8 0, .slice none 0 0, .int .u32 0, .int .u32 0, .int .u32 0, .int .u32 0, .int .u32 0, .slice none 0 0, .slice none 0 0, .int .u32 0, .int .u32 0, .slice none 0 0, .slice none 0 0, .int .i64 0, .int .u8 0, .int .u8 0, .slice none 0 0, .int .u16 0, .int .u8 0] 48)) (.cells #[.int .u8 0, .int .u8 0, .slice none 0 0] 44)
  rw [show (w1.alloc (.cells #[.int .u8 0, .int .u8 0, .int .u16 0, .int .u16 0, .int .u32 0, .slice none 0 0, .slice none 0 0, .int .u32 0, .int .u8 0, .slice none 0 0, .int .u32 0, .int .u32 0, .int .u32 0, .int .u32 0, .int .u32 0, .slice none 0 0, .slice none 0 0, .int .u32 0, .int .u32 0, .slice none 0 0, .slice none 0 0, .int .i64 0, .int .u8 0, .int .u8 0, .slice none 0 0, .int .u16 0, .int .u8 0] 48)).heap.size = w1.heap.size + 1 by simp] at hn2
  have hb2 := below_alloc (below_alloc (Below.refl w1.heap.size w1) (.cells #[.int .u8 0, .int .u8 0, .int .u16 0, .int .u16 0, .int .u32 0, .slice none 0 0, .slice none 0 0, .int .u32 0, .int .u8 0, .slice none 0 0, .int .u32 0, .int .u32 0, .int .u32 0, .int .u32 0, .int .u32 0, .slice none 0 0, .slice none 0 0, .int .u32 0, .int .u32 0, .slice none 0 0, .slice none 0 0, .int .i64 0, .int .u8 0, .int .u8 0, .slice none 0 0, .int .u16 0, .int .u8 0] 48)) (.cells #[.int .u8 0, .int .u8 0, .slice none 0 0] 44)
  obtain ⟨w3, hst3, hm3, hot3, hbl3, hkt3⟩ := st_row (ty := 48) hm2 (cells := #[.int .u8 3, .int .u8 0, .int .u16 0, .int .u16 0, .int .u32 0, .slice none 0 0, .slice none 0 0, .int .u32 0, .int .u8 0, .slice none 0 0, .int .u32 0, .int .u32 0, .int .u32 0, .int .u32 0, .int .u32 0, .slice none 0 0, .slice none 0 0, .int .u32 0, .int .u32 0, .slice none 0 0, .slice none 0 0, .int .i64 0, .int .u8 6, .int .u8 2, .slice A5 1 c5, .int .u16 0, .int .u8 0]) (by kernel_rfl) rfl (by first | kernel_rfl | simp [Value.oneCell'])
  have hn3 := (hot3 (w1.heap.size + 1) (by omega)).trans hn2
  have hb3 := hbl3 _ _ hb2 (Nat.le_refl _)
  obtain ⟨w4, hst4, hn4, hot4, hbl4, hkt4⟩ := st_row (ty := 44) hn3 (cells := #[.int .u8 0, .int .u8 0, .slice none 0 0]) (by kernel_rfl) rfl (by first | kernel_rfl | simp [Value.oneCell'])
  have hm4 := (hot4 w1.heap.size (by omega)).trans hm3
  have hb4 := hbl4 _ _ hb3 (by omega)
  clear hm1 hm2 hn2 hb2 hot3 hbl3 hn3 hb3 hot4 hbl4 hm3 hkt3 hkt4
  have HB4 := HB.trans (hb4.mono HB.size)
  have hbw4 := hb4
  generalize hMV : Value.agg #[.int .u8 3, .int .u8 0, .int .u16 0, .int .u16 0, .int .u32 0, .slice none 0 0, .slice none 0 0, .int .u32 0, .int .u8 0, .slice none 0 0, .int .u32 0, .int .u32 0, .int .u32 0, .int .u32 0, .int .u32 0, .slice none 0 0, .slice none 0 0, .int .u32 0, .int .u32 0, .slice none 0 0, .slice none 0 0, .int .i64 0, .int .u8 6, .int .u8 2, .slice A5 1 c5, .int .u16 0, .int .u8 0] = MV at *
  refine wpList_val rfl (.tuple #[MV, .agg #[.int .u8 0, .int .u8 0, .slice none 0 0]]) (W := w1) (by go_simp) ?_
  refine wpList_val rfl MV (W := w1) (by go_simp) ?_
  refine wpList_val rfl (.agg #[.int .u8 0, .int .u8 0, .slice none 0 0]) (W := w1) (by go_simp) ?_
  refine wpList_val rfl (.pointer (some ⟨w1.heap.size, 0, none⟩)) (W := w1.alloc (.cells #[.int .u8 0, .int .u8 0, .int .u16 0, .int .u16 0, .int .u32 0, .slice none 0 0, .slice none 0 0, .int .u32 0, .int .u8 0, .slice none 0 0, .int .u32 0, .int .u32 0, .int .u32 0, .int .u32 0, .int .u32 0, .slice none 0 0, .slice none 0 0, .int .u32 0, .int .u32 0, .slice none 0 0, .slice none 0 0, .int .i64 0, .int .u8 0, .int .u8 0, .slice none 0 0, .int .u16 0, .int .u8 0] 48)) (by go_simp) ?_
  refine wpList_val rfl (.pointer (some ⟨w1.heap.size + 1, 0, none⟩)) (W := (w1.alloc (.cells #[.int .u8 0, .int .u8 0, .int .u16 0, .int .u16 0, .int .u32 0, .slice none 0 0, .slice none 0 0, .int .u32 0, .int .u8 0, .slice none 0 0, .int .u32 0, .int .u32 0, .int .u32 0, .int .u32 0, .int .u32 0, .slice none 0 0, .slice none 0 0, .int .u32 0, .int .u32 0, .slice none 0 0, .slice none 0 0, .int .i64 0, .int .u8 0, .int .u8 0, .slice none 0 0, .int .u16 0, .int .u8 0] 48)).alloc (.cells #[.int .u8 0, .int .u8 0, .slice none 0 0] 44)) (by go_simp) ?_
  refine wpList_store_run rfl 48 (.tmp 1) (.tmp 10) rfl (.pointer (some ⟨w1.heap.size, 0, none⟩)) MV (by simp [Act.put, Act.eval]) (by simp [Act.put, Act.eval]) w3 hst3 ?_
  refine wpList_store_run rfl 44 (.tmp 2) (.tmp 11) rfl (.pointer (some ⟨w1.heap.size + 1, 0, none⟩)) (.agg #[.int .u8 0, .int .u8 0, .slice none 0 0]) (by simp [Act.put, Act.eval]) (by simp [Act.put, Act.eval]) w4 hst4 ?_
  refine wpList_nil ?_
  clear hst3 hst4 hb4 HB
  clear hMV
  have z4 : w.heap.size ≤ w4.heap.size := HB4.size
  have b5 := below_alloc (Below.refl w4.heap.size w4) (.cells #[.int .u8 0, .int .u8 1, .int .u8 0, .int .u8 1] 5)
  have hC0 := litC (litR w4 5 .u8 [0, 1, 0, 1] (by decide))
  have H2 := Read5_calls (w4.alloc (.cells #[.int .u8 0, .int .u8 1, .int .u8 0, .int .u8 1] 5)) (hG.below (HB4.trans (b5.mono HB4.size))) (some ⟨w4.heap.size, 0, none⟩) 4 0 1 0 1 [] hC0 (by decide) (by intro q hq; simp at hq; omega) false false false
  generalize hw5 : w4.alloc (.cells #[.int .u8 0, .int .u8 1, .int .u8 0, .int .u8 1] 5) = w5 at *
  simp only [List.length_cons, List.length_nil, Nat.zero_add, Nat.reduceAdd] at H2
  rw [show (0 : Int) * 256 + 1 = 1 by decide] at H2
  clear hC0
  go_upto_region 2 with fail
  refine wp_region_lit ?_
  refine wpList_val rfl (.slice (some ⟨w4.heap.size, 0, none⟩) 4 4) (W := w5) (by go_simp) ?_
  refine wpList_build_run rfl 59 _ rfl #[(0, .int .u8 5), (1, .slice (some ⟨w4.heap.size, 0, none⟩) 4 4)] (by simp [Act.put, Act.eval]) (.agg #[.int .u8 5, .slice (some ⟨w4.heap.size, 0, none⟩) 4 4]) (by kernel_rfl) ?_
  refine wpList_build_run rfl 50 #[] rfl #[] (by simp) (.agg #[.bool false, .bool false, .bool false]) (by kernel_rfl) ?_
  refine goesL_ (some 16) rfl rfl Tryz.func9 (by kernel_rfl) rfl #[.agg #[.int .u8 5, .slice (some ⟨w4.heap.size, 0, none⟩) 4 4], .agg #[.bool false, .bool false, .bool false]] rfl (by simp [Act.put, Act.eval]) ?_
  refine H2.mono ?_
  rintro e w6 ⟨rfl, hb6⟩
  have hb46 := b5.trans (hb6.mono b5.size)
  have HB6 := HB4.trans (hb46.mono z4)
  replace hm4 := blk_below hm4 hb46
  replace hn4 := blk_below hn4 hb46
  replace hC5 := Kd.C_below (Kd.C_below hC5 hbw4) hb46
  clear H2 hb6 hb46 b5 HB4 hw5 hbw4
  refine ⟨_, rfl, ?_⟩
  have hm1 := blk_new w6 (.cells #[.int .u8 0, .int .u8 0, .int .u16 0, .int .u16 0, .int .u32 0, .slice none 0 0, .slice none 0 0, .int .u32 0, .int .u8 0, .slice none 0 0, .int .u32 0, .int .u32 0, .int .u32 0, .int .u32 0, .int .u32 0, .slice none 0 0, .slice none 0 0, .int .u32 0, .int .u32 0, .slice none 0 0, .slice none 0 0, .int .i64 0, .int .u8 0, .int .u8 0, .slice none 0 0, .int .u16 0, .int .u8 0] 48)
  have hm2 := blk_alloc hm1 (.cells #[.int .u8 0, .int .u8 0, .slice none 0 0] 44)
  have hn2 := blk_new (w6.alloc (.cells #[.int .u8 0, .int .u8 0, .int .u16 0, .int .u16 0, .int .u32 0, .slice none 0 0, .slice none 0 0, .int .u32 0, .int .u8 0, .slice none 0 0, .int .u32 0, .int .u32 0, .int .u32 0, .int .u32 0, .int .u32 0, .slice none 0 0, .slice none 0 0, .int .u32 0, .int .u32 0, .slice none 0 0, .slice none 0 0, .int .i64 0, .int .u8 0, .int .u8 0, .slice none 0 0, .int .u16 0, .int .u8 0] 48)) (.cells #[.int .u8 0, .int .u8 0, .slice none 0 0] 44)
  rw [show (w6.alloc (.cells #[.int .u8 0, .int .u8 0, .int .u16 0, .int .u16 0, .int .u32 0, .slice none 0 0, .slice none 0 0, .int .u32 0, .int .u8 0, .slice none 0 0, .int .u32 0, .int .u32 0, .int .u32 0, .int .u32 0, .int .u32 0, .slice none 0 0, .slice none 0 0, .int .u32 0, .int .u32 0, .slice none 0 0, .slice none 0 0, .int .i64 0, .int .u8 0, .int .u8 0, .slice none 0 0, .int .u16 0, .int .u8 0] 48)).heap.size = w6.heap.size + 1 by simp] at hn2
  have hb2 := below_alloc (below_alloc (Below.refl w6.heap.size w6) (.cells #[.int .u8 0, .int .u8 0, .int .u16 0, .int .u16 0, .int .u32 0, .slice none 0 0, .slice none 0 0, .int .u32 0, .int .u8 0, .slice none 0 0, .int .u32 0, .int .u32 0, .int .u32 0, .int .u32 0, .int .u32 0, .slice none 0 0, .slice none 0 0, .int .u32 0, .int .u32 0, .slice none 0 0, .slice none 0 0, .int .i64 0, .int .u8 0, .int .u8 0, .slice none 0 0, .int .u16 0, .int .u8 0] 48)) (.cells #[.int .u8 0, .int .u8 0, .slice none 0 0] 44)
  obtain ⟨w8, hst8, hm8, hot8, hbl8, _⟩ := st_row (ty := 48) hm2 (cells := #[.int .u8 5, .int .u8 0, .int .u16 0, .int .u16 0, .int .u32 0, .slice none 0 0, .slice none 0 0, .int .u32 0, .int .u8 0, .slice none 0 0, .int .u32 0, .int .u32 0, .int .u32 0, .int .u32 0, .int .u32 0, .slice none 0 0, .slice none 0 0, .int .u32 0, .int .u32 0, .slice none 0 0, .slice none 0 0, .int .i64 0, .int .u8 0, .int .u8 0, .slice none 0 0, .int .u16 1, .int .u8 1]) (by kernel_rfl) rfl (by first | kernel_rfl | simp [Value.oneCell'])
  have hn8 := (hot8 (w6.heap.size + 1) (by omega)).trans hn2
  have hb8 := hbl8 _ _ hb2 (Nat.le_refl _)
  obtain ⟨w9, hst9, hn9, hot9, hbl9, _⟩ := st_row (ty := 44) hn8 (cells := #[.int .u8 0, .int .u8 0, .slice none 0 0]) (by kernel_rfl) rfl (by first | kernel_rfl | simp [Value.oneCell'])
  have hm9 := (hot9 w6.heap.size (by omega)).trans hm8
  have hb9 := hbl9 _ _ hb8 (by omega)
  clear hm1 hm2 hn2 hb2 hot8 hbl8 hn8 hb8 hot9 hbl9 hm8
  replace hm4 := blk_below hm4 hb9
  replace hn4 := blk_below hn4 hb9
  replace hC5 := Kd.C_below hC5 hb9
  have HB9 := HB6.trans (hb9.mono HB6.size)
  generalize hMV : Value.agg #[.int .u8 5, .int .u8 0, .int .u16 0, .int .u16 0, .int .u32 0, .slice none 0 0, .slice none 0 0, .int .u32 0, .int .u8 0, .slice none 0 0, .int .u32 0, .int .u32 0, .int .u32 0, .int .u32 0, .int .u32 0, .slice none 0 0, .slice none 0 0, .int .u32 0, .int .u32 0, .slice none 0 0, .slice none 0 0, .int .i64 0, .int .u8 0, .int .u8 0, .slice none 0 0, .int .u16 1, .int .u8 1] = MW at *
  refine wpList_val rfl (.tuple #[MW, .agg #[.int .u8 0, .int .u8 0, .slice none 0 0]]) (W := w6) (by go_simp) ?_
  refine wpList_val rfl MW (W := w6) (by go_simp) ?_
  refine wpList_val rfl (.agg #[.int .u8 0, .int .u8 0, .slice none 0 0]) (W := w6) (by go_simp) ?_
  refine wpList_val rfl (.pointer (some ⟨w6.heap.size, 0, none⟩)) (W := w6.alloc (.cells #[.int .u8 0, .int .u8 0, .int .u16 0, .int .u16 0, .int .u32 0, .slice none 0 0, .slice none 0 0, .int .u32 0, .int .u8 0, .slice none 0 0, .int .u32 0, .int .u32 0, .int .u32 0, .int .u32 0, .int .u32 0, .slice none 0 0, .slice none 0 0, .int .u32 0, .int .u32 0, .slice none 0 0, .slice none 0 0, .int .i64 0, .int .u8 0, .int .u8 0, .slice none 0 0, .int .u16 0, .int .u8 0] 48)) (by go_simp) ?_
  refine wpList_val rfl (.pointer (some ⟨w6.heap.size + 1, 0, none⟩)) (W := (w6.alloc (.cells #[.int .u8 0, .int .u8 0, .int .u16 0, .int .u16 0, .int .u32 0, .slice none 0 0, .slice none 0 0, .int .u32 0, .int .u8 0, .slice none 0 0, .int .u32 0, .int .u32 0, .int .u32 0, .int .u32 0, .int .u32 0, .slice none 0 0, .slice none 0 0, .int .u32 0, .int .u32 0, .slice none 0 0, .slice none 0 0, .int .i64 0, .int .u8 0, .int .u8 0, .slice none 0 0, .int .u16 0, .int .u8 0] 48)).alloc (.cells #[.int .u8 0, .int .u8 0, .slice none 0 0] 44)) (by go_simp) ?_
  refine wpList_store_run rfl 48 (.tmp 3) (.tmp 17) rfl (.pointer (some ⟨w6.heap.size, 0, none⟩)) MW (by simp [Act.put, Act.eval]) (by simp [Act.put, Act.eval]) w8 hst8 ?_
  refine wpList_store_run rfl 44 (.tmp 4) (.tmp 18) rfl (.pointer (some ⟨w6.heap.size + 1, 0, none⟩)) (.agg #[.int .u8 0, .int .u8 0, .slice none 0 0]) (by simp [Act.put, Act.eval]) (by simp [Act.put, Act.eval]) w9 hst9 ?_
  refine wpList_nil ?_
  clear hst8 hst9 hb9 HB6 hMV
  have p0 := blk_cell hn4 0
  have p1 := blk_cell hn4 1
  have q0 := blk_cell hm4 22
  have q1 := blk_cell hm4 23
  have q2 := blk_cell hm4 24
  simp at p0 p1 q0 q1 q2
  go_wp2_with fail
  refine (text_of w9 (hG.below HB9) 6 2 (by decide) (by decide) 6 2 rfl rfl _ text62 _ rfl).mono ?_
  rintro e w10 ⟨rfl, hb10⟩
  replace hm4 := blk_below hm4 hb10
  replace hm9 := blk_below hm9 hb10
  replace hn9 := blk_below hn9 hb10
  replace hC5 := Kd.C_below hC5 hb10
  replace HB9 := HB9.trans (hb10.mono HB9.size)
  have hcv := Kd.C_string (P := Tryz.prog) (A := A5) (c := c5) Tryz.underlying42 Tryz.underlying5 Tryz.underlying9 hC5
  rw [show strOfNums [7] = ⟨#[7]⟩ by decide] at hcv
  try simp only [List.length_cons, List.length_nil, Nat.reduceAdd, Nat.zero_add] at hcv
  clear hb10 p0 p1 q0 q1 q2 hn4
  have q2 := blk_cell hm4 24
  simp at q2
  go_wp2_with fail
  refine (text_of w10 (hG.below HB9) 2 6 (by decide) (by decide) 2 6 rfl rfl _ text26 _ rfl).mono ?_
  rintro e w11 ⟨rfl, hb11⟩
  replace hm9 := blk_below hm9 hb11
  replace hn9 := blk_below hn9 hb11
  replace HB9 := HB9.trans (hb11.mono HB9.size)
  clear hb11 q2 hm4 hcv hC5
  go_wp2_with fail
  refine (text_of w11 (hG.below HB9) 9 1 (by decide) (by decide) 9 1 rfl rfl _ text91 _ rfl).mono ?_
  rintro e w12 ⟨rfl, hb12⟩
  replace hm9 := blk_below hm9 hb12
  replace hn9 := blk_below hn9 hb12
  replace HB9 := HB9.trans (hb12.mono HB9.size)
  clear hb12
  have p0 := blk_cell hn9 0
  have p1 := blk_cell hn9 1
  have q0 := blk_cell hm9 25
  have q1 := blk_cell hm9 26
  simp at p0 p1 q0 q1
  go_wp2_with fail
  refine (Unicast_calls w12).mono ?_
  rintro e w13 ⟨rfl, hb13⟩
  replace HB9 := HB9.trans (hb13.mono HB9.size)
  clear hb13 p0 p1 q0 q1
  go_wp2_with fail
  go_ret
  exact ⟨rfl, HB9⟩
end Go.Proofs.YtbphidmnkbfchaaGreatDoor
