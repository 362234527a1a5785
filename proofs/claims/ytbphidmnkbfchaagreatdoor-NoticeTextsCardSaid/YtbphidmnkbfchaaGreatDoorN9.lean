/-
  The walk of the law NoticeTexts.
-/
import Derived.Test.YtbphidmnkbfchaaGreatDoorN8
namespace Go.Proofs.YtbphidmnkbfchaaGreatDoor
open Go.RowKit Go.Proofs.YtbphidmnkbfchaaGreatDoorW.PrintWords Go.Proofs.YtbphidmnkbfchaaGreatDoorW.PrintLast Go.Proofs.YtbphidmnkbfchaaGreatDoorW.PrintMore
set_option linter.unusedVariables false
set_option linter.unusedSimpArgs false

theorem parse_err {s : List UInt8} {c d : Nat} {x : Int} (h : parseOf s = (c, d, x)) : x = 0 ∨ (c = 0 ∧ d = 0 ∧ (x = 5 ∨ x = 24)) := by
  unfold parseOf at h
  split at h
  · split at h
    · injection h with h1 h; injection h with h2 h3; exact .inr ⟨h1.symm, h2.symm, .inr h3.symm⟩
    · injection h with h1 h; injection h with h2 h3; exact .inl h3.symm
  · injection h with h1 h; injection h with h2 h3; exact .inr ⟨h1.symm, h2.symm, .inl h3.symm⟩
theorem textOf_len {c d : Nat} (hc : c < 256) (hd : d < 256) : (textOf c d).length ≤ 1000 := by
  have h1 : (Lib.decDigits d).length ≤ 3 := itoa_len hd
  have h2 : (nameOf c).length ≤ 6 := by
    unfold nameOf
    split
    · rename_i h
      match c, h with
      | 1, _ => decide
      | 2, _ => decide
      | 3, _ => decide
      | 4, _ => decide
      | 5, _ => decide
      | 6, _ => decide
    · have := itoa_len hc
      exact Nat.le_trans this (by decide)
  unfold textOf
  simp only [List.length_append, List.length_cons, List.length_nil]
  omega

theorem str_take (l : List UInt8) : (⟨l.toArray⟩ : ByteArray).extract 0 (min 30 l.length) = ⟨(l.take 30).toArray⟩ := by
  apply ByteArray.ext
  rw [ByteArray.data_extract]
  simp [List.extract_eq_take_drop]

set_option maxHeartbeats 8000000 in
set_option maxRecDepth 100000 in
theorem NoticeTexts_walk (w : World) (hG : GlobN w) (c d : Nat) (hc : c < 256) (hd : d < 256) (l : List UInt8) (hl : l.length ≤ 9223372036854775807) :
    Calls Tryz.prog 5 #[.agg #[.int .u8 c, .int .u8 d], .string ⟨l.toArray⟩] w fun e w' => e = .returned (.bool true) ∧ Below w.heap.size w w' := by
  obtain ⟨c2, d2, x, hp⟩ : ∃ c2 d2 x, parseOf (l.take 30) = (c2, d2, x) := ⟨_, _, _, rfl⟩
  have hu41 := Tryz.underlying41
  have HB := Aside0.mk (Below.refl w.heap.size w)
  go_enter Tryz.func5, Tryz.ntmps5
  go_wp2_with (first | ((with_reducible refine gate_dst (N := 2) rfl ?_); refine box_event ?hg (N := 2) ?hd (cs := #[.int .u8 c, .int .u8 d]) (t := 41) ?hr ?_; (case hd => rfl); (case hg => rfl); (case hr => first | (go_simp; done) | (go_simp; rfl)); intro gb hg w2 hbox hb; have n0_ := Aside0.mk (below_step (by repeat (first | (with_reducible first | exact HB.out | apply below_alloc | apply pw_below_drewN | apply below_drew1) | exact HB.out)) hb); clear HB; have HB := n0_; have BK := Aside0.mk hbox; clear n0_; clear hb hbox hg; have z0 : w2.cell? ⟨gb, 0, none⟩ = some (.int .u8 c) := (blk_cell BK.out 0).trans rfl; have z1 : w2.cell? ⟨gb, 1, none⟩ = some (.int .u8 d) := (blk_cell BK.out 1).trans rfl; have y0 := blk_frozen BK.out 0; have y1 := blk_frozen BK.out 1))
  clear z0 z1 y0 y1
  refine (Text_calls _ (hG.below HB.out) c d hc hd).mono ?_
  rintro e w3 ⟨rfl, hb3⟩
  replace HB := HB.out.trans (hb3.mono HB.out.size)
  have bk := blk_below BK.out hb3
  clear BK hb3
  go_wp2_with fail
  refine (Parse_calls w3 (hG.below HB) (textOf c d) (textOf_len hc hd) c d 0 (parse_text hc hd)).mono ?_
  rintro e w4 ⟨rfl, hb4⟩
  replace HB := HB.trans (hb4.mono HB.size)
  replace bk := blk_below bk hb4
  clear hb4
  have ha := blk_new w4 (.cells #[.int .u8 c, .int .u8 d] 41)
  have hba := below_alloc (Below.refl w4.heap.size w4) (.cells #[.int .u8 c, .int .u8 d] 41)
  go_upto_region 2 with fail
  refine wp_region_lit ?_
  generalize w4.alloc (.cells #[.int .u8 c, .int .u8 d] 41) = w5 at *
  refine wpList_val rfl (.string ⟨l.toArray⟩) (W := w5) (by go_simp) ?_
  refine wpList_val rfl (.string ⟨l.toArray⟩) (W := w5) (by go_simp) ?_
  refine wpList_val rfl (.int .i64 l.length) (W := w5) (by go_simp) ?_
  refine wpList_val rfl (.int .i64 (l.take 30).length) (W := w5) (by go_simp; omega) ?_
  refine wpList_val rfl (.string ⟨(l.take 30).toArray⟩) (W := w5) (by go_simp; rw [if_pos (Nat.min_le_right _ _), str_take]) ?_
  refine wpList_val rfl (.string ⟨(l.take 30).toArray⟩) (W := w5) (by go_simp) ?_
  refine wpList_nil ?_
  have hlen : (l.take 30).length ≤ 1000 := by rw [List.length_take]; omega
  generalize l.take 30 = t at *
  go_wp2_with fail
  refine (Parse_calls _ (hG.below (HB.trans (hba.mono HB.size))) t hlen c2 d2 x hp).mono ?_
  rintro e w6 ⟨rfl, hb6⟩
  replace HB := (HB.trans (hba.mono HB.size)).trans (hb6.mono (Nat.le_trans HB.size hba.size))
  replace bk := blk_below (blk_below bk hba) hb6
  replace ha := blk_below ha hb6
  clear hba hb6
  have hz := blk_new w6 (.cells #[.int .u8 c2, .int .u8 d2] 41)
  have hbz := below_alloc (Below.refl w6.heap.size w6) (.cells #[.int .u8 c2, .int .u8 d2] 41)
  have HBZ := HB.trans (hbz.mono HB.size)
  have bk1 := blk_below bk hbz
  have ha1 := blk_below ha hbz
  clear bk ha hbz
  rcases parse_err hp with rfl | ⟨rfl, rfl, rfl | rfl⟩
  · obtain ⟨hc2, hd2, ht⟩ := text_parse hp rfl
    go_upto_region 4 with fail
    generalize w6.alloc (.cells #[.int .u8 c2, .int .u8 d2] 41) = w7 at *
    have g0 := blk_cell bk1 0
    have g1 := blk_cell bk1 1
    have a0 := blk_cell ha1 0
    have a1 := blk_cell ha1 1
    have z0 := blk_cell hz 0
    have z1 := blk_cell hz 1
    simp at g0 g1 a0 a1 z0 z1
    go_wp2_with fail
    refine (Text_calls w7 (hG.below HBZ) c2 d2 hc2 hd2).mono ?_
    rintro e w8 ⟨rfl, hb8⟩
    replace HB := HBZ.trans (hb8.mono HBZ.size)
    replace hz := blk_below hz hb8
    clear hb8 HBZ g0 g1 a0 a1 z0 z1
    go_wp2_with fail
    refine (Parse_calls w8 (hG.below HB) (textOf c2 d2) (textOf_len hc2 hd2) c2 d2 0 (parse_text hc2 hd2)).mono ?_
    rintro e w9 ⟨rfl, hb9⟩
    replace HB := HB.trans (hb9.mono HB.size)
    replace hz := blk_below hz hb9
    clear hb9
    have hy := blk_new w9 (.cells #[.int .u8 c2, .int .u8 d2] 41)
    have hby := below_alloc (Below.refl w9.heap.size w9) (.cells #[.int .u8 c2, .int .u8 d2] 41)
    replace hz := blk_below hz hby
    replace HB := HB.trans (hby.mono HB.size)
    clear hby
    go_upto_region 9 with fail
    generalize w9.alloc (.cells #[.int .u8 c2, .int .u8 d2] 41) = w10 at *
    have z0 := blk_cell hz 0
    have z1 := blk_cell hz 1
    have y0 := blk_cell hy 0
    have y1 := blk_cell hy 1
    simp at z0 z1 y0 y1
    go_wp2_with fail
    refine (Text_calls w10 (hG.below HB) c2 d2 hc2 hd2).mono ?_
    rintro e w11 ⟨rfl, hb11⟩
    replace HB := HB.trans (hb11.mono HB.size)
    replace hz := blk_below hz hb11
    clear hb11 z0 z1 y0 y1 hy
    have z0 := blk_cell hz 0
    have z1 := blk_cell hz 1
    simp at z0 z1
    by_cases he : textOf c2 d2 = t
    · rw [he]
      go_wp2_with fail
      refine (tells_calls w11 (hG.below HB)).mono ?_
      rintro e w12 ⟨rfl, hb12⟩
      replace HB := HB.trans (hb12.mono HB.size)
      go_wp2_with fail
      go_ret
      exact ⟨rfl, HB⟩
    · have ht2 := ht.resolve_left he
      have hne : ¬ (⟨(textOf c2 d2).toArray⟩ : ByteArray) = ⟨t.toArray⟩ := fun h => he (bytes_inj.1 h)
      have h1 : (1 : Int) ≤ c2 := by omega
      have h2 : (c2 : Int) ≤ 6 := by omega
      go_wp2_with fail

      refine (tells_calls w11 (hG.below HB)).mono ?_
      rintro e w12 ⟨rfl, hb12⟩
      replace HB := HB.trans (hb12.mono HB.size)
      go_wp2_with fail
      go_ret
      exact ⟨rfl, HB⟩
  · go_upto_region 4 with fail
    generalize w6.alloc (.cells #[.int .u8 (0 : Nat), .int .u8 (0 : Nat)] 41) = w7 at *
    have g0 := blk_cell bk1 0
    have g1 := blk_cell bk1 1
    have a0 := blk_cell ha1 0
    have a1 := blk_cell ha1 1
    have z0 := blk_cell hz 0
    have z1 := blk_cell hz 1
    simp at g0 g1 a0 a1 z0 z1
    go_wp2_with fail
    refine (tells_calls w7 (hG.below HBZ)).mono ?_
    rintro e w8 ⟨rfl, hb8⟩
    replace HBZ := HBZ.trans (hb8.mono HBZ.size)
    go_wp2_with fail
    go_ret
    exact ⟨rfl, HBZ⟩
  · go_upto_region 4 with fail
    generalize w6.alloc (.cells #[.int .u8 (0 : Nat), .int .u8 (0 : Nat)] 41) = w7 at *
    have g0 := blk_cell bk1 0
    have g1 := blk_cell bk1 1
    have a0 := blk_cell ha1 0
    have a1 := blk_cell ha1 1
    have z0 := blk_cell hz 0
    have z1 := blk_cell hz 1
    simp at g0 g1 a0 a1 z0 z1
    go_wp2_with fail
    refine (tells_calls w7 (hG.below HBZ)).mono ?_
    rintro e w8 ⟨rfl, hb8⟩
    replace HBZ := HBZ.trans (hb8.mono HBZ.size)
    go_wp2_with fail
    go_ret
    exact ⟨rfl, HBZ⟩
end Go.Proofs.YtbphidmnkbfchaaGreatDoor
