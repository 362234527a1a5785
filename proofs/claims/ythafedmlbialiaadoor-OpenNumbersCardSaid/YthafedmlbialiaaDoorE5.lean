/-
  The walk of the law OpenNumbers.
-/
import Derived.Test.YthafedmlbialiaaDoorE4
namespace Go.Proofs.YthafedmlbialiaaDoor
open Go.RowKit Go.Proofs.YthafedmlbialiaaDoorW.PrintWords Go.Proofs.YthafedmlbialiaaDoorW.PrintLast Go.Proofs.YthafedmlbialiaaDoorW.PrintMore
set_option linter.unusedVariables false
set_option linter.unusedSimpArgs false

theorem rowC {α : Type} {d : Kd α} {e B n c : Nat} {w : World} {ok : Nat → Prop} {A : Option Addr} {xs : List α} (h : d.R e w B ok (.slice A n c) xs) : d.C w A xs.length xs ∧ xs.length ≤ c ∧ n = xs.length := by
  obtain ⟨A', c', he, hl, hC⟩ := Kd.R_reads h
  injection he with h1 h2 h3
  subst h1 h3
  exact ⟨hC, hl, h2⟩
def fourN (n : Int) : List Int := [n / 16777216, n / 65536 % 256, n / 256 % 256, n % 256]
theorem num_four (n : Int) (h0 : 0 ≤ n) (h1 : n < 4294967296) : capsNumber [⟨65, fourN n⟩] = (n, true) := by
  show (acc32 ((Rdr.new (fourN n)).taken 4), true) = (n, true)
  rw [fourN, new_four _ _ _ _ (by omega) (by omega) (by omega) (by omega)]
  congr 1
  omega
theorem num_none : capsNumber [] = (0, false) := rfl
theorem num_three : capsNumber [⟨65, [1, 2, 3]⟩, ⟨9, []⟩] = (0, false) := rfl
theorem onum_without (an : Int) (l : List PA.S61) (h : capsNumber l = (0, false)) : oNumber an l = if an = 0 ∨ an = 23456 then (0, false) else (an, true) := by
  unfold oNumber
  rw [h]
theorem onum_four (an n : Int) (h0 : 0 ≤ n) (h1 : n < 4294967296) : oNumber an [⟨65, fourN n⟩] = if n = 0 ∨ (an ≠ n ∧ an ≠ 23456) then (0, false) else (n, true) := by
  unfold oNumber
  rw [num_four n h0 h1]
/-- A row of one capability, just made. -/
theorem lit_one (w : World) (cd : Int) (ys : List Int) (hl : ys.length ≤ 140737488351232) :
    PA.k61.C ((w.alloc (.cells (nums .u8 ys).toArray 5)).alloc (.cells #[.int .u8 cd, .slice (some ⟨w.heap.size, 0, none⟩) ys.length ys.length] 61)) (some ⟨w.heap.size + 1, 0, none⟩) 1 [⟨cd, ys⟩] := by
  have h4 := litR w 5 .u8 ys hl
  have hm := R_litW PA.k61 (W := w.alloc (.cells (nums .u8 ys).toArray 5)) (B := w.heap.size) (e := 61) (xs := [⟨cd, ys⟩]) (okp := fun _ => True) (Reps.c2 (PA.k61_mkM _ _ _ ⟨cd, ys⟩ h4) (Reps.none _ _)) (by simp) (by simp)
  rw [show (w.alloc (.cells (nums .u8 ys).toArray 5)).heap.size = w.heap.size + 1 by simp] at hm
  exact (rowC hm).1
/-- A row of two, the second without a value. -/
theorem lit_two (w : World) (cd ce : Int) (ys : List Int) (hl : ys.length ≤ 140737488351232) :
    PA.k61.C ((w.alloc (.cells (nums .u8 ys).toArray 5)).alloc (.cells #[.int .u8 cd, .slice (some ⟨w.heap.size, 0, none⟩) ys.length ys.length, .int .u8 ce, .slice none 0 0] 61)) (some ⟨w.heap.size + 1, 0, none⟩) 2 [⟨cd, ys⟩, ⟨ce, []⟩] := by
  have h4 := litR w 5 .u8 ys hl
  have hm := R_litW PA.k61 (W := w.alloc (.cells (nums .u8 ys).toArray 5)) (B := w.heap.size) (e := 61) (xs := [⟨cd, ys⟩, ⟨ce, []⟩]) (okp := fun _ => True) (Reps.c2 (PA.k61_mkM _ _ _ ⟨cd, ys⟩ h4) (Reps.c2 (PA.k61_mkM _ _ _ ⟨ce, []⟩ (Kd.R_nil _ _ _ _ _)) (Reps.none _ _))) (by simp) (by simp)
  rw [show (w.alloc (.cells (nums .u8 ys).toArray 5)).heap.size = w.heap.size + 1 by simp] at hm
  exact (rowC hm).1
theorem below_two (w : World) (o1 o2 : Obj) : Below w.heap.size w ((w.alloc o1).alloc o2) := below_alloc (below_alloc (Below.refl _ _) _) _

set_option maxHeartbeats 4000000 in
set_option maxRecDepth 100000 in
theorem OpenNumbers_walk (w : World) (hG : GlobC w) (hU : GlobU w) (hO : GlobO w) (an n : Int) (ha : 0 ≤ an ∧ an < 65536) (h0 : 0 ≤ n) (h1 : n < 4294967296) :
    Calls Tryd.prog 6 #[.int .u16 an, .int .u32 n] w fun e w' => e = .returned (.bool true) ∧ Below w.heap.size w w' := by
  have hn : n / 16777216 % 256 = n / 16777216 := by omega
  have hm : an % 4294967296 = an := by omega
  have r1 := onum_without an [] num_none
  have r2 := onum_four an n h0 h1
  have r3 := onum_without an [⟨65, [1, 2, 3]⟩, ⟨9, []⟩] num_three
  have W2 : CapsWf [⟨65, fourN n⟩] := by
    intro x hx
    rw [List.mem_singleton.1 hx]
    exact ⟨by simp [fourN], by intro b hb; simp [fourN] at hb; omega⟩
  have W3 : CapsWf [⟨65, [1, 2, 3]⟩, ⟨9, []⟩] := by
    intro x hx
    simp at hx
    rcases hx with rfl | rfl
    · exact ⟨by simp, by intro b hb; simp at hb; omega⟩
    · exact ⟨by simp, by simp⟩
  have L4 := lit_one w 65 (fourN n) (by simp [fourN])
  have B4 := below_two w (.cells (nums .u8 (fourN n)).toArray 5) (.cells #[.int .u8 65, .slice (some ⟨w.heap.size, 0, none⟩) (fourN n).length (fourN n).length] 61)
  have N1 := Aside0.mk W2
  have N2 := Aside0.mk W3
  have N3 := Aside0.mk L4
  have N4 := Aside0.mk B4
  have N5 := Aside0.mk ha
  clear W2 W3 L4 B4
  by_cases ha0 : an = 0
  · subst ha0
    rw [if_pos (Or.inl rfl)] at r1 r3
    by_cases hn0 : n = 0
    · subst hn0
      rw [if_pos (Or.inl rfl)] at r2
      have S1 := Aside0.mk r1
      have S2 := Aside0.mk r2
      have S3 := Aside0.mk r3
      clear r1 r2 r3 ha h0 h1
      go_enter Tryd.func6, Tryd.ntmps6
      go_wp2_with fail
      have HB := N4.out
      have hC4 := N3.out
      simp only [fourN, nums, List.map_cons, List.map_nil, List.length_cons, List.length_nil, Nat.reduceAdd, Nat.zero_add] at HB hC4
      refine (oNumber_calls _ none 0 [] (Kd.C_nil _ _) (by decide) (by intro x hx; cases hx) 0 0 0 0 N5.out 0 false S1.out).mono ?_
      rintro e w1 ⟨rfl, hb⟩
      replace HB := HB.trans (hb.mono HB.size)
      replace hC4 := Kd.C_below hC4 hb
      clear hb
      go_wp2_with fail
      refine (oNumber_calls _ (some ⟨w.heap.size + 1, 0, none⟩) 1 [⟨65, fourN 0⟩] hC4 (by simp) N1.out 0 0 0 0 N5.out 0 false S2.out).mono ?_
      rintro e w2 ⟨rfl, hb⟩
      replace HB := HB.trans (hb.mono HB.size)
      have hC5 := lit_two w2 65 9 [1, 2, 3] (by decide)
      have hb2 := below_two w2 (.cells (nums .u8 [1, 2, 3]).toArray 5) (.cells #[.int .u8 65, .slice (some ⟨w2.heap.size, 0, none⟩) [(1 : Int), 2, 3].length [(1 : Int), 2, 3].length, .int .u8 9, .slice none 0 0] 61)
      replace HB := HB.trans (hb2.mono HB.size)
      clear hb hb2 hC4
      go_wp2_with fail
      refine (oNumber_calls _ (some ⟨w2.heap.size + 1, 0, none⟩) 2 [⟨65, [1, 2, 3]⟩, ⟨9, []⟩] hC5 (by decide) N2.out 0 0 0 0 N5.out 0 false S3.out).mono ?_
      rintro e w3 ⟨rfl, hb⟩
      replace HB := HB.trans (hb.mono HB.size)
      clear hb hC5
      go_wp2_with fail
      refine (tells_calls _ (hG.below HB) (hU.below HB) (hO.below HB)).mono ?_
      rintro e w4 ⟨rfl, hb⟩
      replace HB := HB.trans (hb.mono HB.size)
      go_wp2
      go_ret
      exact ⟨rfl, HB⟩
    · rw [if_pos (Or.inr ⟨by omega, by omega⟩)] at r2
      have f1 : (n != 0) = true := bne_iff_ne.2 hn0
      have f2 : (0 == n) = false := beq_false_of_ne (by omega)
      have f3 : (0 != n) = true := bne_iff_ne.2 (by omega)
      have S1 := Aside0.mk r1
      have S2 := Aside0.mk r2
      have S3 := Aside0.mk r3
      clear r1 r2 r3 ha h0 h1
      go_enter Tryd.func6, Tryd.ntmps6
      go_wp2_with fail
      have HB := N4.out
      have hC4 := N3.out
      simp only [fourN, nums, List.map_cons, List.map_nil, List.length_cons, List.length_nil, Nat.reduceAdd, Nat.zero_add] at HB hC4
      refine (oNumber_calls _ none 0 [] (Kd.C_nil _ _) (by decide) (by intro x hx; cases hx) 0 0 0 0 N5.out 0 false S1.out).mono ?_
      rintro e w1 ⟨rfl, hb⟩
      replace HB := HB.trans (hb.mono HB.size)
      replace hC4 := Kd.C_below hC4 hb
      clear hb
      go_wp2_with fail
      refine (oNumber_calls _ (some ⟨w.heap.size + 1, 0, none⟩) 1 [⟨65, fourN n⟩] hC4 (by simp) N1.out 0 0 0 0 N5.out 0 false S2.out).mono ?_
      rintro e w2 ⟨rfl, hb⟩
      replace HB := HB.trans (hb.mono HB.size)
      have hC5 := lit_two w2 65 9 [1, 2, 3] (by decide)
      have hb2 := below_two w2 (.cells (nums .u8 [1, 2, 3]).toArray 5) (.cells #[.int .u8 65, .slice (some ⟨w2.heap.size, 0, none⟩) [(1 : Int), 2, 3].length [(1 : Int), 2, 3].length, .int .u8 9, .slice none 0 0] 61)
      replace HB := HB.trans (hb2.mono HB.size)
      clear hb hb2 hC4
      go_wp2_with fail
      refine (oNumber_calls _ (some ⟨w2.heap.size + 1, 0, none⟩) 2 [⟨65, [1, 2, 3]⟩, ⟨9, []⟩] hC5 (by decide) N2.out 0 0 0 0 N5.out 0 false S3.out).mono ?_
      rintro e w3 ⟨rfl, hb⟩
      replace HB := HB.trans (hb.mono HB.size)
      clear hb hC5
      go_wp2_with fail
      refine (tells_calls _ (hG.below HB) (hU.below HB) (hO.below HB)).mono ?_
      rintro e w4 ⟨rfl, hb⟩
      replace HB := HB.trans (hb.mono HB.size)
      go_wp2
      go_ret
      exact ⟨rfl, HB⟩
  · by_cases ha1 : an = 23456
    · subst ha1
      rw [if_pos (Or.inr rfl)] at r1 r3
      by_cases hn0 : n = 0
      · subst hn0
        rw [if_pos (Or.inl rfl)] at r2
        have S1 := Aside0.mk r1
        have S2 := Aside0.mk r2
        have S3 := Aside0.mk r3
        clear r1 r2 r3 ha h0 h1
        go_enter Tryd.func6, Tryd.ntmps6
        go_wp2_with fail
        have HB := N4.out
        have hC4 := N3.out
        simp only [fourN, nums, List.map_cons, List.map_nil, List.length_cons, List.length_nil, Nat.reduceAdd, Nat.zero_add] at HB hC4
        refine (oNumber_calls _ none 0 [] (Kd.C_nil _ _) (by decide) (by intro x hx; cases hx) 0 23456 0 0 N5.out 0 false S1.out).mono ?_
        rintro e w1 ⟨rfl, hb⟩
        replace HB := HB.trans (hb.mono HB.size)
        replace hC4 := Kd.C_below hC4 hb
        clear hb
        go_wp2_with fail
        refine (oNumber_calls _ (some ⟨w.heap.size + 1, 0, none⟩) 1 [⟨65, fourN 0⟩] hC4 (by simp) N1.out 0 23456 0 0 N5.out 0 false S2.out).mono ?_
        rintro e w2 ⟨rfl, hb⟩
        replace HB := HB.trans (hb.mono HB.size)
        have hC5 := lit_two w2 65 9 [1, 2, 3] (by decide)
        have hb2 := below_two w2 (.cells (nums .u8 [1, 2, 3]).toArray 5) (.cells #[.int .u8 65, .slice (some ⟨w2.heap.size, 0, none⟩) [(1 : Int), 2, 3].length [(1 : Int), 2, 3].length, .int .u8 9, .slice none 0 0] 61)
        replace HB := HB.trans (hb2.mono HB.size)
        clear hb hb2 hC4
        go_wp2_with fail
        refine (oNumber_calls _ (some ⟨w2.heap.size + 1, 0, none⟩) 2 [⟨65, [1, 2, 3]⟩, ⟨9, []⟩] hC5 (by decide) N2.out 0 23456 0 0 N5.out 0 false S3.out).mono ?_
        rintro e w3 ⟨rfl, hb⟩
        replace HB := HB.trans (hb.mono HB.size)
        clear hb hC5
        go_wp2_with fail
        refine (tells_calls _ (hG.below HB) (hU.below HB) (hO.below HB)).mono ?_
        rintro e w4 ⟨rfl, hb⟩
        replace HB := HB.trans (hb.mono HB.size)
        go_wp2
        go_ret
        exact ⟨rfl, HB⟩
      · rw [if_neg (by omega)] at r2
        have f1 : (n != 0) = true := bne_iff_ne.2 hn0
        have S1 := Aside0.mk r1
        have S2 := Aside0.mk r2
        have S3 := Aside0.mk r3
        clear r1 r2 r3 ha h0 h1
        go_enter Tryd.func6, Tryd.ntmps6
        go_wp2_with fail
        have HB := N4.out
        have hC4 := N3.out
        simp only [fourN, nums, List.map_cons, List.map_nil, List.length_cons, List.length_nil, Nat.reduceAdd, Nat.zero_add] at HB hC4
        refine (oNumber_calls _ none 0 [] (Kd.C_nil _ _) (by decide) (by intro x hx; cases hx) 0 23456 0 0 N5.out 0 false S1.out).mono ?_
        rintro e w1 ⟨rfl, hb⟩
        replace HB := HB.trans (hb.mono HB.size)
        replace hC4 := Kd.C_below hC4 hb
        clear hb
        go_wp2_with fail
        refine (oNumber_calls _ (some ⟨w.heap.size + 1, 0, none⟩) 1 [⟨65, fourN n⟩] hC4 (by simp) N1.out 0 23456 0 0 N5.out n true S2.out).mono ?_
        rintro e w2 ⟨rfl, hb⟩
        replace HB := HB.trans (hb.mono HB.size)
        have hC5 := lit_two w2 65 9 [1, 2, 3] (by decide)
        have hb2 := below_two w2 (.cells (nums .u8 [1, 2, 3]).toArray 5) (.cells #[.int .u8 65, .slice (some ⟨w2.heap.size, 0, none⟩) [(1 : Int), 2, 3].length [(1 : Int), 2, 3].length, .int .u8 9, .slice none 0 0] 61)
        replace HB := HB.trans (hb2.mono HB.size)
        clear hb hb2 hC4
        go_wp2_with fail
        refine (oNumber_calls _ (some ⟨w2.heap.size + 1, 0, none⟩) 2 [⟨65, [1, 2, 3]⟩, ⟨9, []⟩] hC5 (by decide) N2.out 0 23456 0 0 N5.out 0 false S3.out).mono ?_
        rintro e w3 ⟨rfl, hb⟩
        replace HB := HB.trans (hb.mono HB.size)
        clear hb hC5
        go_wp2_with fail
        refine (tells_calls _ (hG.below HB) (hU.below HB) (hO.below HB)).mono ?_
        rintro e w4 ⟨rfl, hb⟩
        replace HB := HB.trans (hb.mono HB.size)
        go_wp2
        go_ret
        exact ⟨rfl, HB⟩
    · rw [if_neg (by omega)] at r1 r3
      have g1 : (an != 0) = true := bne_iff_ne.2 ha0
      have g2 : (an != 23456) = true := bne_iff_ne.2 ha1
      have g3 : (an == 23456) = false := beq_false_of_ne ha1
      by_cases hn0 : n = 0
      · subst hn0
        rw [if_pos (Or.inl rfl)] at r2
        have S1 := Aside0.mk r1
        have S2 := Aside0.mk r2
        have S3 := Aside0.mk r3
        clear r1 r2 r3 ha h0 h1
        go_enter Tryd.func6, Tryd.ntmps6
        go_wp2_with fail
        have HB := N4.out
        have hC4 := N3.out
        simp only [fourN, nums, List.map_cons, List.map_nil, List.length_cons, List.length_nil, Nat.reduceAdd, Nat.zero_add] at HB hC4
        refine (oNumber_calls _ none 0 [] (Kd.C_nil _ _) (by decide) (by intro x hx; cases hx) 0 an 0 0 N5.out an true S1.out).mono ?_
        rintro e w1 ⟨rfl, hb⟩
        replace HB := HB.trans (hb.mono HB.size)
        replace hC4 := Kd.C_below hC4 hb
        clear hb
        go_wp2_with fail
        refine (oNumber_calls _ (some ⟨w.heap.size + 1, 0, none⟩) 1 [⟨65, fourN 0⟩] hC4 (by simp) N1.out 0 an 0 0 N5.out 0 false S2.out).mono ?_
        rintro e w2 ⟨rfl, hb⟩
        replace HB := HB.trans (hb.mono HB.size)
        have hC5 := lit_two w2 65 9 [1, 2, 3] (by decide)
        have hb2 := below_two w2 (.cells (nums .u8 [1, 2, 3]).toArray 5) (.cells #[.int .u8 65, .slice (some ⟨w2.heap.size, 0, none⟩) [(1 : Int), 2, 3].length [(1 : Int), 2, 3].length, .int .u8 9, .slice none 0 0] 61)
        replace HB := HB.trans (hb2.mono HB.size)
        clear hb hb2 hC4
        go_wp2_with fail
        refine (oNumber_calls _ (some ⟨w2.heap.size + 1, 0, none⟩) 2 [⟨65, [1, 2, 3]⟩, ⟨9, []⟩] hC5 (by decide) N2.out 0 an 0 0 N5.out an true S3.out).mono ?_
        rintro e w3 ⟨rfl, hb⟩
        replace HB := HB.trans (hb.mono HB.size)
        clear hb hC5
        go_wp2_with fail
        refine (tells_calls _ (hG.below HB) (hU.below HB) (hO.below HB)).mono ?_
        rintro e w4 ⟨rfl, hb⟩
        replace HB := HB.trans (hb.mono HB.size)
        go_wp2
        go_ret
        exact ⟨rfl, HB⟩
      · have f1 : (n != 0) = true := bne_iff_ne.2 hn0
        by_cases hna : an = n
        · subst hna
          rw [if_neg (by omega)] at r2
          have S1 := Aside0.mk r1
          have S2 := Aside0.mk r2
          have S3 := Aside0.mk r3
          clear r1 r2 r3 ha h0 h1
          go_enter Tryd.func6, Tryd.ntmps6
          go_wp2_with fail
          have HB := N4.out
          have hC4 := N3.out
          simp only [fourN, nums, List.map_cons, List.map_nil, List.length_cons, List.length_nil, Nat.reduceAdd, Nat.zero_add] at HB hC4
          refine (oNumber_calls _ none 0 [] (Kd.C_nil _ _) (by decide) (by intro x hx; cases hx) 0 an 0 0 N5.out an true S1.out).mono ?_
          rintro e w1 ⟨rfl, hb⟩
          replace HB := HB.trans (hb.mono HB.size)
          replace hC4 := Kd.C_below hC4 hb
          clear hb
          go_wp2_with fail
          refine (oNumber_calls _ (some ⟨w.heap.size + 1, 0, none⟩) 1 [⟨65, fourN an⟩] hC4 (by simp) N1.out 0 an 0 0 N5.out an true S2.out).mono ?_
          rintro e w2 ⟨rfl, hb⟩
          replace HB := HB.trans (hb.mono HB.size)
          have hC5 := lit_two w2 65 9 [1, 2, 3] (by decide)
          have hb2 := below_two w2 (.cells (nums .u8 [1, 2, 3]).toArray 5) (.cells #[.int .u8 65, .slice (some ⟨w2.heap.size, 0, none⟩) [(1 : Int), 2, 3].length [(1 : Int), 2, 3].length, .int .u8 9, .slice none 0 0] 61)
          replace HB := HB.trans (hb2.mono HB.size)
          clear hb hb2 hC4
          go_wp2_with fail
          refine (oNumber_calls _ (some ⟨w2.heap.size + 1, 0, none⟩) 2 [⟨65, [1, 2, 3]⟩, ⟨9, []⟩] hC5 (by decide) N2.out 0 an 0 0 N5.out an true S3.out).mono ?_
          rintro e w3 ⟨rfl, hb⟩
          replace HB := HB.trans (hb.mono HB.size)
          clear hb hC5
          go_wp2_with fail
          refine (tells_calls _ (hG.below HB) (hU.below HB) (hO.below HB)).mono ?_
          rintro e w4 ⟨rfl, hb⟩
          replace HB := HB.trans (hb.mono HB.size)
          go_wp2
          go_ret
          exact ⟨rfl, HB⟩
        · rw [if_pos (Or.inr ⟨hna, ha1⟩)] at r2
          have f2 : (an == n) = false := beq_false_of_ne hna
          have S1 := Aside0.mk r1
          have S2 := Aside0.mk r2
          have S3 := Aside0.mk r3
          clear r1 r2 r3 ha h0 h1
          go_enter Tryd.func6, Tryd.ntmps6
          go_wp2_with fail
          have HB := N4.out
          have hC4 := N3.out
          simp only [fourN, nums, List.map_cons, List.map_nil, List.length_cons, List.length_nil, Nat.reduceAdd, Nat.zero_add] at HB hC4
          refine (oNumber_calls _ none 0 [] (Kd.C_nil _ _) (by decide) (by intro x hx; cases hx) 0 an 0 0 N5.out an true S1.out).mono ?_
          rintro e w1 ⟨rfl, hb⟩
          replace HB := HB.trans (hb.mono HB.size)
          replace hC4 := Kd.C_below hC4 hb
          clear hb
          go_wp2_with fail
          refine (oNumber_calls _ (some ⟨w.heap.size + 1, 0, none⟩) 1 [⟨65, fourN n⟩] hC4 (by simp) N1.out 0 an 0 0 N5.out 0 false S2.out).mono ?_
          rintro e w2 ⟨rfl, hb⟩
          replace HB := HB.trans (hb.mono HB.size)
          have hC5 := lit_two w2 65 9 [1, 2, 3] (by decide)
          have hb2 := below_two w2 (.cells (nums .u8 [1, 2, 3]).toArray 5) (.cells #[.int .u8 65, .slice (some ⟨w2.heap.size, 0, none⟩) [(1 : Int), 2, 3].length [(1 : Int), 2, 3].length, .int .u8 9, .slice none 0 0] 61)
          replace HB := HB.trans (hb2.mono HB.size)
          clear hb hb2 hC4
          go_wp2_with fail
          refine (oNumber_calls _ (some ⟨w2.heap.size + 1, 0, none⟩) 2 [⟨65, [1, 2, 3]⟩, ⟨9, []⟩] hC5 (by decide) N2.out 0 an 0 0 N5.out an true S3.out).mono ?_
          rintro e w3 ⟨rfl, hb⟩
          replace HB := HB.trans (hb.mono HB.size)
          clear hb hC5
          go_wp2_with fail
          refine (tells_calls _ (hG.below HB) (hU.below HB) (hO.below HB)).mono ?_
          rintro e w4 ⟨rfl, hb⟩
          replace HB := HB.trans (hb.mono HB.size)
          go_wp2
          go_ret
          exact ⟨rfl, HB⟩
end Go.Proofs.YthafedmlbialiaaDoor
