/-
  The walk of the law CapsBack.
-/
import Derived.Test.YthafedmlbialiaaDoorP4
import Derived.Test.YthafedmlbialiaaDoorL1
namespace Go.Proofs.YthafedmlbialiaaDoor
open Go.RowKit Go.Proofs.YthafedmlbialiaaDoorW.PrintWords Go.Proofs.YthafedmlbialiaaDoorW.PrintLast Go.Proofs.YthafedmlbialiaaDoorW.PrintMore
set_option linter.unusedVariables false
set_option linter.unusedSimpArgs false

set_option maxHeartbeats 4000000 in
set_option maxRecDepth 100000 in
theorem CapsBack_walk (w : World) (hG : GlobC w) (A : Option Addr) (c : Nat) (l : List PA.S61) (hC : PA.k61.C w A l.length l) (hl : l.length ≤ 140737488351232) (hwf : ByteCaps l)
    (B : Option Addr) (cb : Nat) (xs : List Int) (hCb : (Kd.int .u8).C w B xs.length xs) (hcb : xs.length ≤ cb) (hlb : xs.length ≤ 140737488351232) (hbb : ∀ b, b ∈ xs → 0 ≤ b ∧ b < 256) (ct : Int) (h0 : 0 ≤ ct) (h1 : ct < 256) :
    Calls Tryd.prog 8 #[.slice A l.length c, .slice B xs.length cb, .int .u8 ct] w fun e w' => e = .returned (.bool true) ∧ Below w.heap.size w w' := by
  have R0 := Aside0.mk (few_calls w A c l hC hl)
  have hm := few_bytes hwf
  have hml := few_len l
  generalize few l = m at *
  obtain ⟨mi, hmi⟩ : ∃ mi : Int, (xs.length ≤ 300 ∧ mi = xs.length) ∨ (300 < xs.length ∧ mi = 300) := by
    by_cases h : xs.length ≤ 300
    · exact ⟨_, .inl ⟨h, rfl⟩⟩
    · exact ⟨_, .inr ⟨by omega, rfl⟩⟩
  obtain ⟨hcut, hCy, hyc, hyl⟩ := cutN 300 w B cb xs hCb hcb mi hmi
  have hif : (if 300 < (xs.length : Int) then (300 : Int) else xs.length) = mi := by
    rcases hmi with ⟨hm1, rfl⟩ | ⟨hm1, rfl⟩
    · exact if_neg (by omega)
    · exact if_pos (by omega)
  have hyb : ∀ b, b ∈ xs.take 300 → 0 ≤ b ∧ b < 256 := fun b hb => hbb b (List.mem_of_mem_take hb)
  generalize xs.take 300 = ys at *
  obtain ⟨y, g0, g1, hrd, hcase⟩ := read_any ys hyb hyl
  have Y1 := Aside0.mk hrd
  have Y2 := Aside0.mk hcase
  have Y3 := Aside0.mk hCy
  have Y4 := Aside0.mk hyb
  have Y5 := Aside0.mk hm
  have Y6 := Aside0.mk hml
  have Y7 := Aside0.mk hyl
  have HB := Below.refl w.heap.size w
  clear hrd hcase hCy hyb hmi hCb hC hwf hbb hm hml hl hcb hyl
  rcases bytes_form m Y5.out with ⟨be, hbe, hbo⟩ | ⟨gs, hbe, hgm, hgl, hgp, hgb⟩
  · have R1 := Aside0.mk (fun w A c hC hlc => Bytes_calls w A c m hC hlc (by have := Y6.out; omega))
    rw [hbe] at R1
    clear hbe
    have n0 : (be == 0) = false := by rcases hbo with rfl | rfl <;> rfl
    have n1 : (be != 1 && be != 3) = false := by rcases hbo with rfl | rfl <;> rfl
    rcases hbo with rfl | rfl
    all_goals
      go_enter Tryd.func8, Tryd.ntmps8
      go_wp2_with fail
      refine (R0.out).mono ?_
      rintro e w1 ⟨v1, rfl, hv1, hb⟩
      replace HB := HB.trans (hb.mono HB.size)
      obtain ⟨A1, c1, rfl, hc1, hC1⟩ := Kd.R_reads hv1
      clear hb hv1
      go_wp2_with fail
      refine (R1.out w1 A1 c1 hC1 hc1).mono ?_
      rintro e w2 ⟨v2, rfl, hv2, hb⟩
      replace HB := HB.trans (hb.mono HB.size)
      obtain ⟨A2, c2, rfl, hc2, hC2⟩ := Kd.R_reads hv2
      clear hb hv2 hC1
      have hCy := Kd.C_below Y3.out HB
      go_wp2_with fail
      refine (capsRead_calls (ys.length + 1) B cb ys y g0 g1 w2 (hG.below HB) hCy (by have := Y7.out; omega) Y4.out Y1.out).mono ?_
      rintro e w20 ⟨v20, rfl, hv20, hb⟩
      replace HB := HB.trans (hb.mono HB.size)
      replace hCy := Kd.C_below hCy hb
      obtain ⟨A20, c20, rfl, hc20, hC20⟩ := Kd.R_reads hv20
      clear hb hv20
      rcases Y2.out with ⟨rfl, rfl, hg1⟩ | ⟨rfl, rfl, hyl2, hyf, hybc, hyp⟩
      · rcases hg1 with rfl | rfl
        · have hF := FB.new w20 2 0
          have hb := below_alloc (Below.refl w20.heap.size w20) (.cells #[.int .u8 2, .int .u8 0] 26)
          replace HB := HB.trans (hb.mono HB.size)
          have q0 := hF.c0
          have q1 := hF.c1
          clear hb hF
          go_wp2_with fail
          refine (wakes_calls _ (hG.below HB)).mono ?_
          rintro e w21 ⟨rfl, hb⟩
          replace HB := HB.trans (hb.mono HB.size)
          clear hb
          go_wp2
          go_ret
          exact ⟨rfl, HB⟩
        · have hF := FB.new w20 2 4
          have hb := below_alloc (Below.refl w20.heap.size w20) (.cells #[.int .u8 2, .int .u8 4] 26)
          replace HB := HB.trans (hb.mono HB.size)
          have q0 := hF.c0
          have q1 := hF.c1
          clear hb hF
          go_wp2_with fail
          refine (wakes_calls _ (hG.below HB)).mono ?_
          rintro e w21 ⟨rfl, hb⟩
          replace HB := HB.trans (hb.mono HB.size)
          clear hb
          go_wp2
          go_ret
          exact ⟨rfl, HB⟩
      · obtain ⟨b2, he, hB2, hcs⟩ : ∃ b2 he, capsBytes y = (b2, he) ∧ ((b2 = [] ∧ he = 3 ∧ 255 < ys.length) ∨ ∃ gs2 : List (List PA.S61), b2 = gs2.flatMap par ∧ he = 0 ∧ gs2.flatten = y ∧ (gs2.flatMap par).length ≤ 255 ∧ (gs2.flatMap par).length ≤ ys.length ∧ ∀ b, b ∈ gs2.flatMap par → 0 ≤ b ∧ b < 256) := by
          rcases bytes_any y hyf hybc with ⟨e1, e2⟩ | ⟨gs2, e1, e2, e3, e4, e5⟩
          · exact ⟨_, _, e1, .inl ⟨rfl, rfl, by omega⟩⟩
          · exact ⟨_, _, e1, .inr ⟨gs2, rfl, rfl, e2, e3, by omega, e5⟩⟩
        have hof := of_of y (by have := Y7.out; omega)
        have hsm := same_of (y.map cap99) (by rw [List.length_map]; have := Y7.out; omega)
        generalize y.map cap99 = y9 at hof hsm
        have S1 := Aside0.mk hof
        have S2 := Aside0.mk hsm
        have S3 := Aside0.mk (fun w A c hC hlc => Bytes_calls w A c y hC hlc (by have := Y7.out; omega))
        rw [hB2] at S3
        have hF := FB.new w20 0 0
        have hb := below_alloc (Below.refl w20.heap.size w20) (.cells #[.int .u8 0, .int .u8 0] 26)
        replace HB := HB.trans (hb.mono HB.size)
        replace hC20 := Kd.C_below hC20 hb
        have q0 := hF.c0
        have q1 := hF.c1
        clear hb hF hB2 hof hsm hyf hybc hyp hyl2
        go_wp2_with fail
        refine (S3.out _ A20 c20 hC20 hc20).mono ?_
        rintro e w21 ⟨v21, rfl, hv21, hb⟩
        replace HB := HB.trans (hb.mono HB.size)
        replace hC20 := Kd.C_below hC20 hb
        obtain ⟨A21, c21, rfl, hc21, hC21⟩ := Kd.R_reads hv21
        clear hb hv21 q0 q1
        rcases hcs with ⟨rfl, rfl, hlong⟩ | ⟨gs2, rfl, rfl, hgy, hg255, hgle, hgb2⟩
        · have d1 : decide ((ys.length : Int) > 255) = true := decide_eq_true (by omega)
          have d2 : decide (255 < (ys.length : Int)) = true := decide_eq_true (by omega)
          have d3 : decide (255 < ys.length) = true := decide_eq_true hlong
          clear hlong
          go_wp2_with fail
          refine (wakes_calls _ (hG.below HB)).mono ?_
          rintro e w22 ⟨rfl, hb⟩
          replace HB := HB.trans (hb.mono HB.size)
          clear hb
          go_wp2
          go_ret
          exact ⟨rfl, HB⟩
        · have hrf := read_form gs2 hgb2 hg255
          rw [hgy] at hrf
          have T1 := Aside0.mk hgb2
          generalize gs2.flatMap par = bs2 at *
          have T2 := Aside0.mk hrf
          have T3 := Aside0.mk hg255
          have d1 : decide ((bs2.length : Int) ≤ ys.length) = true := decide_eq_true (by omega)
          have d2 : decide (bs2.length ≤ ys.length) = true := decide_eq_true hgle
          clear hrf hgle hg255 hgb2 hgy
          go_wp2_with fail
          refine (capsRead_calls (bs2.length + 1) A21 c21 bs2 y 0 0 w21 (hG.below HB) hC21 (by have := T3.out; omega) T1.out T2.out).mono ?_
          rintro e w22 ⟨v22, rfl, hv22, hb⟩
          replace HB := HB.trans (hb.mono HB.size)
          replace hC20 := Kd.C_below hC20 hb
          replace hC21 := Kd.C_below hC21 hb
          obtain ⟨A22, c22, rfl, hc22, hC22⟩ := Kd.R_reads hv22
          clear hb hv22
          have hF := FB.new w22 0 0
          have hb := below_alloc (Below.refl w22.heap.size w22) (.cells #[.int .u8 0, .int .u8 0] 26)
          replace HB := HB.trans (hb.mono HB.size)
          replace hC20 := Kd.C_below hC20 hb
          replace hC22 := Kd.C_below hC22 hb
          have q0 := hF.c0
          have q1 := hF.c1
          clear hb hF hC21
          go_wp2_with fail
          refine (PA.consulatelaw05_of.calls (y.length + 1) (fun k => k < (w22.alloc (.cells #[.int .u8 0, .int .u8 0] 26)).heap.size) A22 c22 y y9 _ (Kd.V_mk hc22 (Kd.C_F PA.k61_heap hC22)) S1.out).mono ?_
          rintro e w23 ⟨v23, rfl, hv23, hb⟩
          replace HB := HB.trans (hb.mono HB.size)
          replace hC20 := Kd.C_below hC20 hb
          obtain ⟨A23, c23, rfl, hc23, hC23⟩ := Kd.N_reads hv23
          clear hb hv23 hC22 q0 q1
          go_wp2_with fail
          refine (PA.consulatelaw05_of.calls (y.length + 1) (fun k => k < w23.heap.size) A20 c20 y y9 w23 (Kd.V_mk hc20 (Kd.C_F PA.k61_heap hC20)) S1.out).mono ?_
          rintro e w24 ⟨v24, rfl, hv24, hb⟩
          replace HB := HB.trans (hb.mono HB.size)
          replace hC23 := Kd.C_below hC23 hb
          obtain ⟨A24, c24, rfl, hc24, hC24⟩ := Kd.N_reads hv24
          clear hb hv24 hC20
          go_wp2_with fail
          refine (PA.consulatelaw05_same.calls (y9.length + 1) A23 c23 y9 A24 c24 y9 true w24 hC23 hc23 hC24 hc24 S2.out).mono ?_
          rintro e w25 ⟨rfl, hd⟩
          have hb := Drawn0.below hd
          replace HB := HB.trans (hb.mono HB.size)
          clear hb hd hC23 hC24
          go_wp2_with fail
          refine (wakes_calls _ (hG.below HB)).mono ?_
          rintro e w26 ⟨rfl, hb⟩
          replace HB := HB.trans (hb.mono HB.size)
          clear hb
          go_wp2
          go_ret
          exact ⟨rfl, HB⟩
  · have R1 := Aside0.mk (fun w A c hC hlc => Bytes_calls w A c m hC hlc (by have := Y6.out; omega))
    rw [hbe] at R1
    have hrf := read_form gs hgb hgl
    rw [hgm] at hrf
    have hrc := fun k hk => read_cut gs hgb hgl k hk
    have hcn := cutN_le gs
    rw [hgm] at hcn
    simp only [hgm] at hrc
    have hnil : ((gs.flatMap par).length = 0) ↔ m.length = 0 := by
      constructor
      · intro h
        rw [← hgm]
        exact (form_nil.1 h).1
      · intro h
        rw [hgp, List.length_eq_zero_iff.1 h]
        rfl
    have hat := fun p g rest (h : Bnd gs p (g :: rest)) => bnd_at h
    have hend := fun p (h : Bnd gs p []) => bnd_nil h
    have hof := of_of m (by have := Y6.out; omega)
    have hsm := same_of (m.map cap99) (by rw [List.length_map]; have := Y6.out; omega)
    generalize m.map cap99 = m9 at hof hsm
    generalize gs.flatMap par = bs at *
    have T1 := Aside0.mk hgb
    have T2 := Aside0.mk hrf
    have T3 := Aside0.mk hgl
    have T4 := Aside0.mk hrc
    have T5 := Aside0.mk hcn
    have T6 := Aside0.mk hat
    have T7 := Aside0.mk hend
    have U1 := Aside0.mk hof
    have U2 := Aside0.mk hsm
    have d1 : decide ((bs.length : Int) > 255) = false := decide_eq_false (by omega)
    have d2 : decide (255 < (bs.length : Int)) = false := decide_eq_false (by omega)
    have d3 : decide (255 < bs.length) = false := decide_eq_false (by omega)
    have T8 := Aside0.mk hnil
    clear hgb hrf hgl hrc hcn hat hend hof hsm hbe hgm hgp hnil
    by_cases hz : bs.length = 0
    · have e1 : ((bs.length : Int) == 0) = true := by rw [hz]; rfl
      have e2 : ((m.length : Int) == 0) = true := by rw [T8.out.1 hz]; rfl
      have e3 : decide ((bs.length : Int) > 0) = false := decide_eq_false (by omega)
      have e4 : decide (0 < (bs.length : Int)) = false := decide_eq_false (by omega)
      have e5 : decide (0 < bs.length) = false := decide_eq_false (by omega)
      have hz' := Aside0.mk hz
      clear hz
      go_enter Tryd.func8, Tryd.ntmps8
      go_wp2_with fail
      refine (R0.out).mono ?_
      rintro e w1 ⟨v1, rfl, hv1, hb⟩
      replace HB := HB.trans (hb.mono HB.size)
      obtain ⟨A1, c1, rfl, hc1, hC1⟩ := Kd.R_reads hv1
      clear hb hv1
      go_wp2_with fail
      refine (R1.out w1 A1 c1 hC1 hc1).mono ?_
      rintro e w2 ⟨v2, rfl, hv2, hb⟩
      replace HB := HB.trans (hb.mono HB.size)
      replace hC1 := Kd.C_below hC1 hb
      obtain ⟨A2, c2, rfl, hc2, hC2⟩ := Kd.R_reads hv2
      clear hb hv2
      go_wp2_with fail
      refine (capsRead_calls (bs.length + 1) A2 c2 bs m 0 0 w2 (hG.below HB) hC2 (by have := T3.out; omega) T1.out T2.out).mono ?_
      rintro e w3 ⟨v3, rfl, hv3, hb⟩
      replace HB := HB.trans (hb.mono HB.size)
      replace hC1 := Kd.C_below hC1 hb
      replace hC2 := Kd.C_below hC2 hb
      obtain ⟨A3, c3, rfl, hc3, hC3⟩ := Kd.R_reads hv3
      clear hb hv3
      have K1 := Aside0.mk hC1
      have K2 := Aside0.mk hC2
      have hF := FB.new w3 0 0
      have HB3 := below_alloc (Below.refl w3.heap.size w3) (.cells #[.int .u8 0, .int .u8 0] 26)
      replace hC1 := Kd.C_below hC1 HB3
      replace hC3 := Kd.C_below hC3 HB3
      have q0 := hF.c0
      have q1 := hF.c1
      clear hC2
      go_wp2_with fail
      refine (PA.consulatelaw05_of.calls (m.length + 1) (fun k => k < (w3.alloc (.cells #[.int .u8 0, .int .u8 0] 26)).heap.size) A3 c3 m m9 _ (Kd.V_mk hc3 (Kd.C_F PA.k61_heap hC3)) U1.out).mono ?_
      rintro e w4 ⟨v4, rfl, hv4, hb⟩
      replace HB3 := HB3.trans (hb.mono HB3.size)
      replace hC1 := Kd.C_below hC1 hb
      replace hF := hF.below hb
      obtain ⟨A4, c4, rfl, hc4, hC4⟩ := Kd.N_reads hv4
      clear hb hv4 hC3 q0 q1
      go_wp2_with fail
      refine (PA.consulatelaw05_of.calls (m.length + 1) (fun k => k < w4.heap.size) A1 c1 m m9 w4 (Kd.V_mk hc1 (Kd.C_F PA.k61_heap hC1)) U1.out).mono ?_
      rintro e w5 ⟨v5, rfl, hv5, hb⟩
      replace HB3 := HB3.trans (hb.mono HB3.size)
      replace hC4 := Kd.C_below hC4 hb
      replace hF := hF.below hb
      obtain ⟨A5, c5, rfl, hc5, hC5⟩ := Kd.N_reads hv5
      clear hb hv5 hC1
      go_wp2_with fail
      refine (PA.consulatelaw05_same.calls (m9.length + 1) A4 c4 m9 A5 c5 m9 true w5 hC4 hc4 hC5 hc5 U2.out).mono ?_
      rintro e w6 ⟨rfl, hd⟩
      have hb := Drawn0.below hd
      replace HB3 := HB3.trans (hb.mono HB3.size)
      replace hF := hF.below hb
      clear hb hd hC4 hC5
      replace HB := HB.trans (HB3.mono HB.size)
      have hCy := Kd.C_below Y3.out HB
      go_wp2_with fail
      refine (capsRead_calls (ys.length + 1) B cb ys y g0 g1 w6 (hG.below HB) hCy (by have := Y7.out; omega) Y4.out Y1.out).mono ?_
      rintro e w20 ⟨v20, rfl, hv20, hb⟩
      replace HB := HB.trans (hb.mono HB.size)
      replace hCy := Kd.C_below hCy hb
      obtain ⟨A20, c20, rfl, hc20, hC20⟩ := Kd.R_reads hv20
      clear hb hv20
      rcases Y2.out with ⟨rfl, rfl, hg1⟩ | ⟨rfl, rfl, hyl2, hyf, hybc, hyp⟩
      · rcases hg1 with rfl | rfl
        · have hF := FB.new w20 2 0
          have hb := below_alloc (Below.refl w20.heap.size w20) (.cells #[.int .u8 2, .int .u8 0] 26)
          replace HB := HB.trans (hb.mono HB.size)
          have q0 := hF.c0
          have q1 := hF.c1
          clear hb hF
          go_wp2_with fail
          refine (wakes_calls _ (hG.below HB)).mono ?_
          rintro e w21 ⟨rfl, hb⟩
          replace HB := HB.trans (hb.mono HB.size)
          clear hb
          go_wp2
          go_ret
          exact ⟨rfl, HB⟩
        · have hF := FB.new w20 2 4
          have hb := below_alloc (Below.refl w20.heap.size w20) (.cells #[.int .u8 2, .int .u8 4] 26)
          replace HB := HB.trans (hb.mono HB.size)
          have q0 := hF.c0
          have q1 := hF.c1
          clear hb hF
          go_wp2_with fail
          refine (wakes_calls _ (hG.below HB)).mono ?_
          rintro e w21 ⟨rfl, hb⟩
          replace HB := HB.trans (hb.mono HB.size)
          clear hb
          go_wp2
          go_ret
          exact ⟨rfl, HB⟩
      · obtain ⟨b2, he, hB2, hcs⟩ : ∃ b2 he, capsBytes y = (b2, he) ∧ ((b2 = [] ∧ he = 3 ∧ 255 < ys.length) ∨ ∃ gs2 : List (List PA.S61), b2 = gs2.flatMap par ∧ he = 0 ∧ gs2.flatten = y ∧ (gs2.flatMap par).length ≤ 255 ∧ (gs2.flatMap par).length ≤ ys.length ∧ ∀ b, b ∈ gs2.flatMap par → 0 ≤ b ∧ b < 256) := by
          rcases bytes_any y hyf hybc with ⟨e1, e2⟩ | ⟨gs2, e1, e2, e3, e4, e5⟩
          · exact ⟨_, _, e1, .inl ⟨rfl, rfl, by omega⟩⟩
          · exact ⟨_, _, e1, .inr ⟨gs2, rfl, rfl, e2, e3, by omega, e5⟩⟩
        have hof := of_of y (by have := Y7.out; omega)
        have hsm := same_of (y.map cap99) (by rw [List.length_map]; have := Y7.out; omega)
        generalize y.map cap99 = y9 at hof hsm
        have S1 := Aside0.mk hof
        have S2 := Aside0.mk hsm
        have S3 := Aside0.mk (fun w A c hC hlc => Bytes_calls w A c y hC hlc (by have := Y7.out; omega))
        rw [hB2] at S3
        have hF := FB.new w20 0 0
        have hb := below_alloc (Below.refl w20.heap.size w20) (.cells #[.int .u8 0, .int .u8 0] 26)
        replace HB := HB.trans (hb.mono HB.size)
        replace hC20 := Kd.C_below hC20 hb
        have q0 := hF.c0
        have q1 := hF.c1
        clear hb hF hB2 hof hsm hyf hybc hyp hyl2
        go_wp2_with fail
        refine (S3.out _ A20 c20 hC20 hc20).mono ?_
        rintro e w21 ⟨v21, rfl, hv21, hb⟩
        replace HB := HB.trans (hb.mono HB.size)
        replace hC20 := Kd.C_below hC20 hb
        obtain ⟨A21, c21, rfl, hc21, hC21⟩ := Kd.R_reads hv21
        clear hb hv21 q0 q1
        rcases hcs with ⟨rfl, rfl, hlong⟩ | ⟨gs2, rfl, rfl, hgy, hg255, hgle, hgb2⟩
        · have d1 : decide ((ys.length : Int) > 255) = true := decide_eq_true (by omega)
          have d2 : decide (255 < (ys.length : Int)) = true := decide_eq_true (by omega)
          have d3 : decide (255 < ys.length) = true := decide_eq_true hlong
          clear hlong
          go_wp2_with fail
          refine (wakes_calls _ (hG.below HB)).mono ?_
          rintro e w22 ⟨rfl, hb⟩
          replace HB := HB.trans (hb.mono HB.size)
          clear hb
          go_wp2
          go_ret
          exact ⟨rfl, HB⟩
        · have hrf := read_form gs2 hgb2 hg255
          rw [hgy] at hrf
          have T1 := Aside0.mk hgb2
          generalize gs2.flatMap par = bs2 at *
          have T2 := Aside0.mk hrf
          have T3 := Aside0.mk hg255
          have d1 : decide ((bs2.length : Int) ≤ ys.length) = true := decide_eq_true (by omega)
          have d2 : decide (bs2.length ≤ ys.length) = true := decide_eq_true hgle
          clear hrf hgle hg255 hgb2 hgy
          go_wp2_with fail
          refine (capsRead_calls (bs2.length + 1) A21 c21 bs2 y 0 0 w21 (hG.below HB) hC21 (by have := T3.out; omega) T1.out T2.out).mono ?_
          rintro e w22 ⟨v22, rfl, hv22, hb⟩
          replace HB := HB.trans (hb.mono HB.size)
          replace hC20 := Kd.C_below hC20 hb
          replace hC21 := Kd.C_below hC21 hb
          obtain ⟨A22, c22, rfl, hc22, hC22⟩ := Kd.R_reads hv22
          clear hb hv22
          have hF := FB.new w22 0 0
          have hb := below_alloc (Below.refl w22.heap.size w22) (.cells #[.int .u8 0, .int .u8 0] 26)
          replace HB := HB.trans (hb.mono HB.size)
          replace hC20 := Kd.C_below hC20 hb
          replace hC22 := Kd.C_below hC22 hb
          have q0 := hF.c0
          have q1 := hF.c1
          clear hb hF hC21
          go_wp2_with fail
          refine (PA.consulatelaw05_of.calls (y.length + 1) (fun k => k < (w22.alloc (.cells #[.int .u8 0, .int .u8 0] 26)).heap.size) A22 c22 y y9 _ (Kd.V_mk hc22 (Kd.C_F PA.k61_heap hC22)) S1.out).mono ?_
          rintro e w23 ⟨v23, rfl, hv23, hb⟩
          replace HB := HB.trans (hb.mono HB.size)
          replace hC20 := Kd.C_below hC20 hb
          obtain ⟨A23, c23, rfl, hc23, hC23⟩ := Kd.N_reads hv23
          clear hb hv23 hC22 q0 q1
          go_wp2_with fail
          refine (PA.consulatelaw05_of.calls (y.length + 1) (fun k => k < w23.heap.size) A20 c20 y y9 w23 (Kd.V_mk hc20 (Kd.C_F PA.k61_heap hC20)) S1.out).mono ?_
          rintro e w24 ⟨v24, rfl, hv24, hb⟩
          replace HB := HB.trans (hb.mono HB.size)
          replace hC23 := Kd.C_below hC23 hb
          obtain ⟨A24, c24, rfl, hc24, hC24⟩ := Kd.N_reads hv24
          clear hb hv24 hC20
          go_wp2_with fail
          refine (PA.consulatelaw05_same.calls (y9.length + 1) A23 c23 y9 A24 c24 y9 true w24 hC23 hc23 hC24 hc24 S2.out).mono ?_
          rintro e w25 ⟨rfl, hd⟩
          have hb := Drawn0.below hd
          replace HB := HB.trans (hb.mono HB.size)
          clear hb hd hC23 hC24
          go_wp2_with fail
          refine (wakes_calls _ (hG.below HB)).mono ?_
          rintro e w26 ⟨rfl, hb⟩
          replace HB := HB.trans (hb.mono HB.size)
          clear hb
          go_wp2
          go_ret
          exact ⟨rfl, HB⟩
    · have e1 : ((bs.length : Int) == 0) = false := beq_false_of_ne (by omega)
      have e2 : ((m.length : Int) == 0) = false := beq_false_of_ne (by have := T8.out; omega)
      have e3 : decide ((bs.length : Int) > 0) = true := decide_eq_true (by omega)
      have e4 : decide (0 < (bs.length : Int)) = true := decide_eq_true (by omega)
      have e5 : decide (0 < bs.length) = true := decide_eq_true (by omega)
      obtain ⟨k, hk, hkl⟩ : ∃ k : Nat, ct.tmod bs.length = (k : Int) ∧ k < bs.length := by
        refine ⟨(ct.tmod bs.length).toNat, ?_, ?_⟩
        · have := Int.tmod_nonneg (a := ct) (bs.length : Int) h0
          omega
        · have h2 := Int.tmod_lt_of_pos ct (show 0 < (bs.length : Int) by omega)
          have := Int.tmod_nonneg (a := ct) (bs.length : Int) h0
          omega
      obtain ⟨y1, gc, hrk, hyk⟩ : ∃ y1 gc, capsRead.f (k + 1) (bs.take k) = some (y1, gc, 0) ∧ ((cutW gs k = k ∧ y1 = m.take (cutN' gs k) ∧ gc = 0) ∨ (cutW gs k ≠ k ∧ y1 = [] ∧ gc = 2)) := by
        have h := T4.out k (by omega)
        by_cases hc : cutW gs k = k
        · rw [if_pos hc] at h
          exact ⟨_, _, h, .inl ⟨hc, rfl, rfl⟩⟩
        · rw [if_neg hc] at h
          exact ⟨_, _, h, .inr ⟨hc, rfl, rfl⟩⟩
      have hbl : (bs.take k).length = k := by rw [List.length_take]; omega
      have hbkb : ∀ b, b ∈ bs.take k → 0 ≤ b ∧ b < 256 := fun b hb => T1.out b (List.mem_of_mem_take hb)
      obtain ⟨i5, hi5, _⟩ := info_parts info5
      have KT := Aside0.mk (fun (w : World) (A : Option Addr) (h : (Kd.int .u8).C w A bs.length bs) => Kd.C_take h (m := k) (by omega))
      generalize bs.take k = bk at *
      have KL := Aside0.mk hbl.symm
      have KR := Aside0.mk hrk
      have KY := Aside0.mk hyk
      have KB := Aside0.mk hbkb
      have hne : ¬ bs = [] := fun h => hz (by rw [h]; rfl)
      have hz' := Aside0.mk hz
      have K0 := Aside0.mk hkl
      clear hz hkl hbl hrk hyk hbkb
      go_enter Tryd.func8, Tryd.ntmps8
      go_wp2_with fail
      refine (R0.out).mono ?_
      rintro e w1 ⟨v1, rfl, hv1, hb⟩
      replace HB := HB.trans (hb.mono HB.size)
      obtain ⟨A1, c1, rfl, hc1, hC1⟩ := Kd.R_reads hv1
      clear hb hv1
      go_wp2_with fail
      refine (R1.out w1 A1 c1 hC1 hc1).mono ?_
      rintro e w2 ⟨v2, rfl, hv2, hb⟩
      replace HB := HB.trans (hb.mono HB.size)
      replace hC1 := Kd.C_below hC1 hb
      obtain ⟨A2, c2, rfl, hc2, hC2⟩ := Kd.R_reads hv2
      clear hb hv2
      have hcutk : ∀ W : World, (Instr.slice 22 (.slice A2 bs.length c2) none (some (.int .i64 (k : Int))) none).run Tryd.prog W = .ok (.slice A2 bk.length c2) W := by
        have h := cut_to (P := Tryd.prog) 22 5 .i64 Tryd.underlying22 hi5 A2 bs.length c2 (k : Int) (by omega) (by have := K0.out; omega) hc2
        have e : ((k : Int)).toNat = bk.length := by rw [Int.toNat_natCast]; exact KL.out
        rw [e] at h
        exact h
      go_wp2_with fail
      refine (capsRead_calls (bs.length + 1) A2 c2 bs m 0 0 w2 (hG.below HB) hC2 (by have := T3.out; omega) T1.out T2.out).mono ?_
      rintro e w3 ⟨v3, rfl, hv3, hb⟩
      replace HB := HB.trans (hb.mono HB.size)
      replace hC1 := Kd.C_below hC1 hb
      replace hC2 := Kd.C_below hC2 hb
      obtain ⟨A3, c3, rfl, hc3, hC3⟩ := Kd.R_reads hv3
      clear hb hv3
      have K1 := Aside0.mk hC1
      have K2 := Aside0.mk hC2
      have hF := FB.new w3 0 0
      have HB3 := below_alloc (Below.refl w3.heap.size w3) (.cells #[.int .u8 0, .int .u8 0] 26)
      replace hC1 := Kd.C_below hC1 HB3
      replace hC3 := Kd.C_below hC3 HB3
      have q0 := hF.c0
      have q1 := hF.c1
      clear hC2
      go_wp2_with fail
      refine (PA.consulatelaw05_of.calls (m.length + 1) (fun k => k < (w3.alloc (.cells #[.int .u8 0, .int .u8 0] 26)).heap.size) A3 c3 m m9 _ (Kd.V_mk hc3 (Kd.C_F PA.k61_heap hC3)) U1.out).mono ?_
      rintro e w4 ⟨v4, rfl, hv4, hb⟩
      replace HB3 := HB3.trans (hb.mono HB3.size)
      replace hC1 := Kd.C_below hC1 hb
      replace hF := hF.below hb
      obtain ⟨A4, c4, rfl, hc4, hC4⟩ := Kd.N_reads hv4
      clear hb hv4 hC3 q0 q1
      go_wp2_with fail
      refine (PA.consulatelaw05_of.calls (m.length + 1) (fun k => k < w4.heap.size) A1 c1 m m9 w4 (Kd.V_mk hc1 (Kd.C_F PA.k61_heap hC1)) U1.out).mono ?_
      rintro e w5 ⟨v5, rfl, hv5, hb⟩
      replace HB3 := HB3.trans (hb.mono HB3.size)
      replace hC4 := Kd.C_below hC4 hb
      replace hF := hF.below hb
      obtain ⟨A5, c5, rfl, hc5, hC5⟩ := Kd.N_reads hv5
      clear hb hv5 hC1
      go_wp2_with fail
      refine (PA.consulatelaw05_same.calls (m9.length + 1) A4 c4 m9 A5 c5 m9 true w5 hC4 hc4 hC5 hc5 U2.out).mono ?_
      rintro e w6 ⟨rfl, hd⟩
      have hb := Drawn0.below hd
      replace HB3 := HB3.trans (hb.mono HB3.size)
      replace hF := hF.below hb
      clear hb hd hC4 hC5
      go_wp2_with fail
      refine (capsRead_calls (k + 1) A2 c2 bk y1 gc 0 w6 (hG.below (HB.trans (HB3.mono HB.size))) (Kd.C_below (KT.out _ _ K2.out) HB3) (by have := T3.out; have := KL.out; have := K0.out; omega) KB.out KR.out).mono ?_
      rintro e w7 ⟨v7, rfl, hv7, hb⟩
      replace HB3 := HB3.trans (hb.mono HB3.size)
      replace hF := hF.below hb
      obtain ⟨A7, c7, rfl, hc7, _⟩ := Kd.R_reads hv7
      clear hb
      have q0 := hF.c0
      have q1 := hF.c1
      have f0 := blk_frozen hF 0
      have f1 := blk_frozen hF 1
      go_upto_block 0 with fail
      replace hv7 := Kd.R_set (Kd.R_set hv7 hF (by decide) 0 (.int .u8 gc)) (blk_put hF 0 (.int .u8 gc) rfl) (by decide) 1 (.int .u8 0)
      replace HB3 := (HB3.setCell (p := ⟨w3.heap.size, 0, none⟩) (Nat.le_refl _) (.int .u8 gc)).setCell (p := ⟨w3.heap.size, 1, none⟩) (Nat.le_refl _) (.int .u8 0)
      replace hF := blk_put (blk_put hF 0 (.int .u8 gc) rfl) 1 (.int .u8 0) rfl
      clear q0 q1 f0 f1
      generalize ((w7.setCell ⟨w3.heap.size, 0, none⟩ (.int .u8 gc)).setCell ⟨w3.heap.size, 1, none⟩ (.int .u8 0)) = w8 at *
      go_cut [12, 13] (fun v u wx => v = .int .i64 ((cutW gs k : Nat) : Int) ∧ wx = w8)
      case first =>
        have hC2 := Kd.C_below K2.out HB3
        clear hF hv7
        go_wp2_with fail
        go_loopw [12, 13] (fun v u w' => ∃ (p : Nat) (rest : List (List PA.S61)), v = .int .i64 (p : Int) ∧ Aside0 (Bnd gs p rest) ∧ Aside0 (p ≤ k) ∧ w' = w8) (fun v _ _ => k - (intOf v).toNat)
        case atStart => exact ⟨0, gs, rfl, ⟨bnd_start gs⟩, ⟨Nat.zero_le _⟩, rfl⟩
        case round =>
          obtain ⟨p, rest, rfl, hB, hp, rfl⟩ := hrel
          by_cases hlt : p < k
          · cases rest with
            | nil => exact absurd (T7.out p hB.out) (by have := K0.out; omega)
            | cons g rest =>
              obtain ⟨ha, hle⟩ := T6.out p g rest hB.out
              have hB2 := Aside0.mk (bnd_step hB.out)
              have hst := Aside0.mk (fun h => bnd_stop (k := k) hB.out hp.out h)
              generalize (body g).length = n at *
              have l5 := T3.out
              obtain ⟨j, hj⟩ : ∃ j : Int, j = (p : Int) + 1 := ⟨_, rfl⟩
              obtain ⟨a2, ha2⟩ : ∃ a2 : Int, a2 = (p : Int) + 2 := ⟨_, rfl⟩
              obtain ⟨a3, ha3⟩ : ∃ a3 : Int, a3 = ((p + 2 + n : Nat) : Int) := ⟨_, rfl⟩
              have y1 : IntKind.i64.wrap ((p : Int) + 2) = a2 := by rw [i64_w, w64 (by omega) (by omega)]; omega
              have y2 : IntKind.i64.wrap ((p : Int) + 1) = j := by rw [i64_w, w64 (by omega) (by omega)]; omega
              have y3 : IntKind.i64.wrap (a2 + n) = a3 := by rw [i64_w, w64 (by omega) (by omega)]; omega
              have y4 : decide ((p : Int) < k) = true := decide_eq_true (by omega)
              have p1 : 0 ≤ j := by omega
              have q1 : j < (bs.length : Int) := by omega
              obtain ⟨ad, rfl, hx⟩ := Kd.at_int hC2 j p1 q1
              have ej : rd bs j = n := by rw [← ha]; congr 1
              rw [ej] at hx
              replace p1 := eq_true p1
              replace q1 := eq_true q1
              have y5 : decide (a3 > k) = decide (k < p + 2 + n) := decide_eq_decide.2 (by omega)
              have y6 : decide ((k : Int) < a3) = decide (k < p + 2 + n) := decide_eq_decide.2 (by omega)
              have ha3' := Aside0.mk ha3
              have y7 : decide ((n : Int) < 256) = true := decide_eq_true (by omega)
              have z2 : IntKind.i64.wrap (n : Int) = n := by rw [i64_w, w64 (by omega) (by omega)]
              have hle' := Aside0.mk hle
              have hlt' := Aside0.mk hlt
              clear ha hj ha2 ha3 ej l5 hle
              by_cases hnx : k < p + 2 + n
              · rw [decide_eq_true hnx] at y5 y6
                go_wp2
                go_meet
                case rel => exact ⟨by rw [hst.out hnx], rfl⟩
              · rw [decide_eq_false hnx] at y5 y6
                go_wp2
                refine ⟨⟨p + 2 + n, rest, by rw [ha3'.out], hB2, ⟨by omega⟩, trivial⟩, ?_⟩
                rw [ha3'.out]
                simp only [intOf, Int.toNat_natCast]
                have := hlt'.out
                omega
          · have hpk : p = k := by have := hp.out; omega
            have y4 : decide ((p : Int) < k) = false := decide_eq_false (by omega)
            have hpk' := Aside0.mk hpk
            clear hpk
            go_wp2
            go_meet
            case rel => exact ⟨by have := bnd_full (hpk'.out ▸ hB.out); rw [this, hpk'.out], rfl⟩
      case rest =>
        obtain ⟨rfl, rfl⟩ := hcut
        replace hF : FB wc w3.heap.size gc 0 := hF
        have hL1 := T5.out k
        have KM := Aside0.mk (fun (w : World) (A : Option Addr) (h : PA.k61.C w A m.length m) => Kd.C_take h hL1)
        have hle : (m.take (cutN' gs k)).length ≤ m.length := by rw [List.length_take]; omega
        rcases KY.out with ⟨hc, rfl, rfl⟩ | ⟨hc, rfl, rfl⟩
        · rw [hc]
          generalize m.take (cutN' gs k) = mk at *
          have hof := of_of mk (by have := Y6.out; omega)
          have hsm := same_of (mk.map cap99) (by rw [List.length_map]; have := Y6.out; omega)
          generalize mk.map cap99 = n9 at hof hsm
          have N1 := Aside0.mk hof
          have N2 := Aside0.mk hsm
          obtain ⟨i6, hi6, _⟩ := info_parts PA.info61
          have hcutl : ∀ W : World, (Instr.slice 24 (.slice A1 m.length c1) none (some (.int .i64 (mk.length : Int))) none).run Tryd.prog W = .ok (.slice A1 mk.length c1) W := by
            have h := cut_to (P := Tryd.prog) 24 61 .i64 Tryd.underlying24 hi6 A1 m.length c1 (mk.length : Int) (by omega) (by omega) hc1
            rw [Int.toNat_natCast] at h
            exact h
          have d6 : decide ((mk.length : Int) > m.length) = false := decide_eq_false (by omega)
          have d7 : decide ((m.length : Int) < mk.length) = false := decide_eq_false (by omega)
          have d8 : decide (m.length < mk.length) = false := decide_eq_false (by omega)
          have hle' := Aside0.mk hle
          have hc1' := Aside0.mk hc1
          clear hof hsm hle hL1 hc
          have q0 := hF.c0
          go_upto_region 15 with fail
          refine start_ (n := 30) (S := fun w' => w'.cell? ⟨w3.heap.size, 0, none⟩ = some (.int .u8 0)) (ds := []) #[false, false, false, false, false, false, false, false, false, false, false, false, false, false, false, false, false, false, false, false, false, false, false, false, false, false, false, false, false, false] (by kernel_rfl) rfl rfl (q0) (fun hHeld => ?_)
          have HB4 := below_drew HB3
          have hC1 := Kd.C_below (KM.out _ _ K1.out) HB4
          obtain ⟨A8, c8, e8, hc8, hC8⟩ := Kd.R_reads (Kd.R_drew hv7)
          injection e8 with e8 _ e9
          subst e8 e9
          have b0 := Below.refl wc.drew.heap.size wc.drew
          refine pure_ (i := 0) (N := (some 90)) (v := ?_) (a' := ?_) #[true, false, false, false, false, false, false, false, false, false, false, false, false, false, false, false, false, false, false, false, false, false, false, false, false, false, false, false, false, false] rfl rfl (by kernel_rfl) (fun _ _ _ h => h) (Or.inl ⟨by rfl, ?_⟩) ?_ ?_
          rotate_left
          · intro w'
            go_simp
            with_reducible rfl
          rotate_left
          · simp only [Act.put, List.setIfInBounds_toArray, List.set_cons_zero, List.set_cons_succ, i64_w, i32_w]
            rfl
          refine take_ (i := 1) (N := (some 91)) (v := ?_) (a' := ?_) #[true, true, false, false, false, false, false, false, false, false, false, false, false, false, false, false, false, false, false, false, false, false, false, false, false, false, false, false, false, false] rfl rfl (by kernel_rfl) (fun _ _ _ h => h) (Or.inl ⟨by rfl, ?_⟩) hHeld ?_ ?_
          rotate_left
          · rintro w' s0
            go_simp
            with_reducible rfl
          rotate_left
          · simp only [Act.put, List.setIfInBounds_toArray, List.set_cons_zero, List.set_cons_succ, i64_w, i32_w]
            rfl
          refine pure_ (i := 2) (N := (some 92)) (v := ?_) (a' := ?_) #[true, true, true, false, false, false, false, false, false, false, false, false, false, false, false, false, false, false, false, false, false, false, false, false, false, false, false, false, false, false] rfl rfl (by kernel_rfl) (fun _ _ _ h => h) (Or.inl ⟨by rfl, ?_⟩) ?_ ?_
          rotate_left
          · intro w'
            go_simp
            with_reducible rfl
          rotate_left
          · simp only [Act.put, List.setIfInBounds_toArray, List.set_cons_zero, List.set_cons_succ, i64_w, i32_w]
            rfl
          refine pure_ (i := 3) (N := (some 93)) (v := ?_) (a' := ?_) #[true, true, true, true, false, false, false, false, false, false, false, false, false, false, false, false, false, false, false, false, false, false, false, false, false, false, false, false, false, false] rfl rfl (by kernel_rfl) (fun _ _ _ h => h) (Or.inl ⟨by rfl, ?_⟩) ?_ ?_
          rotate_left
          · intro w'
            go_simp
            with_reducible rfl
          rotate_left
          · simp only [Act.put, List.setIfInBounds_toArray, List.set_cons_zero, List.set_cons_succ, i64_w, i32_w]
            rfl
          refine pure_ (i := 4) (N := (some 94)) (v := ?_) (a' := ?_) #[true, true, true, true, true, false, false, false, false, false, false, false, false, false, false, false, false, false, false, false, false, false, false, false, false, false, false, false, false, false] rfl rfl (by kernel_rfl) (fun _ _ _ h => h) (Or.inl ⟨by rfl, ?_⟩) ?_ ?_
          rotate_left
          · intro w'
            go_simp
            with_reducible rfl
          rotate_left
          · simp only [Act.put, List.setIfInBounds_toArray, List.set_cons_zero, List.set_cons_succ, i64_w, i32_w]
            rfl
          refine pure_ (i := 5) (N := (some 95)) (v := ?_) (a' := ?_) #[true, true, true, true, true, true, false, false, false, false, false, false, false, false, false, false, false, false, false, false, false, false, false, false, false, false, false, false, false, false] rfl rfl (by kernel_rfl) (fun _ _ _ h => h) (Or.inl ⟨by rfl, ?_⟩) ?_ ?_
          rotate_left
          · intro w'
            go_simp
            with_reducible rfl
          rotate_left
          · simp only [Act.put, List.setIfInBounds_toArray, List.set_cons_zero, List.set_cons_succ, i64_w, i32_w]
            rfl
          refine pure_ (i := 6) (N := (some 96)) (v := ?_) (a' := ?_) #[true, true, true, true, true, true, true, false, false, false, false, false, false, false, false, false, false, false, false, false, false, false, false, false, false, false, false, false, false, false] rfl rfl (by kernel_rfl) (fun _ _ _ h => h) (Or.inl ⟨by rfl, ?_⟩) ?_ ?_
          rotate_left
          · intro w'
            go_simp
            with_reducible rfl
          rotate_left
          · simp only [Act.put, List.setIfInBounds_toArray, List.set_cons_zero, List.set_cons_succ, i64_w, i32_w]
            rfl
          refine pure_ (i := 7) (N := (some 97)) (v := ?_) (a' := ?_) #[true, true, true, true, true, true, true, true, false, false, false, false, false, false, false, false, false, false, false, false, false, false, false, false, false, false, false, false, false, false] rfl rfl (by kernel_rfl) (fun _ _ _ h => h) (Or.inl ⟨by rfl, ?_⟩) ?_ ?_
          rotate_left
          · intro w'
            go_simp
            with_reducible rfl
          rotate_left
          · simp only [Act.put, List.setIfInBounds_toArray, List.set_cons_zero, List.set_cons_succ, i64_w, i32_w]
            rfl
          refine pure_ (i := 8) (N := (some 98)) (v := ?_) (a' := ?_) #[true, true, true, true, true, true, true, true, true, false, false, false, false, false, false, false, false, false, false, false, false, false, false, false, false, false, false, false, false, false] rfl rfl (by kernel_rfl) (fun _ _ _ h => h) (Or.inl ⟨by rfl, ?_⟩) ?_ ?_
          rotate_left
          · intro w'
            go_simp
            with_reducible rfl
          rotate_left
          · simp only [Act.put, List.setIfInBounds_toArray, List.set_cons_zero, List.set_cons_succ, i64_w, i32_w]
            rfl
          refine take_ (i := 9) (N := (some 99)) (v := ?_) (a' := ?_) #[true, true, true, true, true, true, true, true, true, true, false, false, false, false, false, false, false, false, false, false, false, false, false, false, false, false, false, false, false, false] rfl rfl (by kernel_rfl) (fun _ _ _ h => h) (Or.inl ⟨by rfl, ?_⟩) hHeld ?_ ?_
          rotate_left
          · rintro w' s0
            go_simp
            with_reducible rfl
          rotate_left
          · simp only [Act.put, List.setIfInBounds_toArray, List.set_cons_zero, List.set_cons_succ, i64_w, i32_w]
            rfl
          refine pure_ (i := 10) (N := (some 100)) (v := ?_) (a' := ?_) #[true, true, true, true, true, true, true, true, true, true, true, false, false, false, false, false, false, false, false, false, false, false, false, false, false, false, false, false, false, false] rfl rfl (by kernel_rfl) (fun _ _ _ h => h) (Or.inl ⟨by rfl, ?_⟩) ?_ ?_
          rotate_left
          · intro w'
            go_simp
            with_reducible rfl
          rotate_left
          · simp only [Act.put, List.setIfInBounds_toArray, List.set_cons_zero, List.set_cons_succ, i64_w, i32_w]
            rfl
          refine pure_ (i := 11) (N := (some 101)) (v := ?_) (a' := ?_) #[true, true, true, true, true, true, true, true, true, true, true, true, false, false, false, false, false, false, false, false, false, false, false, false, false, false, false, false, false, false] rfl rfl (by kernel_rfl) (fun _ _ _ h => h) (Or.inl ⟨by rfl, ?_⟩) ?_ ?_
          rotate_left
          · intro w'
            go_simp
            with_reducible rfl
          rotate_left
          · simp only [Act.put, List.setIfInBounds_toArray, List.set_cons_zero, List.set_cons_succ, i64_w, i32_w]
            rfl
          refine pure_ (i := 12) (N := (some 102)) (v := ?_) (a' := ?_) #[true, true, true, true, true, true, true, true, true, true, true, true, true, false, false, false, false, false, false, false, false, false, false, false, false, false, false, false, false, false] rfl rfl (by kernel_rfl) (fun _ _ _ h => h) (Or.inl ⟨by rfl, ?_⟩) ?_ ?_
          rotate_left
          · intro w'
            go_simp
            with_reducible rfl
          rotate_left
          · simp only [Act.put, List.setIfInBounds_toArray, List.set_cons_zero, List.set_cons_succ, i64_w, i32_w]
            rfl
          refine pure_ (i := 13) (N := (some 103)) (v := ?_) (a' := ?_) #[true, true, true, true, true, true, true, true, true, true, true, true, true, true, false, false, false, false, false, false, false, false, false, false, false, false, false, false, false, false] rfl rfl (by kernel_rfl) (fun _ _ _ h => h) (Or.inl ⟨by rfl, ?_⟩) ?_ ?_
          rotate_left
          · intro w'
            go_simp
            with_reducible rfl
          rotate_left
          · simp only [Act.put, List.setIfInBounds_toArray, List.set_cons_zero, List.set_cons_succ, i64_w, i32_w]
            rfl
          refine pure_ (i := 14) (N := (some 104)) (v := ?_) (a' := ?_) #[true, true, true, true, true, true, true, true, true, true, true, true, true, true, true, false, false, false, false, false, false, false, false, false, false, false, false, false, false, false] rfl rfl (by kernel_rfl) (fun _ _ _ h => h) (Or.inl ⟨by rfl, ?_⟩) ?_ ?_
          rotate_left
          · intro w'
            go_simp
            with_reducible rfl
          rotate_left
          · simp only [Act.put, List.setIfInBounds_toArray, List.set_cons_zero, List.set_cons_succ, i64_w, i32_w]
            rfl
          refine pure_ (i := 15) (N := (some 105)) (v := ?_) (a' := ?_) #[true, true, true, true, true, true, true, true, true, true, true, true, true, true, true, true, false, false, false, false, false, false, false, false, false, false, false, false, false, false] rfl rfl (by kernel_rfl) (fun _ _ _ h => h) (Or.inl ⟨by rfl, ?_⟩) ?_ ?_
          rotate_left
          · intro w'
            go_simp
            with_reducible rfl
          rotate_left
          · simp only [Act.put, List.setIfInBounds_toArray, List.set_cons_zero, List.set_cons_succ, i64_w, i32_w]
            rfl
          refine pure_ (i := 16) (N := (some 106)) (v := ?_) (a' := ?_) #[true, true, true, true, true, true, true, true, true, true, true, true, true, true, true, true, true, false, false, false, false, false, false, false, false, false, false, false, false, false] rfl rfl (by kernel_rfl) (fun _ _ _ h => h) (Or.inl ⟨by rfl, ?_⟩) ?_ ?_
          rotate_left
          · intro w'
            go_simp
            with_reducible rfl
          rotate_left
          · simp only [Act.put, List.setIfInBounds_toArray, List.set_cons_zero, List.set_cons_succ, i64_w, i32_w]
            rfl
          refine pure_ (i := 17) (N := (some 107)) (v := ?_) (a' := ?_) #[true, true, true, true, true, true, true, true, true, true, true, true, true, true, true, true, true, true, false, false, false, false, false, false, false, false, false, false, false, false] rfl rfl (by kernel_rfl) (fun _ _ _ h => h) (Or.inl ⟨by rfl, ?_⟩) ?_ ?_
          rotate_left
          · intro w'
            go_simp
            with_reducible rfl
          rotate_left
          · simp only [Act.put, List.setIfInBounds_toArray, List.set_cons_zero, List.set_cons_succ, i64_w, i32_w]
            rfl
          refine pure_ (i := 18) (N := (some 108)) (v := ?_) (a' := ?_) #[true, true, true, true, true, true, true, true, true, true, true, true, true, true, true, true, true, true, true, false, false, false, false, false, false, false, false, false, false, false] rfl rfl (by kernel_rfl) (fun _ _ _ h => h) (Or.inl ⟨by rfl, ?_⟩) ?_ ?_
          rotate_left
          · intro w'
            go_simp
            with_reducible rfl
          rotate_left
          · simp only [Act.put, List.setIfInBounds_toArray, List.set_cons_zero, List.set_cons_succ, i64_w, i32_w]
            rfl
          refine pure_ (i := 20) (N := (some 110)) (v := ?_) (a' := ?_) #[true, true, true, true, true, true, true, true, true, true, true, true, true, true, true, true, true, true, true, false, true, false, false, false, false, false, false, false, false, false] rfl rfl (by kernel_rfl) (fun _ _ _ h => h) (Or.inl ⟨by rfl, ?_⟩) ?_ ?_
          rotate_left
          · intro w'
            go_simp
            with_reducible rfl
          rotate_left
          · simp only [Act.put, List.setIfInBounds_toArray, List.set_cons_zero, List.set_cons_succ, i64_w, i32_w]
            rfl
          refine pure_ (i := 21) (N := (some 111)) (v := ?_) (a' := ?_) #[true, true, true, true, true, true, true, true, true, true, true, true, true, true, true, true, true, true, true, false, true, true, false, false, false, false, false, false, false, false] rfl rfl (by kernel_rfl) (fun _ _ _ h => h) (Or.inl ⟨by rfl, ?_⟩) ?_ ?_
          rotate_left
          · intro w'
            go_simp
            with_reducible rfl
          rotate_left
          · simp only [Act.put, List.setIfInBounds_toArray, List.set_cons_zero, List.set_cons_succ, i64_w, i32_w]
            rfl
          refine pure_ (i := 22) (N := (some 112)) (v := ?_) (a' := ?_) #[true, true, true, true, true, true, true, true, true, true, true, true, true, true, true, true, true, true, true, false, true, true, true, false, false, false, false, false, false, false] rfl rfl (by kernel_rfl) (fun _ _ _ h => h) (Or.inl ⟨by rfl, ?_⟩) ?_ ?_
          rotate_left
          · intro w'
            go_simp
            with_reducible rfl
          rotate_left
          · simp only [Act.put, List.setIfInBounds_toArray, List.set_cons_zero, List.set_cons_succ, i64_w, i32_w]
            rfl
          refine pure_ (i := 23) (N := (some 113)) (v := ?_) (a' := ?_) #[true, true, true, true, true, true, true, true, true, true, true, true, true, true, true, true, true, true, true, false, true, true, true, true, false, false, false, false, false, false] rfl rfl (by kernel_rfl) (fun _ _ _ h => h) (Or.inl ⟨by rfl, ?_⟩) ?_ ?_
          rotate_left
          · intro w'
            go_simp
            with_reducible rfl
          rotate_left
          · simp only [Act.put, List.setIfInBounds_toArray, List.set_cons_zero, List.set_cons_succ, i64_w, i32_w]
            rfl
          refine one_ (i := 19) (N := (some 109)) #[true, true, true, true, true, true, true, true, true, true, true, true, true, true, true, true, true, true, true, true, true, true, true, true, false, false, false, false, false, false] rfl rfl (by kernel_rfl) (by decide) (fun K hK => ?_)
          refine goes_ Tryd.func18 (by kernel_rfl) rfl #[.slice A7 mk.length c7] (by rfl) rfl rfl (by simp [Act.eval]) ?_
          refine (PA.consulatelaw05_of.calls (mk.length + 1) (fun k => k < wc.drew.heap.size) A7 c7 mk n9 wc.drew (Kd.V_mk hc8 (Kd.C_F PA.k61_heap hC8)) N1.out).mono ?_
          rintro e w10 ⟨v10, rfl, hv10, hb⟩
          obtain ⟨A10, c10, rfl, hc10, hC10⟩ := Kd.N_reads hv10
          have q2 := pw_cell_below hb hHeld
          replace hC1 := Kd.C_below hC1 hb
          replace HB4 := HB4.trans (hb.mono HB4.size)
          refine ⟨_, rfl, ?_⟩
          refine hK.out _ _ (q2) (fun hHeld => ?_)
          clear hK K
          refine norm_ (a' := ?_) ?_ ?_
          rotate_left
          · show Act.put _ (some 109) _ = _
            simp only [Act.put, List.setIfInBounds_toArray, List.set_cons_zero, List.set_cons_succ, i64_w, i32_w]
            rfl
          refine one_ (i := 24) (N := (some 114)) #[true, true, true, true, true, true, true, true, true, true, true, true, true, true, true, true, true, true, true, true, true, true, true, true, true, false, false, false, false, false] rfl rfl (by kernel_rfl) (by decide) (fun K hK => ?_)
          refine goes_ Tryd.func18 (by kernel_rfl) rfl #[.slice A1 mk.length c1] (by rfl) rfl rfl (by simp [Act.eval]) ?_
          refine (PA.consulatelaw05_of.calls (mk.length + 1) (fun k => k < w10.heap.size) A1 c1 mk n9 w10 (Kd.V_mk (Nat.le_trans hle'.out hc1'.out) (Kd.C_F PA.k61_heap hC1)) N1.out).mono ?_
          rintro e w11 ⟨v11, rfl, hv11, hb2⟩
          obtain ⟨A11, c11, rfl, hc11, hC11⟩ := Kd.N_reads hv11
          have q3 := pw_cell_below hb2 hHeld
          replace hC10 := Kd.C_below hC10 hb2
          replace HB4 := HB4.trans (hb2.mono HB4.size)
          refine ⟨_, rfl, ?_⟩
          refine hK.out _ _ (q3) (fun hHeld => ?_)
          clear hK K
          refine norm_ (a' := ?_) ?_ ?_
          rotate_left
          · show Act.put _ (some 114) _ = _
            simp only [Act.put, List.setIfInBounds_toArray, List.set_cons_zero, List.set_cons_succ, i64_w, i32_w]
            rfl
          refine one_ (i := 25) (N := (some 115)) #[true, true, true, true, true, true, true, true, true, true, true, true, true, true, true, true, true, true, true, true, true, true, true, true, true, true, false, false, false, false] rfl rfl (by kernel_rfl) (by decide) (fun K hK => ?_)
          refine goes_ Tryd.func17 (by kernel_rfl) rfl #[.slice A10 n9.length c10, .slice A11 n9.length c11] (by rfl) rfl rfl (by simp [Act.eval]) ?_
          refine (PA.consulatelaw05_same.calls (n9.length + 1) A10 c10 n9 A11 c11 n9 true w11 hC10 hc10 hC11 hc11 N2.out).mono ?_
          rintro e w12 ⟨rfl, hd⟩
          have q4 := pw_cell_below (Drawn0.below hd) hHeld
          replace HB4 := HB4.trans ((Drawn0.below hd).mono HB4.size)
          refine ⟨_, rfl, ?_⟩
          refine hK.out _ _ (q4) (fun hHeld => ?_)
          clear hK K
          refine norm_ (a' := ?_) ?_ ?_
          rotate_left
          · show Act.put _ (some 115) _ = _
            simp only [Act.put, List.setIfInBounds_toArray, List.set_cons_zero, List.set_cons_succ, i64_w, i32_w]
            rfl
          refine pure_ (i := 26) (N := (some 116)) (v := ?_) (a' := ?_) #[true, true, true, true, true, true, true, true, true, true, true, true, true, true, true, true, true, true, true, true, true, true, true, true, true, true, true, false, false, false] rfl rfl (by kernel_rfl) (fun _ _ _ h => h) (Or.inl ⟨by rfl, ?_⟩) ?_ ?_
          rotate_left
          · intro w'
            go_simp
            with_reducible rfl
          rotate_left
          · simp only [Act.put, List.setIfInBounds_toArray, List.set_cons_zero, List.set_cons_succ, i64_w, i32_w]
            rfl
          refine pure_ (i := 27) (N := (some 117)) (v := ?_) (a' := ?_) #[true, true, true, true, true, true, true, true, true, true, true, true, true, true, true, true, true, true, true, true, true, true, true, true, true, true, true, true, false, false] rfl rfl (by kernel_rfl) (fun _ _ _ h => h) (Or.inl ⟨by rfl, ?_⟩) ?_ ?_
          rotate_left
          · intro w'
            go_simp
            with_reducible rfl
          rotate_left
          · simp only [Act.put, List.setIfInBounds_toArray, List.set_cons_zero, List.set_cons_succ, i64_w, i32_w]
            rfl
          refine pure_ (i := 28) (N := (some 118)) (v := ?_) (a' := ?_) #[true, true, true, true, true, true, true, true, true, true, true, true, true, true, true, true, true, true, true, true, true, true, true, true, true, true, true, true, true, false] rfl rfl (by kernel_rfl) (fun _ _ _ h => h) (Or.inl ⟨by rfl, ?_⟩) ?_ ?_
          rotate_left
          · intro w'
            go_simp
            with_reducible rfl
          rotate_left
          · simp only [Act.put, List.setIfInBounds_toArray, List.set_cons_zero, List.set_cons_succ, i64_w, i32_w]
            rfl
          refine pure_ (i := 29) (N := (some 119)) (v := ?_) (a' := ?_) #[true, true, true, true, true, true, true, true, true, true, true, true, true, true, true, true, true, true, true, true, true, true, true, true, true, true, true, true, true, true] rfl rfl (by kernel_rfl) (fun _ _ _ h => h) (Or.inl ⟨by rfl, ?_⟩) ?_ ?_
          rotate_left
          · intro w'
            go_simp
            with_reducible rfl
          rotate_left
          · simp only [Act.put, List.setIfInBounds_toArray, List.set_cons_zero, List.set_cons_succ, i64_w, i32_w]
            rfl
          refine done_ (by kernel_rfl) ?_
          replace HB := HB.trans (HB4.mono HB.size)
          have hCy := Kd.C_below Y3.out HB
          go_wp2_with fail
          refine (capsRead_calls (ys.length + 1) B cb ys y g0 g1 w12 (hG.below HB) hCy (by have := Y7.out; omega) Y4.out Y1.out).mono ?_
          rintro e w20 ⟨v20, rfl, hv20, hb⟩
          replace HB := HB.trans (hb.mono HB.size)
          replace hCy := Kd.C_below hCy hb
          obtain ⟨A20, c20, rfl, hc20, hC20⟩ := Kd.R_reads hv20
          clear hb hv20
          rcases Y2.out with ⟨rfl, rfl, hg1⟩ | ⟨rfl, rfl, hyl2, hyf, hybc, hyp⟩
          · rcases hg1 with rfl | rfl
            · have hF := FB.new w20 2 0
              have hb := below_alloc (Below.refl w20.heap.size w20) (.cells #[.int .u8 2, .int .u8 0] 26)
              replace HB := HB.trans (hb.mono HB.size)
              have q0 := hF.c0
              have q1 := hF.c1
              clear hb hF
              go_wp2_with fail
              refine (wakes_calls _ (hG.below HB)).mono ?_
              rintro e w21 ⟨rfl, hb⟩
              replace HB := HB.trans (hb.mono HB.size)
              clear hb
              go_wp2
              go_ret
              exact ⟨rfl, HB⟩
            · have hF := FB.new w20 2 4
              have hb := below_alloc (Below.refl w20.heap.size w20) (.cells #[.int .u8 2, .int .u8 4] 26)
              replace HB := HB.trans (hb.mono HB.size)
              have q0 := hF.c0
              have q1 := hF.c1
              clear hb hF
              go_wp2_with fail
              refine (wakes_calls _ (hG.below HB)).mono ?_
              rintro e w21 ⟨rfl, hb⟩
              replace HB := HB.trans (hb.mono HB.size)
              clear hb
              go_wp2
              go_ret
              exact ⟨rfl, HB⟩
          · obtain ⟨b2, he, hB2, hcs⟩ : ∃ b2 he, capsBytes y = (b2, he) ∧ ((b2 = [] ∧ he = 3 ∧ 255 < ys.length) ∨ ∃ gs2 : List (List PA.S61), b2 = gs2.flatMap par ∧ he = 0 ∧ gs2.flatten = y ∧ (gs2.flatMap par).length ≤ 255 ∧ (gs2.flatMap par).length ≤ ys.length ∧ ∀ b, b ∈ gs2.flatMap par → 0 ≤ b ∧ b < 256) := by
              rcases bytes_any y hyf hybc with ⟨e1, e2⟩ | ⟨gs2, e1, e2, e3, e4, e5⟩
              · exact ⟨_, _, e1, .inl ⟨rfl, rfl, by omega⟩⟩
              · exact ⟨_, _, e1, .inr ⟨gs2, rfl, rfl, e2, e3, by omega, e5⟩⟩
            have hof := of_of y (by have := Y7.out; omega)
            have hsm := same_of (y.map cap99) (by rw [List.length_map]; have := Y7.out; omega)
            generalize y.map cap99 = y9 at hof hsm
            have S1 := Aside0.mk hof
            have S2 := Aside0.mk hsm
            have S3 := Aside0.mk (fun w A c hC hlc => Bytes_calls w A c y hC hlc (by have := Y7.out; omega))
            rw [hB2] at S3
            have hF := FB.new w20 0 0
            have hb := below_alloc (Below.refl w20.heap.size w20) (.cells #[.int .u8 0, .int .u8 0] 26)
            replace HB := HB.trans (hb.mono HB.size)
            replace hC20 := Kd.C_below hC20 hb
            have q0 := hF.c0
            have q1 := hF.c1
            clear hb hF hB2 hof hsm hyf hybc hyp hyl2
            go_wp2_with fail
            refine (S3.out _ A20 c20 hC20 hc20).mono ?_
            rintro e w21 ⟨v21, rfl, hv21, hb⟩
            replace HB := HB.trans (hb.mono HB.size)
            replace hC20 := Kd.C_below hC20 hb
            obtain ⟨A21, c21, rfl, hc21, hC21⟩ := Kd.R_reads hv21
            clear hb hv21 q0 q1
            rcases hcs with ⟨rfl, rfl, hlong⟩ | ⟨gs2, rfl, rfl, hgy, hg255, hgle, hgb2⟩
            · have d1 : decide ((ys.length : Int) > 255) = true := decide_eq_true (by omega)
              have d2 : decide (255 < (ys.length : Int)) = true := decide_eq_true (by omega)
              have d3 : decide (255 < ys.length) = true := decide_eq_true hlong
              clear hlong
              go_wp2_with fail
              refine (wakes_calls _ (hG.below HB)).mono ?_
              rintro e w22 ⟨rfl, hb⟩
              replace HB := HB.trans (hb.mono HB.size)
              clear hb
              go_wp2
              go_ret
              exact ⟨rfl, HB⟩
            · have hrf := read_form gs2 hgb2 hg255
              rw [hgy] at hrf
              have T1 := Aside0.mk hgb2
              generalize gs2.flatMap par = bs2 at *
              have T2 := Aside0.mk hrf
              have T3 := Aside0.mk hg255
              have d1 : decide ((bs2.length : Int) ≤ ys.length) = true := decide_eq_true (by omega)
              have d2 : decide (bs2.length ≤ ys.length) = true := decide_eq_true hgle
              clear hrf hgle hg255 hgb2 hgy
              go_wp2_with fail
              refine (capsRead_calls (bs2.length + 1) A21 c21 bs2 y 0 0 w21 (hG.below HB) hC21 (by have := T3.out; omega) T1.out T2.out).mono ?_
              rintro e w22 ⟨v22, rfl, hv22, hb⟩
              replace HB := HB.trans (hb.mono HB.size)
              replace hC20 := Kd.C_below hC20 hb
              replace hC21 := Kd.C_below hC21 hb
              obtain ⟨A22, c22, rfl, hc22, hC22⟩ := Kd.R_reads hv22
              clear hb hv22
              have hF := FB.new w22 0 0
              have hb := below_alloc (Below.refl w22.heap.size w22) (.cells #[.int .u8 0, .int .u8 0] 26)
              replace HB := HB.trans (hb.mono HB.size)
              replace hC20 := Kd.C_below hC20 hb
              replace hC22 := Kd.C_below hC22 hb
              have q0 := hF.c0
              have q1 := hF.c1
              clear hb hF hC21
              go_wp2_with fail
              refine (PA.consulatelaw05_of.calls (y.length + 1) (fun k => k < (w22.alloc (.cells #[.int .u8 0, .int .u8 0] 26)).heap.size) A22 c22 y y9 _ (Kd.V_mk hc22 (Kd.C_F PA.k61_heap hC22)) S1.out).mono ?_
              rintro e w23 ⟨v23, rfl, hv23, hb⟩
              replace HB := HB.trans (hb.mono HB.size)
              replace hC20 := Kd.C_below hC20 hb
              obtain ⟨A23, c23, rfl, hc23, hC23⟩ := Kd.N_reads hv23
              clear hb hv23 hC22 q0 q1
              go_wp2_with fail
              refine (PA.consulatelaw05_of.calls (y.length + 1) (fun k => k < w23.heap.size) A20 c20 y y9 w23 (Kd.V_mk hc20 (Kd.C_F PA.k61_heap hC20)) S1.out).mono ?_
              rintro e w24 ⟨v24, rfl, hv24, hb⟩
              replace HB := HB.trans (hb.mono HB.size)
              replace hC23 := Kd.C_below hC23 hb
              obtain ⟨A24, c24, rfl, hc24, hC24⟩ := Kd.N_reads hv24
              clear hb hv24 hC20
              go_wp2_with fail
              refine (PA.consulatelaw05_same.calls (y9.length + 1) A23 c23 y9 A24 c24 y9 true w24 hC23 hc23 hC24 hc24 S2.out).mono ?_
              rintro e w25 ⟨rfl, hd⟩
              have hb := Drawn0.below hd
              replace HB := HB.trans (hb.mono HB.size)
              clear hb hd hC23 hC24
              go_wp2_with fail
              refine (wakes_calls _ (hG.below HB)).mono ?_
              rintro e w26 ⟨rfl, hb⟩
              replace HB := HB.trans (hb.mono HB.size)
              clear hb
              go_wp2
              go_ret
              exact ⟨rfl, HB⟩
        · have e6 : (((cutW gs k : Nat) : Int) == k) = false := beq_false_of_ne (by omega)
          have q0 := hF.c0
          clear hle hL1 hc
          go_upto_region 15 with fail
          go_quiet (fail)
          replace HB3 := pw_below_drewN HB3 nq
          generalize wc.drewN nq = w9 at *
          replace HB := HB.trans (HB3.mono HB.size)
          have hCy := Kd.C_below Y3.out HB
          go_wp2_with fail
          refine (capsRead_calls (ys.length + 1) B cb ys y g0 g1 w9 (hG.below HB) hCy (by have := Y7.out; omega) Y4.out Y1.out).mono ?_
          rintro e w20 ⟨v20, rfl, hv20, hb⟩
          replace HB := HB.trans (hb.mono HB.size)
          replace hCy := Kd.C_below hCy hb
          obtain ⟨A20, c20, rfl, hc20, hC20⟩ := Kd.R_reads hv20
          clear hb hv20
          rcases Y2.out with ⟨rfl, rfl, hg1⟩ | ⟨rfl, rfl, hyl2, hyf, hybc, hyp⟩
          · rcases hg1 with rfl | rfl
            · have hF := FB.new w20 2 0
              have hb := below_alloc (Below.refl w20.heap.size w20) (.cells #[.int .u8 2, .int .u8 0] 26)
              replace HB := HB.trans (hb.mono HB.size)
              have q0 := hF.c0
              have q1 := hF.c1
              clear hb hF
              go_wp2_with fail
              refine (wakes_calls _ (hG.below HB)).mono ?_
              rintro e w21 ⟨rfl, hb⟩
              replace HB := HB.trans (hb.mono HB.size)
              clear hb
              go_wp2
              go_ret
              exact ⟨rfl, HB⟩
            · have hF := FB.new w20 2 4
              have hb := below_alloc (Below.refl w20.heap.size w20) (.cells #[.int .u8 2, .int .u8 4] 26)
              replace HB := HB.trans (hb.mono HB.size)
              have q0 := hF.c0
              have q1 := hF.c1
              clear hb hF
              go_wp2_with fail
              refine (wakes_calls _ (hG.below HB)).mono ?_
              rintro e w21 ⟨rfl, hb⟩
              replace HB := HB.trans (hb.mono HB.size)
              clear hb
              go_wp2
              go_ret
              exact ⟨rfl, HB⟩
          · obtain ⟨b2, he, hB2, hcs⟩ : ∃ b2 he, capsBytes y = (b2, he) ∧ ((b2 = [] ∧ he = 3 ∧ 255 < ys.length) ∨ ∃ gs2 : List (List PA.S61), b2 = gs2.flatMap par ∧ he = 0 ∧ gs2.flatten = y ∧ (gs2.flatMap par).length ≤ 255 ∧ (gs2.flatMap par).length ≤ ys.length ∧ ∀ b, b ∈ gs2.flatMap par → 0 ≤ b ∧ b < 256) := by
              rcases bytes_any y hyf hybc with ⟨e1, e2⟩ | ⟨gs2, e1, e2, e3, e4, e5⟩
              · exact ⟨_, _, e1, .inl ⟨rfl, rfl, by omega⟩⟩
              · exact ⟨_, _, e1, .inr ⟨gs2, rfl, rfl, e2, e3, by omega, e5⟩⟩
            have hof := of_of y (by have := Y7.out; omega)
            have hsm := same_of (y.map cap99) (by rw [List.length_map]; have := Y7.out; omega)
            generalize y.map cap99 = y9 at hof hsm
            have S1 := Aside0.mk hof
            have S2 := Aside0.mk hsm
            have S3 := Aside0.mk (fun w A c hC hlc => Bytes_calls w A c y hC hlc (by have := Y7.out; omega))
            rw [hB2] at S3
            have hF := FB.new w20 0 0
            have hb := below_alloc (Below.refl w20.heap.size w20) (.cells #[.int .u8 0, .int .u8 0] 26)
            replace HB := HB.trans (hb.mono HB.size)
            replace hC20 := Kd.C_below hC20 hb
            have q0 := hF.c0
            have q1 := hF.c1
            clear hb hF hB2 hof hsm hyf hybc hyp hyl2
            go_wp2_with fail
            refine (S3.out _ A20 c20 hC20 hc20).mono ?_
            rintro e w21 ⟨v21, rfl, hv21, hb⟩
            replace HB := HB.trans (hb.mono HB.size)
            replace hC20 := Kd.C_below hC20 hb
            obtain ⟨A21, c21, rfl, hc21, hC21⟩ := Kd.R_reads hv21
            clear hb hv21 q0 q1
            rcases hcs with ⟨rfl, rfl, hlong⟩ | ⟨gs2, rfl, rfl, hgy, hg255, hgle, hgb2⟩
            · have d1 : decide ((ys.length : Int) > 255) = true := decide_eq_true (by omega)
              have d2 : decide (255 < (ys.length : Int)) = true := decide_eq_true (by omega)
              have d3 : decide (255 < ys.length) = true := decide_eq_true hlong
              clear hlong
              go_wp2_with fail
              refine (wakes_calls _ (hG.below HB)).mono ?_
              rintro e w22 ⟨rfl, hb⟩
              replace HB := HB.trans (hb.mono HB.size)
              clear hb
              go_wp2
              go_ret
              exact ⟨rfl, HB⟩
            · have hrf := read_form gs2 hgb2 hg255
              rw [hgy] at hrf
              have T1 := Aside0.mk hgb2
              generalize gs2.flatMap par = bs2 at *
              have T2 := Aside0.mk hrf
              have T3 := Aside0.mk hg255
              have d1 : decide ((bs2.length : Int) ≤ ys.length) = true := decide_eq_true (by omega)
              have d2 : decide (bs2.length ≤ ys.length) = true := decide_eq_true hgle
              clear hrf hgle hg255 hgb2 hgy
              go_wp2_with fail
              refine (capsRead_calls (bs2.length + 1) A21 c21 bs2 y 0 0 w21 (hG.below HB) hC21 (by have := T3.out; omega) T1.out T2.out).mono ?_
              rintro e w22 ⟨v22, rfl, hv22, hb⟩
              replace HB := HB.trans (hb.mono HB.size)
              replace hC20 := Kd.C_below hC20 hb
              replace hC21 := Kd.C_below hC21 hb
              obtain ⟨A22, c22, rfl, hc22, hC22⟩ := Kd.R_reads hv22
              clear hb hv22
              have hF := FB.new w22 0 0
              have hb := below_alloc (Below.refl w22.heap.size w22) (.cells #[.int .u8 0, .int .u8 0] 26)
              replace HB := HB.trans (hb.mono HB.size)
              replace hC20 := Kd.C_below hC20 hb
              replace hC22 := Kd.C_below hC22 hb
              have q0 := hF.c0
              have q1 := hF.c1
              clear hb hF hC21
              go_wp2_with fail
              refine (PA.consulatelaw05_of.calls (y.length + 1) (fun k => k < (w22.alloc (.cells #[.int .u8 0, .int .u8 0] 26)).heap.size) A22 c22 y y9 _ (Kd.V_mk hc22 (Kd.C_F PA.k61_heap hC22)) S1.out).mono ?_
              rintro e w23 ⟨v23, rfl, hv23, hb⟩
              replace HB := HB.trans (hb.mono HB.size)
              replace hC20 := Kd.C_below hC20 hb
              obtain ⟨A23, c23, rfl, hc23, hC23⟩ := Kd.N_reads hv23
              clear hb hv23 hC22 q0 q1
              go_wp2_with fail
              refine (PA.consulatelaw05_of.calls (y.length + 1) (fun k => k < w23.heap.size) A20 c20 y y9 w23 (Kd.V_mk hc20 (Kd.C_F PA.k61_heap hC20)) S1.out).mono ?_
              rintro e w24 ⟨v24, rfl, hv24, hb⟩
              replace HB := HB.trans (hb.mono HB.size)
              replace hC23 := Kd.C_below hC23 hb
              obtain ⟨A24, c24, rfl, hc24, hC24⟩ := Kd.N_reads hv24
              clear hb hv24 hC20
              go_wp2_with fail
              refine (PA.consulatelaw05_same.calls (y9.length + 1) A23 c23 y9 A24 c24 y9 true w24 hC23 hc23 hC24 hc24 S2.out).mono ?_
              rintro e w25 ⟨rfl, hd⟩
              have hb := Drawn0.below hd
              replace HB := HB.trans (hb.mono HB.size)
              clear hb hd hC23 hC24
              go_wp2_with fail
              refine (wakes_calls _ (hG.below HB)).mono ?_
              rintro e w26 ⟨rfl, hb⟩
              replace HB := HB.trans (hb.mono HB.size)
              clear hb
              go_wp2
              go_ret
              exact ⟨rfl, HB⟩
end Go.Proofs.YthafedmlbialiaaDoor
