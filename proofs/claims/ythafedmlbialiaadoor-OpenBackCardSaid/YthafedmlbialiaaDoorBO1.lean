/-
  The walk of the law OpenBack.
-/
import Derived.Test.YthafedmlbialiaaDoorBO0
namespace Go.Proofs.YthafedmlbialiaaDoor
open Go.RowKit Go.Proofs.YthafedmlbialiaaDoorW.PrintWords Go.Proofs.YthafedmlbialiaaDoorW.PrintLast Go.Proofs.YthafedmlbialiaaDoorW.PrintMore
set_option linter.unusedVariables false
set_option linter.unusedSimpArgs false

/-- Get's contract, with its parts. -/
theorem get_calls (w : World) (hG : GlobC w) (hO : GlobO w) (A : Option Addr) (c : Nat) (xs : List Int) (hC : (Kd.int .u8).C w A xs.length xs) (hl : xs.length ≤ 140737488351232) (hb : ∀ x, x ∈ xs → 0 ≤ x ∧ x < 256)
    (ver an hold id : Int) (l : List PA.S61) (f0 f1 : Int) (d : List Int) (ho : oGet xs = (⟨ver, an, hold, id, l⟩, f0, f1, d)) :
    Calls Tryd.prog 21 #[.slice A xs.length c] w fun e w' => ∃ A1 c1 A2 c2, e = .returned (.tuple #[.agg #[.int .u8 ver, .int .u16 an, .int .u16 hold, .int .u32 id, .slice A1 l.length c1], .agg #[.int .u8 f0, .int .u8 f1], .slice A2 d.length c2]) ∧
      PA.k61.C w' A1 l.length l ∧ l.length ≤ c1 ∧ (Kd.int .u8).C w' A2 d.length d ∧ d.length ≤ c2 ∧ Below w.heap.size w w' := oGet_calls w hG hO A c xs hC hl hb _ _ _ _ ho

set_option maxHeartbeats 40000000 in
set_option maxRecDepth 100000 in
theorem OpenBack_walk (w : World) (hG : GlobC w) (hU : GlobU w) (hO : GlobO w) (ver an hold id : Int) (A : Option Addr) (c : Nat) (l : List PA.S61) (hC : PA.k61.C w A l.length l) (hc : l.length ≤ c) (hwf : ByteCaps l)
    (ha : 0 ≤ an ∧ an < 65536) (hh : 0 ≤ hold ∧ hold < 65536) (hi : 0 ≤ id ∧ id < 4294967296)
    (B : Option Addr) (cb : Nat) (xs : List Int) (hCb : (Kd.int .u8).C w B xs.length xs) (hcb : xs.length ≤ cb) (hlb : xs.length ≤ 140737488351232) (hbb : ∀ b, b ∈ xs → 0 ≤ b ∧ b < 256) (ct : Int) (h0 : 0 ≤ ct) (h1 : ct < 256) :
    Calls Tryd.prog 12 #[.agg #[.int .u8 ver, .int .u16 an, .int .u16 hold, .int .u32 id, .slice A l.length c], .slice B xs.length cb, .int .u8 ct] w fun e w' => e = .returned (.bool true) ∧ Below w.heap.size w w' := by
  have hfw := few6_of l ver an hold id
  have hm := few6_bytes hwf
  have hl12 := few6_len l
  have HFew := Aside0.mk hfw
  generalize few6 l = m at *
  obtain ⟨mi, hmi⟩ : ∃ mi : Int, (xs.length ≤ 300 ∧ mi = xs.length) ∨ (300 < xs.length ∧ mi = 300) := by
    by_cases h : xs.length ≤ 300
    · exact ⟨_, .inl ⟨h, rfl⟩⟩
    · exact ⟨_, .inr ⟨by omega, rfl⟩⟩
  obtain ⟨hcut, hCy, hyc, hyl⟩ := cutN 300 w B cb xs hCb hcb mi hmi
  have hif : (if 300 < (xs.length : Int) then (300 : Int) else xs.length) = mi := by
    rcases hmi with ⟨hm1, rfl⟩ | ⟨hm1, rfl⟩
    · exact if_neg (by omega)
    · exact if_pos (by omega)
  have hyb : ∀ b, b ∈ xs.take 300 → 0 ≤ b ∧ b < 256 := fun b hb => hbb b (List.mem_of_mem_take hb)
  generalize xs.take 300 = ys at *
  have Y3 := Aside0.mk hCy
  have Y4 := Aside0.mk hyb
  have Y7 := Aside0.mk hyl
  have hga := get_any ys hyb hyl
  have YA := Aside0.mk hga
  have Q1 := Aside0.mk (fun w A c hC hc => oPut_calls w A c m hC hc (by omega) 4 an hold id ha hh hi (caps_le m))
  have hpb := put_back m hm an hold id ha hh hi
  have P1 := Aside0.mk (of6 m (by omega) 4 an hold id (by decide) ha hh)
  have P2 := Aside0.mk (like6 (m.map cap99) (by rw [List.length_map]; omega) 4 an hold id)
  have ml9 : (m.map cap99).length = m.length := List.length_map ..
  generalize m.map cap99 = m9 at *
  have ML9 := Aside0.mk ml9
  have ML12 := Aside0.mk hl12
  have hct : IntKind.i64.wrap ct = ct := by rw [i64_w, w64 (by omega) (by omega)]
  have CT := Aside0.mk (And.intro h0 h1)
  clear hfw hm hl12 hmi hCy hyb hyl hga hCb hcb hlb hbb hwf ml9 ha hh hi
  have HB := below_alloc (Below.refl w.heap.size w) (.cells #[.int .u8 ver, .int .u16 an, .int .u16 hold, .int .u32 id, .slice A l.length c] 41)
  have hM := blk_new w (.cells #[.int .u8 ver, .int .u16 an, .int .u16 hold, .int .u32 id, .slice A l.length c] 41)
  rcases hpb with ⟨be, hbe, hbo⟩ | ⟨a, hbe, ha10, hal, ha265, hab, hga, hga0, hgak⟩
  · rw [hbe] at Q1
    simp only at Q1
    clear hbe
    have n0 : (be == 0) = false := by rcases hbo with rfl | rfl <;> rfl
    have n1 : (be != 1 && be != 3) = false := by rcases hbo with rfl | rfl <;> rfl
    rcases hbo with rfl | rfl
    all_goals
      go_enter Tryd.func12, Tryd.ntmps12
      go_upto_region 1 with fail
      generalize w.alloc (.cells #[.int .u8 ver, .int .u16 an, .int .u16 hold, .int .u32 id, .slice A l.length c] 41) = w1 at *
      have hlt1 := blk_lt hM
      have hFd : Kd.F PA.k61 w1 (fun k => k < w.heap.size) A l.length l := fun W hW => PA.k61_heap.C (fun k hlt => (hW k hlt (by omega)).trans (HB.block k hlt)) hC
      have x0 := blk_cell hM 0
      have x1 := blk_cell hM 1
      have x2 := blk_cell hM 2
      have x3 := blk_cell hM 3
      have x4 := blk_cell hM 4
      simp at x0 x1 x2 x3 x4
      go_wp2_with fail
      refine (PA.consulatelaw06_Few.calls 13 ver an hold id (fun k => k < w.heap.size) A c l ver an hold id m w1 (Kd.V_mk hc hFd) HFew.out).mono ?_
      rintro e w2 ⟨v2, rfl, hv2, hb⟩
      replace HB := HB.trans (hb.mono HB.size)
      replace hM := blk_below hM hb
      obtain ⟨A1, c1, rfl, hc1, _⟩ := Kd.N_reads hv2
      clear hb x0 x1 x2 x3 x4 hFd
      have x0 := blk_cell hM 0
      have x1 := blk_cell hM 1
      have x2 := blk_cell hM 2
      have x3 := blk_cell hM 3
      have x4 := blk_cell hM 4
      simp at x0 x1 x2 x3 x4
      have z0 := blk_frozen hM 0
      have z1 := blk_frozen hM 1
      have z2 := blk_frozen hM 2
      have z3 := blk_frozen hM 3
      have z4 := blk_frozen hM 4
      have okne : ∀ k, (k < w.heap.size ∨ w1.heap.size ≤ k) → k ≠ w.heap.size := fun k hk => by omega
      go_upto_region 3 with fail
      replace hv2 := Kd.N_far (Kd.N_far (Kd.N_far (Kd.N_far (Kd.N_far (Kd.N_far hv2 (p := ⟨w.heap.size, 0, none⟩) okne (.int .u8 ver)) (p := ⟨w.heap.size, 1, none⟩) okne (.int .u16 an)) (p := ⟨w.heap.size, 2, none⟩) okne (.int .u16 hold)) (p := ⟨w.heap.size, 3, none⟩) okne (.int .u32 id)) (p := ⟨w.heap.size, 4, none⟩) okne (.slice A1 m.length c1)) (p := ⟨w.heap.size, 0, none⟩) okne (.int .u8 4)
      obtain ⟨m1, m3⟩ := put45 (.int .u8 ver) (.int .u16 an) (.int .u16 hold) (.int .u32 id) (.slice A1 m.length c1) hM HB (Nat.le_refl _)
      replace m1 := blk_put m1 0 (.int .u8 4) rfl
      replace m3 := m3.setCell (p := ⟨w.heap.size, 0, none⟩) (Nat.le_refl _) (.int .u8 4)
      clear x0 x1 x2 x3 x4 z0 z1 z2 z3 z4 hM HB okne
      generalize (((((w2.setCell ⟨w.heap.size, 0, none⟩ (.int .u8 ver)).setCell ⟨w.heap.size, 1, none⟩ (.int .u16 an)).setCell ⟨w.heap.size, 2, none⟩ (.int .u16 hold)).setCell ⟨w.heap.size, 3, none⟩ (.int .u32 id)).setCell ⟨w.heap.size, 4, none⟩ (.slice A1 m.length c1)).setCell ⟨w.heap.size, 0, none⟩ (.int .u8 4) = w3 at *
      have hM := m1
      have HB := m3
      obtain ⟨A1', c1', e1, hc1', hC1⟩ := Kd.N_reads hv2
      injection e1 with q1 q2 q3
      subst q1 q3
      clear m1 m3 q2 hv2 hc1'
      have x0 := blk_cell hM 0
      have x1 := blk_cell hM 1
      have x2 := blk_cell hM 2
      have x3 := blk_cell hM 3
      have x4 := blk_cell hM 4
      simp at x0 x1 x2 x3 x4
      go_wp2_with fail
      refine (Q1.out w3 A1 c1 hC1 hc1).mono ?_
      rintro e w4 ⟨v4, rfl, hv4, hb⟩
      replace HB := HB.trans (hb.mono HB.size)
      clear x0 x1 x2 x3 x4
      replace hM := blk_below hM hb
      replace hC1 := Kd.C_below hC1 hb
      obtain ⟨A4, c4, rfl, hc4, hC4⟩ := Kd.R_reads hv4
      clear hv4 hb
      clear hC1 hC4 hM
      have hCy := Kd.C_below Y3.out HB
      obtain ⟨⟨ver', an', hold', id', q⟩, f0, f1, dq, hgo, hq⟩ := YA.out
      have HGO := Aside0.mk hgo
      rcases hq with ⟨rfl, hoz, hf1⟩ | ⟨rfl, rfl, rfl, hv4, ha', hh', hi', hql, b2, hb2, hb2l, hb2b, hgb2⟩
      · injection hoz with z1 z2 z3 z4 z5
        subst z1 z2 z3 z4 z5
        clear hgo
        rcases hf1 with rfl | rfl | rfl
        · go_wp2_with fail
          refine (get_calls _ (hG.below HB) (hO.below HB) B cb ys hCy (by have := Y7.out; omega) Y4.out _ _ _ _ _ _ _ _ HGO.out).mono ?_
          rintro e w20 ⟨A20, c20, D20, d20, rfl, hC20, hc20, hD20, hd20, hb⟩
          replace HB := HB.trans (hb.mono HB.size)
          clear hb hD20 hd20
          have hM20 := blk_new w20 (.cells #[.int .u8 0, .int .u16 0, .int .u16 0, .int .u32 0, .slice A20 0 c20] 41)
          have hb := below_alloc (Below.refl w20.heap.size w20) (.cells #[.int .u8 0, .int .u16 0, .int .u16 0, .int .u32 0, .slice A20 0 c20] 41)
          obtain ⟨wa, hwa⟩ : ∃ wa, w20.alloc (.cells #[.int .u8 0, .int .u16 0, .int .u16 0, .int .u32 0, .slice A20 0 c20] 41) = wa := ⟨_, rfl⟩
          have sa : wa.heap.size = w20.heap.size + 1 := by rw [← hwa]; simp
          rw [hwa] at hb hM20
          have hF20 := FB.new wa 2 0
          have hb2 := below_alloc (Below.refl wa.heap.size wa) (.cells #[.int .u8 2, .int .u8 0] 26)
          replace hM20 := blk_below hM20 hb2
          replace hb := hb.trans (hb2.mono hb.size)
          rw [sa] at hF20
          subst hwa
          replace HB := HB.trans (hb.mono HB.size)
          replace hC20 := Kd.C_below hC20 hb
          clear hb hb2 sa
          go_upto_region 16 with fail
          generalize (w20.alloc (.cells #[.int .u8 0, .int .u16 0, .int .u16 0, .int .u32 0, .slice A20 0 c20] 41)).alloc (.cells #[.int .u8 2, .int .u8 0] 26) = w20b at *
          have x0 := blk_cell hM20 0
          have x1 := blk_cell hM20 1
          have x2 := blk_cell hM20 2
          have x3 := blk_cell hM20 3
          have x4 := blk_cell hM20 4
          simp at x0 x1 x2 x3 x4
          have u0 := hF20.c0
          have u1 := hF20.c1
          go_wp2_with fail
          refine (tells_calls _ (hG.below HB) (hU.below HB) (hO.below HB)).mono ?_
          rintro e w30 ⟨rfl, hb⟩
          replace HB := HB.trans (hb.mono HB.size)
          go_wp2
          go_ret
          exact ⟨rfl, HB⟩
        · go_wp2_with fail
          refine (get_calls _ (hG.below HB) (hO.below HB) B cb ys hCy (by have := Y7.out; omega) Y4.out _ _ _ _ _ _ _ _ HGO.out).mono ?_
          rintro e w20 ⟨A20, c20, D20, d20, rfl, hC20, hc20, hD20, hd20, hb⟩
          replace HB := HB.trans (hb.mono HB.size)
          clear hb hD20 hd20
          have hM20 := blk_new w20 (.cells #[.int .u8 0, .int .u16 0, .int .u16 0, .int .u32 0, .slice A20 0 c20] 41)
          have hb := below_alloc (Below.refl w20.heap.size w20) (.cells #[.int .u8 0, .int .u16 0, .int .u16 0, .int .u32 0, .slice A20 0 c20] 41)
          obtain ⟨wa, hwa⟩ : ∃ wa, w20.alloc (.cells #[.int .u8 0, .int .u16 0, .int .u16 0, .int .u32 0, .slice A20 0 c20] 41) = wa := ⟨_, rfl⟩
          have sa : wa.heap.size = w20.heap.size + 1 := by rw [← hwa]; simp
          rw [hwa] at hb hM20
          have hF20 := FB.new wa 2 1
          have hb2 := below_alloc (Below.refl wa.heap.size wa) (.cells #[.int .u8 2, .int .u8 1] 26)
          replace hM20 := blk_below hM20 hb2
          replace hb := hb.trans (hb2.mono hb.size)
          rw [sa] at hF20
          subst hwa
          replace HB := HB.trans (hb.mono HB.size)
          replace hC20 := Kd.C_below hC20 hb
          clear hb hb2 sa
          go_upto_region 16 with fail
          generalize (w20.alloc (.cells #[.int .u8 0, .int .u16 0, .int .u16 0, .int .u32 0, .slice A20 0 c20] 41)).alloc (.cells #[.int .u8 2, .int .u8 1] 26) = w20b at *
          have x0 := blk_cell hM20 0
          have x1 := blk_cell hM20 1
          have x2 := blk_cell hM20 2
          have x3 := blk_cell hM20 3
          have x4 := blk_cell hM20 4
          simp at x0 x1 x2 x3 x4
          have u0 := hF20.c0
          have u1 := hF20.c1
          go_wp2_with fail
          refine (tells_calls _ (hG.below HB) (hU.below HB) (hO.below HB)).mono ?_
          rintro e w30 ⟨rfl, hb⟩
          replace HB := HB.trans (hb.mono HB.size)
          go_wp2
          go_ret
          exact ⟨rfl, HB⟩
        · go_wp2_with fail
          refine (get_calls _ (hG.below HB) (hO.below HB) B cb ys hCy (by have := Y7.out; omega) Y4.out _ _ _ _ _ _ _ _ HGO.out).mono ?_
          rintro e w20 ⟨A20, c20, D20, d20, rfl, hC20, hc20, hD20, hd20, hb⟩
          replace HB := HB.trans (hb.mono HB.size)
          clear hb hD20 hd20
          have hM20 := blk_new w20 (.cells #[.int .u8 0, .int .u16 0, .int .u16 0, .int .u32 0, .slice A20 0 c20] 41)
          have hb := below_alloc (Below.refl w20.heap.size w20) (.cells #[.int .u8 0, .int .u16 0, .int .u16 0, .int .u32 0, .slice A20 0 c20] 41)
          obtain ⟨wa, hwa⟩ : ∃ wa, w20.alloc (.cells #[.int .u8 0, .int .u16 0, .int .u16 0, .int .u32 0, .slice A20 0 c20] 41) = wa := ⟨_, rfl⟩
          have sa : wa.heap.size = w20.heap.size + 1 := by rw [← hwa]; simp
          rw [hwa] at hb hM20
          have hF20 := FB.new wa 2 4
          have hb2 := below_alloc (Below.refl wa.heap.size wa) (.cells #[.int .u8 2, .int .u8 4] 26)
          replace hM20 := blk_below hM20 hb2
          replace hb := hb.trans (hb2.mono hb.size)
          rw [sa] at hF20
          subst hwa
          replace HB := HB.trans (hb.mono HB.size)
          replace hC20 := Kd.C_below hC20 hb
          clear hb hb2 sa
          go_upto_region 16 with fail
          generalize (w20.alloc (.cells #[.int .u8 0, .int .u16 0, .int .u16 0, .int .u32 0, .slice A20 0 c20] 41)).alloc (.cells #[.int .u8 2, .int .u8 4] 26) = w20b at *
          have x0 := blk_cell hM20 0
          have x1 := blk_cell hM20 1
          have x2 := blk_cell hM20 2
          have x3 := blk_cell hM20 3
          have x4 := blk_cell hM20 4
          simp at x0 x1 x2 x3 x4
          have u0 := hF20.c0
          have u1 := hF20.c1
          go_wp2_with fail
          refine (tells_calls _ (hG.below HB) (hU.below HB) (hO.below HB)).mono ?_
          rintro e w30 ⟨rfl, hb⟩
          replace HB := HB.trans (hb.mono HB.size)
          go_wp2
          go_ret
          exact ⟨rfl, HB⟩
      · obtain rfl : ver' = 4 := hv4
        simp only at ha' hh' hi' hql hb2 hgb2
        have S1 := Aside0.mk (fun w A c hC hc => oPut_calls w A c q hC hc (by omega) 4 an' hold' id' ha' hh' hi' (caps_le q))
        rw [hb2] at S1
        simp only at S1
        have S2 := Aside0.mk (of6 q (by omega) 4 an' hold' id' (by decide) ha' hh')
        have S3 := Aside0.mk (like6 (q.map cap99) (by rw [List.length_map]; omega) 4 an' hold' id')
        have ql9 : (q.map cap99).length = q.length := List.length_map ..
        generalize q.map cap99 = q9 at *
        have S4 := Aside0.mk hgb2
        have S5 := Aside0.mk hb2b
        have S6 := Aside0.mk hb2l
        have S7 := Aside0.mk ql9
        have S8 := Aside0.mk hql
        have d1 : decide ((b2.length : Int) ≤ ys.length) = true := decide_eq_true (by omega)
        have d2 : decide (b2.length ≤ ys.length) = true := decide_eq_true hb2l
        clear hgo hb2 hgb2 hb2b hb2l ql9 hql ha' hh' hi'
        go_wp2_with fail
        refine (get_calls _ (hG.below HB) (hO.below HB) B cb ys hCy (by have := Y7.out; omega) Y4.out _ _ _ _ _ _ _ _ HGO.out).mono ?_
        rintro e w20 ⟨A20, c20, D20, d20, rfl, hC20, hc20, hD20, hd20, hb⟩
        replace HB := HB.trans (hb.mono HB.size)
        clear hb hD20 hd20
        have hM20 := blk_new w20 (.cells #[.int .u8 4, .int .u16 an', .int .u16 hold', .int .u32 id', .slice A20 q.length c20] 41)
        have hb := below_alloc (Below.refl w20.heap.size w20) (.cells #[.int .u8 4, .int .u16 an', .int .u16 hold', .int .u32 id', .slice A20 q.length c20] 41)
        obtain ⟨wa, hwa⟩ : ∃ wa, w20.alloc (.cells #[.int .u8 4, .int .u16 an', .int .u16 hold', .int .u32 id', .slice A20 q.length c20] 41) = wa := ⟨_, rfl⟩
        have sa : wa.heap.size = w20.heap.size + 1 := by rw [← hwa]; simp
        rw [hwa] at hb hM20
        have hF20 := FB.new wa 0 0
        have hb2 := below_alloc (Below.refl wa.heap.size wa) (.cells #[.int .u8 0, .int .u8 0] 26)
        replace hM20 := blk_below hM20 hb2
        replace hb := hb.trans (hb2.mono hb.size)
        rw [sa] at hF20
        subst hwa
        replace HB := HB.trans (hb.mono HB.size)
        replace hC20 := Kd.C_below hC20 hb
        clear hb hb2 sa
        go_upto_region 16 with fail
        generalize (w20.alloc (.cells #[.int .u8 4, .int .u16 an', .int .u16 hold', .int .u32 id', .slice A20 q.length c20] 41)).alloc (.cells #[.int .u8 0, .int .u8 0] 26) = w20b at *
        have x0 := blk_cell hM20 0
        have x1 := blk_cell hM20 1
        have x2 := blk_cell hM20 2
        have x3 := blk_cell hM20 3
        have x4 := blk_cell hM20 4
        simp at x0 x1 x2 x3 x4
        have u0 := hF20.c0
        have u1 := hF20.c1
        go_wp2_with fail
        refine (S1.out _ A20 c20 hC20 hc20).mono ?_
        rintro e w21 ⟨v21, rfl, hv21, hb⟩
        replace HB := HB.trans (hb.mono HB.size)
        clear u0 u1
        clear x0 x1 x2 x3 x4
        replace hC20 := Kd.C_below hC20 hb
        replace hM20 := blk_below hM20 hb
        replace hF20 := hF20.below hb
        obtain ⟨A21, c21, rfl, hc21, hC21⟩ := Kd.R_reads hv21
        clear hb hv21
        go_wp2_with fail
        refine (get_calls _ (hG.below HB) (hO.below HB) A21 c21 b2 hC21 (by have := Y7.out; have := S6.out; omega) S5.out _ _ _ _ _ _ _ _ S4.out).mono ?_
        rintro e w22 ⟨A22, c22, D22, d22, rfl, hC22, hc22, hD22, hd22, hb⟩
        replace HB := HB.trans (hb.mono HB.size)
        replace hC20 := Kd.C_below hC20 hb
        replace hM20 := blk_below hM20 hb
        replace hF20 := hF20.below hb
        replace hC21 := Kd.C_below hC21 hb
        clear hb hD22 hd22
        have hM22 := blk_new w22 (.cells #[.int .u8 4, .int .u16 an', .int .u16 hold', .int .u32 id', .slice A22 q.length c22] 41)
        have hb := below_alloc (Below.refl w22.heap.size w22) (.cells #[.int .u8 4, .int .u16 an', .int .u16 hold', .int .u32 id', .slice A22 q.length c22] 41)
        obtain ⟨wa, hwa⟩ : ∃ wa, w22.alloc (.cells #[.int .u8 4, .int .u16 an', .int .u16 hold', .int .u32 id', .slice A22 q.length c22] 41) = wa := ⟨_, rfl⟩
        have sa : wa.heap.size = w22.heap.size + 1 := by rw [← hwa]; simp
        rw [hwa] at hb hM22
        have hF22 := FB.new wa 0 0
        have hb2 := below_alloc (Below.refl wa.heap.size wa) (.cells #[.int .u8 0, .int .u8 0] 26)
        replace hM22 := blk_below hM22 hb2
        replace hb := hb.trans (hb2.mono hb.size)
        rw [sa] at hF22
        subst hwa
        replace HB := HB.trans (hb.mono HB.size)
        replace hC20 := Kd.C_below hC20 hb
        replace hM20 := blk_below hM20 hb
        replace hF20 := hF20.below hb
        replace hC21 := Kd.C_below hC21 hb
        replace hC22 := Kd.C_below hC22 hb
        clear hb hb2 sa
        go_upto_region 22 with fail
        generalize (w22.alloc (.cells #[.int .u8 4, .int .u16 an', .int .u16 hold', .int .u32 id', .slice A22 q.length c22] 41)).alloc (.cells #[.int .u8 0, .int .u8 0] 26) = w22b at *
        have x0 := blk_cell hM20 0
        have x1 := blk_cell hM20 1
        have x2 := blk_cell hM20 2
        have x3 := blk_cell hM20 3
        have x4 := blk_cell hM20 4
        simp at x0 x1 x2 x3 x4
        have n0 := blk_cell hM22 0
        have n1 := blk_cell hM22 1
        have n2 := blk_cell hM22 2
        have n3 := blk_cell hM22 3
        have n4 := blk_cell hM22 4
        simp at n0 n1 n2 n3 n4
        have u0 := hF22.c0
        have u1 := hF22.c1
        refine start_ (n := 26) (S := fun w' => Below w22b.heap.size w22b w') (ds := []) #[false, false, false, false, false, false, false, false, false, false, false, false, false, false, false, false, false, false, false, false, false, false, false, false, false, false] (by kernel_rfl) rfl rfl (below_drew (Below.refl _ _)) (fun hHeld => ?_)
        refine take_ (i := 0) (N := (some 158)) (v := ?_) (a' := ?_) #[true, false, false, false, false, false, false, false, false, false, false, false, false, false, false, false, false, false, false, false, false, false, false, false, false, false] rfl rfl (by kernel_rfl) (fun _ _ _ h => h) (Or.inl ⟨by rfl, ?_⟩) hHeld ?_ ?_
        rotate_left
        · rintro w' hbw
          have y0 := pw_cell_below hbw u0; have y1 := pw_cell_below hbw u1
          go_simp
          with_reducible rfl
        rotate_left
        · simp only [Act.put, List.setIfInBounds_toArray, List.set_cons_zero, List.set_cons_succ, i64_w, i32_w]
          rfl
        refine pure_ (i := 1) (N := (some 159)) (v := ?_) (a' := ?_) #[true, true, false, false, false, false, false, false, false, false, false, false, false, false, false, false, false, false, false, false, false, false, false, false, false, false] rfl rfl (by kernel_rfl) (fun _ _ _ h => h) (Or.inl ⟨by rfl, ?_⟩) ?_ ?_
        rotate_left
        · intro w'
          go_simp
          with_reducible rfl
        rotate_left
        · simp only [Act.put, List.setIfInBounds_toArray, List.set_cons_zero, List.set_cons_succ, i64_w, i32_w]
          rfl
        refine pure_ (i := 2) (N := (some 160)) (v := ?_) (a' := ?_) #[true, true, true, false, false, false, false, false, false, false, false, false, false, false, false, false, false, false, false, false, false, false, false, false, false, false] rfl rfl (by kernel_rfl) (fun _ _ _ h => h) (Or.inl ⟨by rfl, ?_⟩) ?_ ?_
        rotate_left
        · intro w'
          go_simp
          with_reducible rfl
        rotate_left
        · simp only [Act.put, List.setIfInBounds_toArray, List.set_cons_zero, List.set_cons_succ, i64_w, i32_w]
          rfl
        refine pure_ (i := 3) (N := (some 161)) (v := ?_) (a' := ?_) #[true, true, true, true, false, false, false, false, false, false, false, false, false, false, false, false, false, false, false, false, false, false, false, false, false, false] rfl rfl (by kernel_rfl) (fun _ _ _ h => h) (Or.inl ⟨by rfl, ?_⟩) ?_ ?_
        rotate_left
        · intro w'
          go_simp
          with_reducible rfl
        rotate_left
        · simp only [Act.put, List.setIfInBounds_toArray, List.set_cons_zero, List.set_cons_succ, i64_w, i32_w]
          rfl
        refine pure_ (i := 4) (N := (some 162)) (v := ?_) (a' := ?_) #[true, true, true, true, true, false, false, false, false, false, false, false, false, false, false, false, false, false, false, false, false, false, false, false, false, false] rfl rfl (by kernel_rfl) (fun _ _ _ h => h) (Or.inl ⟨by rfl, ?_⟩) ?_ ?_
        rotate_left
        · intro w'
          go_simp
          with_reducible rfl
        rotate_left
        · simp only [Act.put, List.setIfInBounds_toArray, List.set_cons_zero, List.set_cons_succ, i64_w, i32_w]
          rfl
        refine pure_ (i := 5) (N := (some 163)) (v := ?_) (a' := ?_) #[true, true, true, true, true, true, false, false, false, false, false, false, false, false, false, false, false, false, false, false, false, false, false, false, false, false] rfl rfl (by kernel_rfl) (fun _ _ _ h => h) (Or.inl ⟨by rfl, ?_⟩) ?_ ?_
        rotate_left
        · intro w'
          go_simp
          with_reducible rfl
        rotate_left
        · simp only [Act.put, List.setIfInBounds_toArray, List.set_cons_zero, List.set_cons_succ, i64_w, i32_w]
          rfl
        refine pure_ (i := 6) (N := (some 164)) (v := ?_) (a' := ?_) #[true, true, true, true, true, true, true, false, false, false, false, false, false, false, false, false, false, false, false, false, false, false, false, false, false, false] rfl rfl (by kernel_rfl) (fun _ _ _ h => h) (Or.inl ⟨by rfl, ?_⟩) ?_ ?_
        rotate_left
        · intro w'
          go_simp
          with_reducible rfl
        rotate_left
        · simp only [Act.put, List.setIfInBounds_toArray, List.set_cons_zero, List.set_cons_succ, i64_w, i32_w]
          rfl
        refine pure_ (i := 7) (N := (some 165)) (v := ?_) (a' := ?_) #[true, true, true, true, true, true, true, true, false, false, false, false, false, false, false, false, false, false, false, false, false, false, false, false, false, false] rfl rfl (by kernel_rfl) (fun _ _ _ h => h) (Or.inl ⟨by rfl, ?_⟩) ?_ ?_
        rotate_left
        · intro w'
          go_simp
          with_reducible rfl
        rotate_left
        · simp only [Act.put, List.setIfInBounds_toArray, List.set_cons_zero, List.set_cons_succ, i64_w, i32_w]
          rfl
        refine pure_ (i := 8) (N := (some 166)) (v := ?_) (a' := ?_) #[true, true, true, true, true, true, true, true, true, false, false, false, false, false, false, false, false, false, false, false, false, false, false, false, false, false] rfl rfl (by kernel_rfl) (fun _ _ _ h => h) (Or.inl ⟨by rfl, ?_⟩) ?_ ?_
        rotate_left
        · intro w'
          go_simp
          with_reducible rfl
        rotate_left
        · simp only [Act.put, List.setIfInBounds_toArray, List.set_cons_zero, List.set_cons_succ, i64_w, i32_w]
          rfl
        refine pure_ (i := 9) (N := (some 167)) (v := ?_) (a' := ?_) #[true, true, true, true, true, true, true, true, true, true, false, false, false, false, false, false, false, false, false, false, false, false, false, false, false, false] rfl rfl (by kernel_rfl) (fun _ _ _ h => h) (Or.inl ⟨by rfl, ?_⟩) ?_ ?_
        rotate_left
        · intro w'
          go_simp
          with_reducible rfl
        rotate_left
        · simp only [Act.put, List.setIfInBounds_toArray, List.set_cons_zero, List.set_cons_succ, i64_w, i32_w]
          rfl
        refine pure_ (i := 10) (N := (some 168)) (v := ?_) (a' := ?_) #[true, true, true, true, true, true, true, true, true, true, true, false, false, false, false, false, false, false, false, false, false, false, false, false, false, false] rfl rfl (by kernel_rfl) (fun _ _ _ h => h) (Or.inl ⟨by rfl, ?_⟩) ?_ ?_
        rotate_left
        · intro w'
          go_simp
          with_reducible rfl
        rotate_left
        · simp only [Act.put, List.setIfInBounds_toArray, List.set_cons_zero, List.set_cons_succ, i64_w, i32_w]
          rfl
        refine take_ (i := 11) (N := (some 169)) (v := ?_) (a' := ?_) #[true, true, true, true, true, true, true, true, true, true, true, true, false, false, false, false, false, false, false, false, false, false, false, false, false, false] rfl rfl (by kernel_rfl) (fun _ _ _ h => h) (Or.inl ⟨by rfl, ?_⟩) hHeld ?_ ?_
        rotate_left
        · rintro w' hbw
          have y0 := pw_cell_below hbw n0; have y1 := pw_cell_below hbw n1; have y2 := pw_cell_below hbw n2; have y3 := pw_cell_below hbw n3; have y4 := pw_cell_below hbw n4
          go_simp
          with_reducible rfl
        rotate_left
        · simp only [Act.put, List.setIfInBounds_toArray, List.set_cons_zero, List.set_cons_succ, i64_w, i32_w]
          rfl
        refine take_ (i := 13) (N := (some 171)) (v := ?_) (a' := ?_) #[true, true, true, true, true, true, true, true, true, true, true, true, false, true, false, false, false, false, false, false, false, false, false, false, false, false] rfl rfl (by kernel_rfl) (fun _ _ _ h => h) (Or.inl ⟨by rfl, ?_⟩) hHeld ?_ ?_
        rotate_left
        · rintro w' hbw
          have y0 := pw_cell_below hbw x0; have y1 := pw_cell_below hbw x1; have y2 := pw_cell_below hbw x2; have y3 := pw_cell_below hbw x3; have y4 := pw_cell_below hbw x4
          go_simp
          with_reducible rfl
        rotate_left
        · simp only [Act.put, List.setIfInBounds_toArray, List.set_cons_zero, List.set_cons_succ, i64_w, i32_w]
          rfl
        refine one_ (i := 12) (N := (some 170)) #[true, true, true, true, true, true, true, true, true, true, true, true, true, true, false, false, false, false, false, false, false, false, false, false, false, false] rfl rfl (by kernel_rfl) (by decide) (fun K hK => ?_)
        refine goes_ Tryd.func24 (by kernel_rfl) rfl #[.agg #[.int .u8 4, .int .u16 an', .int .u16 hold', .int .u32 id', .slice A22 q.length c22]] (by rfl) rfl rfl (by simp [Act.eval]) ?_
        refine (PA.consulatelaw06_Of.calls (q.length + 1) 4 an' hold' id' (fun k => k < w22b.drew.heap.size) A22 c22 q 4 an' hold' id' q9 w22b.drew (Kd.V_mk hc22 (Kd.C_F PA.k61_heap (Kd.C_drew hC22))) S2.out).mono ?_
        rintro e wg ⟨v_wg, rfl, hv_wg, hb_wg⟩
        obtain ⟨A_wg, c_wg, rfl, hc_wg, hC_wg⟩ := Kd.N_reads hv_wg
        have h_wg := hHeld.trans (hb_wg.mono hHeld.size)
        refine ⟨_, rfl, ?_⟩
        refine hK.out _ _ (h_wg) (fun hHeld => ?_)
        clear hK K
        refine norm_ (a' := ?_) ?_ ?_
        rotate_left
        · show Act.put _ (some 170) _ = _
          simp only [Act.put, List.setIfInBounds_toArray, List.set_cons_zero, List.set_cons_succ, i64_w, i32_w]
          rfl
        refine one_ (i := 14) (N := (some 172)) #[true, true, true, true, true, true, true, true, true, true, true, true, true, true, true, false, false, false, false, false, false, false, false, false, false, false] rfl rfl (by kernel_rfl) (by decide) (fun K hK => ?_)
        refine goes_ Tryd.func24 (by kernel_rfl) rfl #[.agg #[.int .u8 4, .int .u16 an', .int .u16 hold', .int .u32 id', .slice A20 q.length c20]] (by rfl) rfl rfl (by simp [Act.eval]) ?_
        refine (PA.consulatelaw06_Of.calls (q.length + 1) 4 an' hold' id' (fun k => k < wg.heap.size) A20 c20 q 4 an' hold' id' q9 wg (Kd.V_mk hc20 (Kd.C_F PA.k61_heap (Kd.C_below hC20 h_wg))) S2.out).mono ?_
        rintro e wh ⟨v_wh, rfl, hv_wh, hb_wh⟩
        obtain ⟨A_wh, c_wh, rfl, hc_wh, hC_wh⟩ := Kd.N_reads hv_wh
        have h_wh := hHeld.trans (hb_wh.mono hHeld.size)
        replace hC_wg := Kd.C_below hC_wg hb_wh
        refine ⟨_, rfl, ?_⟩
        refine hK.out _ _ (h_wh) (fun hHeld => ?_)
        clear hK K
        refine norm_ (a' := ?_) ?_ ?_
        rotate_left
        · show Act.put _ (some 172) _ = _
          simp only [Act.put, List.setIfInBounds_toArray, List.set_cons_zero, List.set_cons_succ, i64_w, i32_w]
          rfl
        refine one_ (i := 15) (N := (some 173)) #[true, true, true, true, true, true, true, true, true, true, true, true, true, true, true, true, false, false, false, false, false, false, false, false, false, false] rfl rfl (by kernel_rfl) (by decide) (fun K hK => ?_)
        refine goes_ Tryd.func23 (by kernel_rfl) rfl #[.agg #[.int .i64 4, .int .i64 an', .int .i64 hold', .int .u32 id', .slice A_wg q9.length c_wg], .agg #[.int .i64 4, .int .i64 an', .int .i64 hold', .int .u32 id', .slice A_wh q9.length c_wh]] (by rfl) rfl rfl (by simp [Act.eval]) ?_
        refine (PA.consulatelaw06_Like.calls (q9.length + 2) 4 an' hold' id' A_wg c_wg q9 4 an' hold' id' A_wh c_wh q9 true wh hC_wg hc_wg hC_wh hc_wh S3.out).mono ?_
        rintro e wi ⟨rfl, hb_wi⟩
        have h_wi := hHeld.trans (hb_wi.mono hHeld.size)
        refine ⟨_, rfl, ?_⟩
        refine hK.out _ _ (h_wi) (fun hHeld => ?_)
        clear hK K
        refine norm_ (a' := ?_) ?_ ?_
        rotate_left
        · show Act.put _ (some 173) _ = _
          simp only [Act.put, List.setIfInBounds_toArray, List.set_cons_zero, List.set_cons_succ, i64_w, i32_w]
          rfl
        refine pure_ (i := 16) (N := (some 174)) (v := ?_) (a' := ?_) #[true, true, true, true, true, true, true, true, true, true, true, true, true, true, true, true, true, false, false, false, false, false, false, false, false, false] rfl rfl (by kernel_rfl) (fun _ _ _ h => h) (Or.inl ⟨by rfl, ?_⟩) ?_ ?_
        rotate_left
        · intro w'
          go_simp
          with_reducible rfl
        rotate_left
        · simp only [Act.put, List.setIfInBounds_toArray, List.set_cons_zero, List.set_cons_succ, i64_w, i32_w]
          rfl
        refine pure_ (i := 17) (N := (some 175)) (v := ?_) (a' := ?_) #[true, true, true, true, true, true, true, true, true, true, true, true, true, true, true, true, true, true, false, false, false, false, false, false, false, false] rfl rfl (by kernel_rfl) (fun _ _ _ h => h) (Or.inl ⟨by rfl, ?_⟩) ?_ ?_
        rotate_left
        · intro w'
          go_simp
          with_reducible rfl
        rotate_left
        · simp only [Act.put, List.setIfInBounds_toArray, List.set_cons_zero, List.set_cons_succ, i64_w, i32_w]
          rfl
        refine pure_ (i := 18) (N := (some 176)) (v := ?_) (a' := ?_) #[true, true, true, true, true, true, true, true, true, true, true, true, true, true, true, true, true, true, true, false, false, false, false, false, false, false] rfl rfl (by kernel_rfl) (fun _ _ _ h => h) (Or.inl ⟨by rfl, ?_⟩) ?_ ?_
        rotate_left
        · intro w'
          go_simp
          with_reducible rfl
        rotate_left
        · simp only [Act.put, List.setIfInBounds_toArray, List.set_cons_zero, List.set_cons_succ, i64_w, i32_w]
          rfl
        refine take_ (i := 19) (N := (some 177)) (v := ?_) (a' := ?_) #[true, true, true, true, true, true, true, true, true, true, true, true, true, true, true, true, true, true, true, true, false, false, false, false, false, false] rfl rfl (by kernel_rfl) (fun _ _ _ h => h) (Or.inl ⟨by rfl, ?_⟩) hHeld ?_ ?_
        rotate_left
        · rintro w' hbw
          have y0 := pw_cell_below hbw x0
          go_simp
          with_reducible rfl
        rotate_left
        · simp only [Act.put, List.setIfInBounds_toArray, List.set_cons_zero, List.set_cons_succ, i64_w, i32_w]
          rfl
        refine pure_ (i := 20) (N := (some 178)) (v := ?_) (a' := ?_) #[true, true, true, true, true, true, true, true, true, true, true, true, true, true, true, true, true, true, true, true, true, false, false, false, false, false] rfl rfl (by kernel_rfl) (fun _ _ _ h => h) (Or.inl ⟨by rfl, ?_⟩) ?_ ?_
        rotate_left
        · intro w'
          go_simp
          with_reducible rfl
        rotate_left
        · simp only [Act.put, List.setIfInBounds_toArray, List.set_cons_zero, List.set_cons_succ, i64_w, i32_w]
          rfl
        refine pure_ (i := 21) (N := (some 179)) (v := ?_) (a' := ?_) #[true, true, true, true, true, true, true, true, true, true, true, true, true, true, true, true, true, true, true, true, true, true, false, false, false, false] rfl rfl (by kernel_rfl) (fun _ _ _ h => h) (Or.inl ⟨by rfl, ?_⟩) ?_ ?_
        rotate_left
        · intro w'
          go_simp
          with_reducible rfl
        rotate_left
        · simp only [Act.put, List.setIfInBounds_toArray, List.set_cons_zero, List.set_cons_succ, i64_w, i32_w]
          rfl
        refine pure_ (i := 22) (N := (some 180)) (v := ?_) (a' := ?_) #[true, true, true, true, true, true, true, true, true, true, true, true, true, true, true, true, true, true, true, true, true, true, true, false, false, false] rfl rfl (by kernel_rfl) (fun _ _ _ h => h) (Or.inl ⟨by rfl, ?_⟩) ?_ ?_
        rotate_left
        · intro w'
          go_simp
          with_reducible rfl
        rotate_left
        · simp only [Act.put, List.setIfInBounds_toArray, List.set_cons_zero, List.set_cons_succ, i64_w, i32_w]
          rfl
        refine one_ (i := 23) (N := (some 181)) #[true, true, true, true, true, true, true, true, true, true, true, true, true, true, true, true, true, true, true, true, true, true, true, true, false, false] rfl rfl (by kernel_rfl) (by decide) (fun K hK => ?_)
        refine goes_ Tryd.func25 (by kernel_rfl) rfl #[] (by rfl) rfl rfl (by simp [Act.eval]) ?_
        refine (tells_calls wi (hG.below (HB.trans (hHeld.mono HB.size))) (hU.below (HB.trans (hHeld.mono HB.size))) (hO.below (HB.trans (hHeld.mono HB.size)))).mono ?_
        rintro e wj ⟨rfl, hb_wj⟩
        have h_wj := hHeld.trans (hb_wj.mono hHeld.size)
        refine ⟨_, rfl, ?_⟩
        refine hK.out _ _ (h_wj) (fun hHeld => ?_)
        clear hK K
        refine norm_ (a' := ?_) ?_ ?_
        rotate_left
        · show Act.put _ (some 181) _ = _
          simp only [Act.put, List.setIfInBounds_toArray, List.set_cons_zero, List.set_cons_succ, i64_w, i32_w]
          rfl
        refine pure_ (i := 24) (N := (some 182)) (v := ?_) (a' := ?_) #[true, true, true, true, true, true, true, true, true, true, true, true, true, true, true, true, true, true, true, true, true, true, true, true, true, false] rfl rfl (by kernel_rfl) (fun _ _ _ h => h) (Or.inl ⟨by rfl, ?_⟩) ?_ ?_
        rotate_left
        · intro w'
          go_simp
          with_reducible rfl
        rotate_left
        · simp only [Act.put, List.setIfInBounds_toArray, List.set_cons_zero, List.set_cons_succ, i64_w, i32_w]
          rfl
        refine pure_ (i := 25) (N := (some 6)) (v := ?_) (a' := ?_) #[true, true, true, true, true, true, true, true, true, true, true, true, true, true, true, true, true, true, true, true, true, true, true, true, true, true] rfl rfl (by kernel_rfl) (fun _ _ _ h => h) (Or.inl ⟨by rfl, ?_⟩) ?_ ?_
        rotate_left
        · intro w'
          go_simp
          with_reducible rfl
        rotate_left
        · simp only [Act.put, List.setIfInBounds_toArray, List.set_cons_zero, List.set_cons_succ, i64_w, i32_w]
          rfl
        refine done_ (by kernel_rfl) ?_
        go_wp2
        go_ret
        exact ⟨rfl, HB.trans (hHeld.mono HB.size)⟩
  · rw [hbe] at Q1
    simp only at Q1
    obtain ⟨k, hk, hkl⟩ : ∃ k : Nat, ct.tmod a.length = (k : Int) ∧ k < a.length := by
      refine ⟨(ct.tmod a.length).toNat, ?_, ?_⟩
      · have := Int.tmod_nonneg (a := ct) (a.length : Int) h0
        omega
      · have h2 := Int.tmod_lt_of_pos ct (show 0 < (a.length : Int) by omega)
        have := Int.tmod_nonneg (a := ct) (a.length : Int) h0
        omega
    have hgk := hgak k hkl
    have hbl : (a.take k).length = k := by rw [List.length_take]; omega
    have hbkb : ∀ b, b ∈ a.take k → 0 ≤ b ∧ b < 256 := fun b hb => hab b (List.mem_of_mem_take hb)
    obtain ⟨i5, hi5, _⟩ := info_parts info5
    have KT := Aside0.mk (fun (w : World) (A : Option Addr) (h : (Kd.int .u8).C w A a.length a) => Kd.C_take h (m := k) (by omega))
    generalize a.take k = ak at *
    have KL := Aside0.mk hbl.symm
    have KR := Aside0.mk hgk
    have KB := Aside0.mk hbkb
    have K0 := Aside0.mk hkl
    have hab0 : ∀ b, b ∈ a ++ [0] → 0 ≤ b ∧ b < 256 := fun b hb => by
      rcases List.mem_append.1 hb with hb | hb
      · exact hab b hb
      · rw [List.mem_singleton] at hb
        omega
    have ha0l : (a ++ [0]).length ≤ 266 := by rw [List.length_append, List.length_singleton]; omega
    have L1 := Aside0.mk hab
    have L2 := Aside0.mk hga
    have L3 := Aside0.mk hga0
    have L4 := Aside0.mk hab0
    have L5 := Aside0.mk ha0l
    have L6 := Aside0.mk ha265
    have L7 := Aside0.mk ha10
    have hne : ¬ a = [] := fun h => by rw [h] at ha10; simp at ha10
    have e1 : ((a.length : Int) == 0) = false := beq_false_of_ne (by omega)
    have e2 : decide ((a.length : Int) < 10) = false := decide_eq_false (by omega)
    have e3 : decide (a.length < 10) = false := decide_eq_false (by omega)
    clear hkl hbl hgk hbkb hab hga hga0 hab0 ha0l ha265 ha10 hgak hal hbe
    go_enter Tryd.func12, Tryd.ntmps12
    go_upto_region 1 with fail
    generalize w.alloc (.cells #[.int .u8 ver, .int .u16 an, .int .u16 hold, .int .u32 id, .slice A l.length c] 41) = w1 at *
    have hlt1 := blk_lt hM
    have hFd : Kd.F PA.k61 w1 (fun k => k < w.heap.size) A l.length l := fun W hW => PA.k61_heap.C (fun k hlt => (hW k hlt (by omega)).trans (HB.block k hlt)) hC
    have x0 := blk_cell hM 0
    have x1 := blk_cell hM 1
    have x2 := blk_cell hM 2
    have x3 := blk_cell hM 3
    have x4 := blk_cell hM 4
    simp at x0 x1 x2 x3 x4
    go_wp2_with fail
    refine (PA.consulatelaw06_Few.calls 13 ver an hold id (fun k => k < w.heap.size) A c l ver an hold id m w1 (Kd.V_mk hc hFd) HFew.out).mono ?_
    rintro e w2 ⟨v2, rfl, hv2, hb⟩
    replace HB := HB.trans (hb.mono HB.size)
    replace hM := blk_below hM hb
    obtain ⟨A1, c1, rfl, hc1, _⟩ := Kd.N_reads hv2
    clear hb x0 x1 x2 x3 x4 hFd
    have x0 := blk_cell hM 0
    have x1 := blk_cell hM 1
    have x2 := blk_cell hM 2
    have x3 := blk_cell hM 3
    have x4 := blk_cell hM 4
    simp at x0 x1 x2 x3 x4
    have z0 := blk_frozen hM 0
    have z1 := blk_frozen hM 1
    have z2 := blk_frozen hM 2
    have z3 := blk_frozen hM 3
    have z4 := blk_frozen hM 4
    have okne : ∀ k, (k < w.heap.size ∨ w1.heap.size ≤ k) → k ≠ w.heap.size := fun k hk => by omega
    go_upto_region 3 with fail
    replace hv2 := Kd.N_far (Kd.N_far (Kd.N_far (Kd.N_far (Kd.N_far (Kd.N_far hv2 (p := ⟨w.heap.size, 0, none⟩) okne (.int .u8 ver)) (p := ⟨w.heap.size, 1, none⟩) okne (.int .u16 an)) (p := ⟨w.heap.size, 2, none⟩) okne (.int .u16 hold)) (p := ⟨w.heap.size, 3, none⟩) okne (.int .u32 id)) (p := ⟨w.heap.size, 4, none⟩) okne (.slice A1 m.length c1)) (p := ⟨w.heap.size, 0, none⟩) okne (.int .u8 4)
    obtain ⟨m1, m3⟩ := put45 (.int .u8 ver) (.int .u16 an) (.int .u16 hold) (.int .u32 id) (.slice A1 m.length c1) hM HB (Nat.le_refl _)
    replace m1 := blk_put m1 0 (.int .u8 4) rfl
    replace m3 := m3.setCell (p := ⟨w.heap.size, 0, none⟩) (Nat.le_refl _) (.int .u8 4)
    clear x0 x1 x2 x3 x4 z0 z1 z2 z3 z4 hM HB okne
    generalize (((((w2.setCell ⟨w.heap.size, 0, none⟩ (.int .u8 ver)).setCell ⟨w.heap.size, 1, none⟩ (.int .u16 an)).setCell ⟨w.heap.size, 2, none⟩ (.int .u16 hold)).setCell ⟨w.heap.size, 3, none⟩ (.int .u32 id)).setCell ⟨w.heap.size, 4, none⟩ (.slice A1 m.length c1)).setCell ⟨w.heap.size, 0, none⟩ (.int .u8 4) = w3 at *
    have hM := m1
    have HB := m3
    obtain ⟨A1', c1', e1, hc1', hC1⟩ := Kd.N_reads hv2
    injection e1 with q1 q2 q3
    subst q1 q3
    clear m1 m3 q2 hv2 hc1'
    have x0 := blk_cell hM 0
    have x1 := blk_cell hM 1
    have x2 := blk_cell hM 2
    have x3 := blk_cell hM 3
    have x4 := blk_cell hM 4
    simp at x0 x1 x2 x3 x4
    go_wp2_with fail
    refine (Q1.out w3 A1 c1 hC1 hc1).mono ?_
    rintro e w4 ⟨v4, rfl, hv4, hb⟩
    replace HB := HB.trans (hb.mono HB.size)
    clear x0 x1 x2 x3 x4
    replace hM := blk_below hM hb
    replace hC1 := Kd.C_below hC1 hb
    obtain ⟨A4, c4, rfl, hc4, hC4⟩ := Kd.R_reads hv4
    clear hv4 hb
    go_wp2_with fail
    refine (get_calls _ (hG.below HB) (hO.below HB) A4 c4 a hC4 (by have := L6.out; omega) L1.out _ _ _ _ _ _ _ _ L2.out).mono ?_
    rintro e w7 ⟨A7, c7, D7, d7, rfl, hC7, hc7, hD7, hd7, hb⟩
    replace HB := HB.trans (hb.mono HB.size)
    replace hM := blk_below hM hb
    replace hC1 := Kd.C_below hC1 hb
    replace hC4 := Kd.C_below hC4 hb
    clear hb hD7 hd7
    have hM7 := blk_new w7 (.cells #[.int .u8 4, .int .u16 an, .int .u16 hold, .int .u32 id, .slice A7 m.length c7] 41)
    have hb := below_alloc (Below.refl w7.heap.size w7) (.cells #[.int .u8 4, .int .u16 an, .int .u16 hold, .int .u32 id, .slice A7 m.length c7] 41)
    obtain ⟨wa, hwa⟩ : ∃ wa, w7.alloc (.cells #[.int .u8 4, .int .u16 an, .int .u16 hold, .int .u32 id, .slice A7 m.length c7] 41) = wa := ⟨_, rfl⟩
    have sa : wa.heap.size = w7.heap.size + 1 := by rw [← hwa]; simp
    rw [hwa] at hb hM7
    have hF7 := FB.new wa 0 0
    have hb2 := below_alloc (Below.refl wa.heap.size wa) (.cells #[.int .u8 0, .int .u8 0] 26)
    replace hM7 := blk_below hM7 hb2
    replace hb := hb.trans (hb2.mono hb.size)
    rw [sa] at hF7
    subst hwa
    replace HB := HB.trans (hb.mono HB.size)
    replace hM := blk_below hM hb
    replace hC1 := Kd.C_below hC1 hb
    replace hC4 := Kd.C_below hC4 hb
    replace hC7 := Kd.C_below hC7 hb
    clear hb hb2 sa
    go_upto_region 8 with fail
    generalize (w7.alloc (.cells #[.int .u8 4, .int .u16 an, .int .u16 hold, .int .u32 id, .slice A7 m.length c7] 41)).alloc (.cells #[.int .u8 0, .int .u8 0] 26) = w7b at *
    go_wp2_with (at_builtin; refine Kd.R_append_rows (Kd.int .u8) (w0 := w7b) w7b.heap.size rfl _ (.tmp 54) 22 5 (.int .u8 0) 1 rfl Tryd.underlying22 info5 rfl (by decide) (by decide) (.slice none 0 0) [] a A4 a.length c4 (fun _ => True) (fun _ => False) rfl rfl (Kd.R_nil _ _ _ _ _) hC4 (fun _ _ h => h) (fun _ h => h.elim) (fun _ _ => trivial) (Below.refl _ _) (Nat.le_refl _) (by have := L6.out; simp; omega) ?_)
    intro v8 w8 hv8 hb8 _ _
    try simp only [List.nil_append] at hv8
    have hb9 := below_alloc (Below.refl w8.heap.size w8) (.cells #[.int .u8 0] 5)
    have hC9 := blkC (blk_new w8 (.cells #[.int .u8 0] 5))
    replace hv8 := Kd.R_below hv8 hb9
    replace hb8 := hb8.trans (hb9.mono hb8.size)
    go_wp2_with (at_builtin; refine Kd.R_append_rows (Kd.int .u8) (w0 := w7b) w7b.heap.size rfl (.tmp 55) (.tmp 56) 22 5 (.int .u8 0) 1 rfl Tryd.underlying22 info5 rfl (by decide) (by decide) v8 a [0] (some ⟨w8.heap.size, 0, none⟩) 1 1 (fun _ => True) (fun _ => False) rfl rfl hv8 hC9 (fun _ _ h => h) (fun _ h => h.elim) (fun _ _ => trivial) hb8 hb8.size (by have := L6.out; omega) ?_)
    intro v10 w10 hv10 hb _ _
    clear hb8 hb9 hC9 hv8
    replace HB := HB.trans (hb.mono HB.size)
    replace hM := blk_below hM hb
    replace hC1 := Kd.C_below hC1 hb
    replace hC4 := Kd.C_below hC4 hb
    replace hC7 := Kd.C_below hC7 hb
    replace hM7 := blk_below hM7 hb
    replace hF7 := hF7.below hb
    obtain ⟨A10, c10, rfl, hc10, hC10⟩ := Kd.R_reads hv10
    clear hb hv10
    generalize a ++ [0] = a0 at *
    go_wp2_with fail
    refine (get_calls _ (hG.below HB) (hO.below HB) A10 c10 a0 hC10 (by have := L5.out; omega) L4.out 0 0 0 0 [] 2 0 [] L3.out).mono ?_
    rintro e w11 ⟨A11, c11, D11, d11, rfl, hC11, hc11, hD11, hd11, hb⟩
    replace HB := HB.trans (hb.mono HB.size)
    replace hM := blk_below hM hb
    replace hC1 := Kd.C_below hC1 hb
    replace hC4 := Kd.C_below hC4 hb
    replace hC7 := Kd.C_below hC7 hb
    replace hM7 := blk_below hM7 hb
    replace hF7 := hF7.below hb
    replace hC10 := Kd.C_below hC10 hb
    clear hb hD11 hd11
    have hM11 := blk_new w11 (.cells #[.int .u8 0, .int .u16 0, .int .u16 0, .int .u32 0, .slice A11 0 c11] 41)
    have hb := below_alloc (Below.refl w11.heap.size w11) (.cells #[.int .u8 0, .int .u16 0, .int .u16 0, .int .u32 0, .slice A11 0 c11] 41)
    obtain ⟨wa, hwa⟩ : ∃ wa, w11.alloc (.cells #[.int .u8 0, .int .u16 0, .int .u16 0, .int .u32 0, .slice A11 0 c11] 41) = wa := ⟨_, rfl⟩
    have sa : wa.heap.size = w11.heap.size + 1 := by rw [← hwa]; simp
    rw [hwa] at hb hM11
    have hF11 := FB.new wa 2 0
    have hb2 := below_alloc (Below.refl wa.heap.size wa) (.cells #[.int .u8 2, .int .u8 0] 26)
    replace hM11 := blk_below hM11 hb2
    replace hb := hb.trans (hb2.mono hb.size)
    rw [sa] at hF11
    subst hwa
    replace HB := HB.trans (hb.mono HB.size)
    replace hM := blk_below hM hb
    replace hC1 := Kd.C_below hC1 hb
    replace hC4 := Kd.C_below hC4 hb
    replace hC7 := Kd.C_below hC7 hb
    replace hM7 := blk_below hM7 hb
    replace hF7 := hF7.below hb
    replace hC10 := Kd.C_below hC10 hb
    replace hC11 := Kd.C_below hC11 hb
    clear hb hb2 sa
    go_upto_region 9 with fail
    generalize (w11.alloc (.cells #[.int .u8 0, .int .u16 0, .int .u16 0, .int .u32 0, .slice A11 0 c11] 41)).alloc (.cells #[.int .u8 2, .int .u8 0] 26) = w11b at *
    have x0 := blk_cell hM7 0
    have x1 := blk_cell hM7 1
    have x2 := blk_cell hM7 2
    have x3 := blk_cell hM7 3
    have x4 := blk_cell hM7 4
    simp at x0 x1 x2 x3 x4
    have n0 := blk_cell hM 0
    have n1 := blk_cell hM 1
    have n2 := blk_cell hM 2
    have n3 := blk_cell hM 3
    have n4 := blk_cell hM 4
    simp at n0 n1 n2 n3 n4
    have u0 := hF7.c0
    have u1 := hF7.c1
    have s0 := hF11.c0
    have s1 := hF11.c1
    refine start_ (n := 21) (S := fun w' => Below w11b.heap.size w11b w') (ds := []) #[false, false, false, false, false, false, false, false, false, false, false, false, false, false, false, false, false, false, false, false, false] (by kernel_rfl) rfl rfl (below_drew (Below.refl _ _)) (fun hHeld => ?_)
    refine take_ (i := 0) (N := (some 62)) (v := ?_) (a' := ?_) #[true, false, false, false, false, false, false, false, false, false, false, false, false, false, false, false, false, false, false, false, false] rfl rfl (by kernel_rfl) (fun _ _ _ h => h) (Or.inl ⟨by rfl, ?_⟩) hHeld ?_ ?_
    rotate_left
    · rintro w' hbw
      have y0 := pw_cell_below hbw u0; have y1 := pw_cell_below hbw u1
      go_simp
      with_reducible rfl
    rotate_left
    · simp only [Act.put, List.setIfInBounds_toArray, List.set_cons_zero, List.set_cons_succ, i64_w, i32_w]
      rfl
    refine pure_ (i := 1) (N := (some 63)) (v := ?_) (a' := ?_) #[true, true, false, false, false, false, false, false, false, false, false, false, false, false, false, false, false, false, false, false, false] rfl rfl (by kernel_rfl) (fun _ _ _ h => h) (Or.inl ⟨by rfl, ?_⟩) ?_ ?_
    rotate_left
    · intro w'
      go_simp
      with_reducible rfl
    rotate_left
    · simp only [Act.put, List.setIfInBounds_toArray, List.set_cons_zero, List.set_cons_succ, i64_w, i32_w]
      rfl
    refine pure_ (i := 2) (N := (some 64)) (v := ?_) (a' := ?_) #[true, true, true, false, false, false, false, false, false, false, false, false, false, false, false, false, false, false, false, false, false] rfl rfl (by kernel_rfl) (fun _ _ _ h => h) (Or.inl ⟨by rfl, ?_⟩) ?_ ?_
    rotate_left
    · intro w'
      go_simp
      with_reducible rfl
    rotate_left
    · simp only [Act.put, List.setIfInBounds_toArray, List.set_cons_zero, List.set_cons_succ, i64_w, i32_w]
      rfl
    refine pure_ (i := 3) (N := (some 65)) (v := ?_) (a' := ?_) #[true, true, true, true, false, false, false, false, false, false, false, false, false, false, false, false, false, false, false, false, false] rfl rfl (by kernel_rfl) (fun _ _ _ h => h) (Or.inl ⟨by rfl, ?_⟩) ?_ ?_
    rotate_left
    · intro w'
      go_simp
      with_reducible rfl
    rotate_left
    · simp only [Act.put, List.setIfInBounds_toArray, List.set_cons_zero, List.set_cons_succ, i64_w, i32_w]
      rfl
    refine take_ (i := 4) (N := (some 66)) (v := ?_) (a' := ?_) #[true, true, true, true, true, false, false, false, false, false, false, false, false, false, false, false, false, false, false, false, false] rfl rfl (by kernel_rfl) (fun _ _ _ h => h) (Or.inl ⟨by rfl, ?_⟩) hHeld ?_ ?_
    rotate_left
    · rintro w' hbw
      have y0 := pw_cell_below hbw x0; have y1 := pw_cell_below hbw x1; have y2 := pw_cell_below hbw x2; have y3 := pw_cell_below hbw x3; have y4 := pw_cell_below hbw x4
      go_simp
      with_reducible rfl
    rotate_left
    · simp only [Act.put, List.setIfInBounds_toArray, List.set_cons_zero, List.set_cons_succ, i64_w, i32_w]
      rfl
    refine take_ (i := 6) (N := (some 68)) (v := ?_) (a' := ?_) #[true, true, true, true, true, false, true, false, false, false, false, false, false, false, false, false, false, false, false, false, false] rfl rfl (by kernel_rfl) (fun _ _ _ h => h) (Or.inl ⟨by rfl, ?_⟩) hHeld ?_ ?_
    rotate_left
    · rintro w' hbw
      have y0 := pw_cell_below hbw n0; have y1 := pw_cell_below hbw n1; have y2 := pw_cell_below hbw n2; have y3 := pw_cell_below hbw n3; have y4 := pw_cell_below hbw n4
      go_simp
      with_reducible rfl
    rotate_left
    · simp only [Act.put, List.setIfInBounds_toArray, List.set_cons_zero, List.set_cons_succ, i64_w, i32_w]
      rfl
    refine one_ (i := 5) (N := (some 67)) #[true, true, true, true, true, true, true, false, false, false, false, false, false, false, false, false, false, false, false, false, false] rfl rfl (by kernel_rfl) (by decide) (fun K hK => ?_)
    refine goes_ Tryd.func24 (by kernel_rfl) rfl #[.agg #[.int .u8 4, .int .u16 an, .int .u16 hold, .int .u32 id, .slice A7 m.length c7]] (by rfl) rfl rfl (by simp [Act.eval]) ?_
    refine (PA.consulatelaw06_Of.calls (m.length + 1) 4 an hold id (fun k => k < w11b.drew.heap.size) A7 c7 m 4 an hold id m9 w11b.drew (Kd.V_mk hc7 (Kd.C_F PA.k61_heap (Kd.C_drew hC7))) P1.out).mono ?_
    rintro e wg ⟨v_wg, rfl, hv_wg, hb_wg⟩
    obtain ⟨A_wg, c_wg, rfl, hc_wg, hC_wg⟩ := Kd.N_reads hv_wg
    have h_wg := hHeld.trans (hb_wg.mono hHeld.size)
    refine ⟨_, rfl, ?_⟩
    refine hK.out _ _ (h_wg) (fun hHeld => ?_)
    clear hK K
    refine norm_ (a' := ?_) ?_ ?_
    rotate_left
    · show Act.put _ (some 67) _ = _
      simp only [Act.put, List.setIfInBounds_toArray, List.set_cons_zero, List.set_cons_succ, i64_w, i32_w]
      rfl
    refine one_ (i := 7) (N := (some 69)) #[true, true, true, true, true, true, true, true, false, false, false, false, false, false, false, false, false, false, false, false, false] rfl rfl (by kernel_rfl) (by decide) (fun K hK => ?_)
    refine goes_ Tryd.func24 (by kernel_rfl) rfl #[.agg #[.int .u8 4, .int .u16 an, .int .u16 hold, .int .u32 id, .slice A1 m.length c1]] (by rfl) rfl rfl (by simp [Act.eval]) ?_
    refine (PA.consulatelaw06_Of.calls (m.length + 1) 4 an hold id (fun k => k < wg.heap.size) A1 c1 m 4 an hold id m9 wg (Kd.V_mk hc1 (Kd.C_F PA.k61_heap (Kd.C_below hC1 h_wg))) P1.out).mono ?_
    rintro e wh ⟨v_wh, rfl, hv_wh, hb_wh⟩
    obtain ⟨A_wh, c_wh, rfl, hc_wh, hC_wh⟩ := Kd.N_reads hv_wh
    have h_wh := hHeld.trans (hb_wh.mono hHeld.size)
    replace hC_wg := Kd.C_below hC_wg hb_wh
    refine ⟨_, rfl, ?_⟩
    refine hK.out _ _ (h_wh) (fun hHeld => ?_)
    clear hK K
    refine norm_ (a' := ?_) ?_ ?_
    rotate_left
    · show Act.put _ (some 69) _ = _
      simp only [Act.put, List.setIfInBounds_toArray, List.set_cons_zero, List.set_cons_succ, i64_w, i32_w]
      rfl
    refine one_ (i := 8) (N := (some 70)) #[true, true, true, true, true, true, true, true, true, false, false, false, false, false, false, false, false, false, false, false, false] rfl rfl (by kernel_rfl) (by decide) (fun K hK => ?_)
    refine goes_ Tryd.func23 (by kernel_rfl) rfl #[.agg #[.int .i64 4, .int .i64 an, .int .i64 hold, .int .u32 id, .slice A_wg m9.length c_wg], .agg #[.int .i64 4, .int .i64 an, .int .i64 hold, .int .u32 id, .slice A_wh m9.length c_wh]] (by rfl) rfl rfl (by simp [Act.eval]) ?_
    refine (PA.consulatelaw06_Like.calls (m9.length + 2) 4 an hold id A_wg c_wg m9 4 an hold id A_wh c_wh m9 true wh hC_wg hc_wg hC_wh hc_wh P2.out).mono ?_
    rintro e wi ⟨rfl, hb_wi⟩
    have h_wi := hHeld.trans (hb_wi.mono hHeld.size)
    refine ⟨_, rfl, ?_⟩
    refine hK.out _ _ (h_wi) (fun hHeld => ?_)
    clear hK K
    refine norm_ (a' := ?_) ?_ ?_
    rotate_left
    · show Act.put _ (some 70) _ = _
      simp only [Act.put, List.setIfInBounds_toArray, List.set_cons_zero, List.set_cons_succ, i64_w, i32_w]
      rfl
    refine pure_ (i := 9) (N := (some 71)) (v := ?_) (a' := ?_) #[true, true, true, true, true, true, true, true, true, true, false, false, false, false, false, false, false, false, false, false, false] rfl rfl (by kernel_rfl) (fun _ _ _ h => h) (Or.inl ⟨by rfl, ?_⟩) ?_ ?_
    rotate_left
    · intro w'
      go_simp
      with_reducible rfl
    rotate_left
    · simp only [Act.put, List.setIfInBounds_toArray, List.set_cons_zero, List.set_cons_succ, i64_w, i32_w]
      rfl
    refine pure_ (i := 10) (N := (some 72)) (v := ?_) (a' := ?_) #[true, true, true, true, true, true, true, true, true, true, true, false, false, false, false, false, false, false, false, false, false] rfl rfl (by kernel_rfl) (fun _ _ _ h => h) (Or.inl ⟨by rfl, ?_⟩) ?_ ?_
    rotate_left
    · intro w'
      go_simp
      with_reducible rfl
    rotate_left
    · simp only [Act.put, List.setIfInBounds_toArray, List.set_cons_zero, List.set_cons_succ, i64_w, i32_w]
      rfl
    refine pure_ (i := 11) (N := (some 73)) (v := ?_) (a' := ?_) #[true, true, true, true, true, true, true, true, true, true, true, true, false, false, false, false, false, false, false, false, false] rfl rfl (by kernel_rfl) (fun _ _ _ h => h) (Or.inl ⟨by rfl, ?_⟩) ?_ ?_
    rotate_left
    · intro w'
      go_simp
      with_reducible rfl
    rotate_left
    · simp only [Act.put, List.setIfInBounds_toArray, List.set_cons_zero, List.set_cons_succ, i64_w, i32_w]
      rfl
    refine pure_ (i := 12) (N := (some 74)) (v := ?_) (a' := ?_) #[true, true, true, true, true, true, true, true, true, true, true, true, true, false, false, false, false, false, false, false, false] rfl rfl (by kernel_rfl) (fun _ _ _ h => h) (Or.inl ⟨by rfl, ?_⟩) ?_ ?_
    rotate_left
    · intro w'
      go_simp
      with_reducible rfl
    rotate_left
    · simp only [Act.put, List.setIfInBounds_toArray, List.set_cons_zero, List.set_cons_succ, i64_w, i32_w]
      rfl
    refine pure_ (i := 13) (N := (some 75)) (v := ?_) (a' := ?_) #[true, true, true, true, true, true, true, true, true, true, true, true, true, true, false, false, false, false, false, false, false] rfl rfl (by kernel_rfl) (fun _ _ _ h => h) (Or.inl ⟨by rfl, ?_⟩) ?_ ?_
    rotate_left
    · intro w'
      go_simp
      with_reducible rfl
    rotate_left
    · simp only [Act.put, List.setIfInBounds_toArray, List.set_cons_zero, List.set_cons_succ, i64_w, i32_w]
      rfl
    refine pure_ (i := 14) (N := (some 76)) (v := ?_) (a' := ?_) #[true, true, true, true, true, true, true, true, true, true, true, true, true, true, true, false, false, false, false, false, false] rfl rfl (by kernel_rfl) (fun _ _ _ h => h) (Or.inl ⟨by rfl, ?_⟩) ?_ ?_
    rotate_left
    · intro w'
      go_simp
      with_reducible rfl
    rotate_left
    · simp only [Act.put, List.setIfInBounds_toArray, List.set_cons_zero, List.set_cons_succ, i64_w, i32_w]
      rfl
    refine pure_ (i := 15) (N := (some 77)) (v := ?_) (a' := ?_) #[true, true, true, true, true, true, true, true, true, true, true, true, true, true, true, true, false, false, false, false, false] rfl rfl (by kernel_rfl) (fun _ _ _ h => h) (Or.inl ⟨by rfl, ?_⟩) ?_ ?_
    rotate_left
    · intro w'
      go_simp
      with_reducible rfl
    rotate_left
    · simp only [Act.put, List.setIfInBounds_toArray, List.set_cons_zero, List.set_cons_succ, i64_w, i32_w]
      rfl
    refine pure_ (i := 16) (N := (some 78)) (v := ?_) (a' := ?_) #[true, true, true, true, true, true, true, true, true, true, true, true, true, true, true, true, true, false, false, false, false] rfl rfl (by kernel_rfl) (fun _ _ _ h => h) (Or.inl ⟨by rfl, ?_⟩) ?_ ?_
    rotate_left
    · intro w'
      go_simp
      with_reducible rfl
    rotate_left
    · simp only [Act.put, List.setIfInBounds_toArray, List.set_cons_zero, List.set_cons_succ, i64_w, i32_w]
      rfl
    refine take_ (i := 17) (N := (some 79)) (v := ?_) (a' := ?_) #[true, true, true, true, true, true, true, true, true, true, true, true, true, true, true, true, true, true, false, false, false] rfl rfl (by kernel_rfl) (fun _ _ _ h => h) (Or.inl ⟨by rfl, ?_⟩) hHeld ?_ ?_
    rotate_left
    · rintro w' hbw
      have y0 := pw_cell_below hbw s0; have y1 := pw_cell_below hbw s1
      go_simp
      with_reducible rfl
    rotate_left
    · simp only [Act.put, List.setIfInBounds_toArray, List.set_cons_zero, List.set_cons_succ, i64_w, i32_w]
      rfl
    refine pure_ (i := 18) (N := (some 80)) (v := ?_) (a' := ?_) #[true, true, true, true, true, true, true, true, true, true, true, true, true, true, true, true, true, true, true, false, false] rfl rfl (by kernel_rfl) (fun _ _ _ h => h) (Or.inl ⟨by rfl, ?_⟩) ?_ ?_
    rotate_left
    · intro w'
      go_simp
      with_reducible rfl
    rotate_left
    · simp only [Act.put, List.setIfInBounds_toArray, List.set_cons_zero, List.set_cons_succ, i64_w, i32_w]
      rfl
    refine pure_ (i := 19) (N := (some 81)) (v := ?_) (a' := ?_) #[true, true, true, true, true, true, true, true, true, true, true, true, true, true, true, true, true, true, true, true, false] rfl rfl (by kernel_rfl) (fun _ _ _ h => h) (Or.inl ⟨by rfl, ?_⟩) ?_ ?_
    rotate_left
    · intro w'
      go_simp
      with_reducible rfl
    rotate_left
    · simp only [Act.put, List.setIfInBounds_toArray, List.set_cons_zero, List.set_cons_succ, i64_w, i32_w]
      rfl
    refine pure_ (i := 20) (N := (some 82)) (v := ?_) (a' := ?_) #[true, true, true, true, true, true, true, true, true, true, true, true, true, true, true, true, true, true, true, true, true] rfl rfl (by kernel_rfl) (fun _ _ _ h => h) (Or.inl ⟨by rfl, ?_⟩) ?_ ?_
    rotate_left
    · intro w'
      go_simp
      with_reducible rfl
    rotate_left
    · simp only [Act.put, List.setIfInBounds_toArray, List.set_cons_zero, List.set_cons_succ, i64_w, i32_w]
      rfl
    refine done_ (by kernel_rfl) ?_
    have hb := hHeld
    replace HB := HB.trans (hb.mono HB.size)
    replace hC4 := Kd.C_below hC4 hb
    clear hb
    have hcutk : ∀ W : World, (Instr.slice 22 (.slice A4 a.length c4) none (some (.int .i64 (k : Int))) none).run Tryd.prog W = .ok (.slice A4 ak.length c4) W := by
      have h := cut_to (P := Tryd.prog) 22 5 .i64 Tryd.underlying22 hi5 A4 a.length c4 (k : Int) (by omega) (by have := K0.out; omega) hc4
      have e : ((k : Int)).toNat = ak.length := by rw [Int.toNat_natCast]; exact KL.out
      rw [e] at h
      exact h
    clear hHeld hM hM7 hM11 hF7 hF11 hC1 hC7 hC10 hC11 x0 x1 x2 x3 x4 n0 n1 n2 n3 n4 u0 u1 s0 s1
    go_wp2_with fail
    refine (get_calls _ (hG.below HB) (hO.below HB) A4 c4 ak (KT.out _ _ hC4) (by have := L6.out; have := K0.out; have := KL.out; omega) KB.out 0 0 0 0 [] 2 0 [] KR.out).mono ?_
    rintro e w12 ⟨A12, c12, D12, d12, rfl, hC12, hc12, hD12, hd12, hb⟩
    replace HB := HB.trans (hb.mono HB.size)
    replace hC4 := Kd.C_below hC4 hb
    clear hb hD12 hd12
    have hM12 := blk_new w12 (.cells #[.int .u8 0, .int .u16 0, .int .u16 0, .int .u32 0, .slice A12 0 c12] 41)
    have hb := below_alloc (Below.refl w12.heap.size w12) (.cells #[.int .u8 0, .int .u16 0, .int .u16 0, .int .u32 0, .slice A12 0 c12] 41)
    obtain ⟨wa, hwa⟩ : ∃ wa, w12.alloc (.cells #[.int .u8 0, .int .u16 0, .int .u16 0, .int .u32 0, .slice A12 0 c12] 41) = wa := ⟨_, rfl⟩
    have sa : wa.heap.size = w12.heap.size + 1 := by rw [← hwa]; simp
    rw [hwa] at hb hM12
    have hF12 := FB.new wa 2 0
    have hb2 := below_alloc (Below.refl wa.heap.size wa) (.cells #[.int .u8 2, .int .u8 0] 26)
    replace hM12 := blk_below hM12 hb2
    replace hb := hb.trans (hb2.mono hb.size)
    rw [sa] at hF12
    subst hwa
    replace HB := HB.trans (hb.mono HB.size)
    replace hC4 := Kd.C_below hC4 hb
    replace hC12 := Kd.C_below hC12 hb
    clear hb hb2 sa
    go_upto_region 12 with fail
    generalize (w12.alloc (.cells #[.int .u8 0, .int .u16 0, .int .u16 0, .int .u32 0, .slice A12 0 c12] 41)).alloc (.cells #[.int .u8 2, .int .u8 0] 26) = w12b at *
    have s0 := hF12.c0
    have s1 := hF12.c1
    have hCy := Kd.C_below Y3.out HB
    obtain ⟨⟨ver', an', hold', id', q⟩, f0, f1, dq, hgo, hq⟩ := YA.out
    have HGO := Aside0.mk hgo
    rcases hq with ⟨rfl, hoz, hf1⟩ | ⟨rfl, rfl, rfl, hv4, ha', hh', hi', hql, b2, hb2, hb2l, hb2b, hgb2⟩
    · injection hoz with z1 z2 z3 z4 z5
      subst z1 z2 z3 z4 z5
      clear hgo
      rcases hf1 with rfl | rfl | rfl
      · go_wp2_with fail
        refine (get_calls _ (hG.below HB) (hO.below HB) B cb ys hCy (by have := Y7.out; omega) Y4.out _ _ _ _ _ _ _ _ HGO.out).mono ?_
        rintro e w20 ⟨A20, c20, D20, d20, rfl, hC20, hc20, hD20, hd20, hb⟩
        replace HB := HB.trans (hb.mono HB.size)
        clear hb hD20 hd20
        have hM20 := blk_new w20 (.cells #[.int .u8 0, .int .u16 0, .int .u16 0, .int .u32 0, .slice A20 0 c20] 41)
        have hb := below_alloc (Below.refl w20.heap.size w20) (.cells #[.int .u8 0, .int .u16 0, .int .u16 0, .int .u32 0, .slice A20 0 c20] 41)
        obtain ⟨wa, hwa⟩ : ∃ wa, w20.alloc (.cells #[.int .u8 0, .int .u16 0, .int .u16 0, .int .u32 0, .slice A20 0 c20] 41) = wa := ⟨_, rfl⟩
        have sa : wa.heap.size = w20.heap.size + 1 := by rw [← hwa]; simp
        rw [hwa] at hb hM20
        have hF20 := FB.new wa 2 0
        have hb2 := below_alloc (Below.refl wa.heap.size wa) (.cells #[.int .u8 2, .int .u8 0] 26)
        replace hM20 := blk_below hM20 hb2
        replace hb := hb.trans (hb2.mono hb.size)
        rw [sa] at hF20
        subst hwa
        replace HB := HB.trans (hb.mono HB.size)
        replace hC20 := Kd.C_below hC20 hb
        clear hb hb2 sa
        go_upto_region 16 with fail
        generalize (w20.alloc (.cells #[.int .u8 0, .int .u16 0, .int .u16 0, .int .u32 0, .slice A20 0 c20] 41)).alloc (.cells #[.int .u8 2, .int .u8 0] 26) = w20b at *
        have x0 := blk_cell hM20 0
        have x1 := blk_cell hM20 1
        have x2 := blk_cell hM20 2
        have x3 := blk_cell hM20 3
        have x4 := blk_cell hM20 4
        simp at x0 x1 x2 x3 x4
        have u0 := hF20.c0
        have u1 := hF20.c1
        go_wp2_with fail
        refine (tells_calls _ (hG.below HB) (hU.below HB) (hO.below HB)).mono ?_
        rintro e w30 ⟨rfl, hb⟩
        replace HB := HB.trans (hb.mono HB.size)
        go_wp2
        go_ret
        exact ⟨rfl, HB⟩
      · go_wp2_with fail
        refine (get_calls _ (hG.below HB) (hO.below HB) B cb ys hCy (by have := Y7.out; omega) Y4.out _ _ _ _ _ _ _ _ HGO.out).mono ?_
        rintro e w20 ⟨A20, c20, D20, d20, rfl, hC20, hc20, hD20, hd20, hb⟩
        replace HB := HB.trans (hb.mono HB.size)
        clear hb hD20 hd20
        have hM20 := blk_new w20 (.cells #[.int .u8 0, .int .u16 0, .int .u16 0, .int .u32 0, .slice A20 0 c20] 41)
        have hb := below_alloc (Below.refl w20.heap.size w20) (.cells #[.int .u8 0, .int .u16 0, .int .u16 0, .int .u32 0, .slice A20 0 c20] 41)
        obtain ⟨wa, hwa⟩ : ∃ wa, w20.alloc (.cells #[.int .u8 0, .int .u16 0, .int .u16 0, .int .u32 0, .slice A20 0 c20] 41) = wa := ⟨_, rfl⟩
        have sa : wa.heap.size = w20.heap.size + 1 := by rw [← hwa]; simp
        rw [hwa] at hb hM20
        have hF20 := FB.new wa 2 1
        have hb2 := below_alloc (Below.refl wa.heap.size wa) (.cells #[.int .u8 2, .int .u8 1] 26)
        replace hM20 := blk_below hM20 hb2
        replace hb := hb.trans (hb2.mono hb.size)
        rw [sa] at hF20
        subst hwa
        replace HB := HB.trans (hb.mono HB.size)
        replace hC20 := Kd.C_below hC20 hb
        clear hb hb2 sa
        go_upto_region 16 with fail
        generalize (w20.alloc (.cells #[.int .u8 0, .int .u16 0, .int .u16 0, .int .u32 0, .slice A20 0 c20] 41)).alloc (.cells #[.int .u8 2, .int .u8 1] 26) = w20b at *
        have x0 := blk_cell hM20 0
        have x1 := blk_cell hM20 1
        have x2 := blk_cell hM20 2
        have x3 := blk_cell hM20 3
        have x4 := blk_cell hM20 4
        simp at x0 x1 x2 x3 x4
        have u0 := hF20.c0
        have u1 := hF20.c1
        go_wp2_with fail
        refine (tells_calls _ (hG.below HB) (hU.below HB) (hO.below HB)).mono ?_
        rintro e w30 ⟨rfl, hb⟩
        replace HB := HB.trans (hb.mono HB.size)
        go_wp2
        go_ret
        exact ⟨rfl, HB⟩
      · go_wp2_with fail
        refine (get_calls _ (hG.below HB) (hO.below HB) B cb ys hCy (by have := Y7.out; omega) Y4.out _ _ _ _ _ _ _ _ HGO.out).mono ?_
        rintro e w20 ⟨A20, c20, D20, d20, rfl, hC20, hc20, hD20, hd20, hb⟩
        replace HB := HB.trans (hb.mono HB.size)
        clear hb hD20 hd20
        have hM20 := blk_new w20 (.cells #[.int .u8 0, .int .u16 0, .int .u16 0, .int .u32 0, .slice A20 0 c20] 41)
        have hb := below_alloc (Below.refl w20.heap.size w20) (.cells #[.int .u8 0, .int .u16 0, .int .u16 0, .int .u32 0, .slice A20 0 c20] 41)
        obtain ⟨wa, hwa⟩ : ∃ wa, w20.alloc (.cells #[.int .u8 0, .int .u16 0, .int .u16 0, .int .u32 0, .slice A20 0 c20] 41) = wa := ⟨_, rfl⟩
        have sa : wa.heap.size = w20.heap.size + 1 := by rw [← hwa]; simp
        rw [hwa] at hb hM20
        have hF20 := FB.new wa 2 4
        have hb2 := below_alloc (Below.refl wa.heap.size wa) (.cells #[.int .u8 2, .int .u8 4] 26)
        replace hM20 := blk_below hM20 hb2
        replace hb := hb.trans (hb2.mono hb.size)
        rw [sa] at hF20
        subst hwa
        replace HB := HB.trans (hb.mono HB.size)
        replace hC20 := Kd.C_below hC20 hb
        clear hb hb2 sa
        go_upto_region 16 with fail
        generalize (w20.alloc (.cells #[.int .u8 0, .int .u16 0, .int .u16 0, .int .u32 0, .slice A20 0 c20] 41)).alloc (.cells #[.int .u8 2, .int .u8 4] 26) = w20b at *
        have x0 := blk_cell hM20 0
        have x1 := blk_cell hM20 1
        have x2 := blk_cell hM20 2
        have x3 := blk_cell hM20 3
        have x4 := blk_cell hM20 4
        simp at x0 x1 x2 x3 x4
        have u0 := hF20.c0
        have u1 := hF20.c1
        go_wp2_with fail
        refine (tells_calls _ (hG.below HB) (hU.below HB) (hO.below HB)).mono ?_
        rintro e w30 ⟨rfl, hb⟩
        replace HB := HB.trans (hb.mono HB.size)
        go_wp2
        go_ret
        exact ⟨rfl, HB⟩
    · obtain rfl : ver' = 4 := hv4
      simp only at ha' hh' hi' hql hb2 hgb2
      have S1 := Aside0.mk (fun w A c hC hc => oPut_calls w A c q hC hc (by omega) 4 an' hold' id' ha' hh' hi' (caps_le q))
      rw [hb2] at S1
      simp only at S1
      have S2 := Aside0.mk (of6 q (by omega) 4 an' hold' id' (by decide) ha' hh')
      have S3 := Aside0.mk (like6 (q.map cap99) (by rw [List.length_map]; omega) 4 an' hold' id')
      have ql9 : (q.map cap99).length = q.length := List.length_map ..
      generalize q.map cap99 = q9 at *
      have S4 := Aside0.mk hgb2
      have S5 := Aside0.mk hb2b
      have S6 := Aside0.mk hb2l
      have S7 := Aside0.mk ql9
      have S8 := Aside0.mk hql
      have d1 : decide ((b2.length : Int) ≤ ys.length) = true := decide_eq_true (by omega)
      have d2 : decide (b2.length ≤ ys.length) = true := decide_eq_true hb2l
      clear hgo hb2 hgb2 hb2b hb2l ql9 hql ha' hh' hi'
      go_wp2_with fail
      refine (get_calls _ (hG.below HB) (hO.below HB) B cb ys hCy (by have := Y7.out; omega) Y4.out _ _ _ _ _ _ _ _ HGO.out).mono ?_
      rintro e w20 ⟨A20, c20, D20, d20, rfl, hC20, hc20, hD20, hd20, hb⟩
      replace HB := HB.trans (hb.mono HB.size)
      clear hb hD20 hd20
      have hM20 := blk_new w20 (.cells #[.int .u8 4, .int .u16 an', .int .u16 hold', .int .u32 id', .slice A20 q.length c20] 41)
      have hb := below_alloc (Below.refl w20.heap.size w20) (.cells #[.int .u8 4, .int .u16 an', .int .u16 hold', .int .u32 id', .slice A20 q.length c20] 41)
      obtain ⟨wa, hwa⟩ : ∃ wa, w20.alloc (.cells #[.int .u8 4, .int .u16 an', .int .u16 hold', .int .u32 id', .slice A20 q.length c20] 41) = wa := ⟨_, rfl⟩
      have sa : wa.heap.size = w20.heap.size + 1 := by rw [← hwa]; simp
      rw [hwa] at hb hM20
      have hF20 := FB.new wa 0 0
      have hb2 := below_alloc (Below.refl wa.heap.size wa) (.cells #[.int .u8 0, .int .u8 0] 26)
      replace hM20 := blk_below hM20 hb2
      replace hb := hb.trans (hb2.mono hb.size)
      rw [sa] at hF20
      subst hwa
      replace HB := HB.trans (hb.mono HB.size)
      replace hC20 := Kd.C_below hC20 hb
      clear hb hb2 sa
      go_upto_region 16 with fail
      generalize (w20.alloc (.cells #[.int .u8 4, .int .u16 an', .int .u16 hold', .int .u32 id', .slice A20 q.length c20] 41)).alloc (.cells #[.int .u8 0, .int .u8 0] 26) = w20b at *
      have x0 := blk_cell hM20 0
      have x1 := blk_cell hM20 1
      have x2 := blk_cell hM20 2
      have x3 := blk_cell hM20 3
      have x4 := blk_cell hM20 4
      simp at x0 x1 x2 x3 x4
      have u0 := hF20.c0
      have u1 := hF20.c1
      go_wp2_with fail
      refine (S1.out _ A20 c20 hC20 hc20).mono ?_
      rintro e w21 ⟨v21, rfl, hv21, hb⟩
      replace HB := HB.trans (hb.mono HB.size)
      clear u0 u1
      clear x0 x1 x2 x3 x4
      replace hC20 := Kd.C_below hC20 hb
      replace hM20 := blk_below hM20 hb
      replace hF20 := hF20.below hb
      obtain ⟨A21, c21, rfl, hc21, hC21⟩ := Kd.R_reads hv21
      clear hb hv21
      go_wp2_with fail
      refine (get_calls _ (hG.below HB) (hO.below HB) A21 c21 b2 hC21 (by have := Y7.out; have := S6.out; omega) S5.out _ _ _ _ _ _ _ _ S4.out).mono ?_
      rintro e w22 ⟨A22, c22, D22, d22, rfl, hC22, hc22, hD22, hd22, hb⟩
      replace HB := HB.trans (hb.mono HB.size)
      replace hC20 := Kd.C_below hC20 hb
      replace hM20 := blk_below hM20 hb
      replace hF20 := hF20.below hb
      replace hC21 := Kd.C_below hC21 hb
      clear hb hD22 hd22
      have hM22 := blk_new w22 (.cells #[.int .u8 4, .int .u16 an', .int .u16 hold', .int .u32 id', .slice A22 q.length c22] 41)
      have hb := below_alloc (Below.refl w22.heap.size w22) (.cells #[.int .u8 4, .int .u16 an', .int .u16 hold', .int .u32 id', .slice A22 q.length c22] 41)
      obtain ⟨wa, hwa⟩ : ∃ wa, w22.alloc (.cells #[.int .u8 4, .int .u16 an', .int .u16 hold', .int .u32 id', .slice A22 q.length c22] 41) = wa := ⟨_, rfl⟩
      have sa : wa.heap.size = w22.heap.size + 1 := by rw [← hwa]; simp
      rw [hwa] at hb hM22
      have hF22 := FB.new wa 0 0
      have hb2 := below_alloc (Below.refl wa.heap.size wa) (.cells #[.int .u8 0, .int .u8 0] 26)
      replace hM22 := blk_below hM22 hb2
      replace hb := hb.trans (hb2.mono hb.size)
      rw [sa] at hF22
      subst hwa
      replace HB := HB.trans (hb.mono HB.size)
      replace hC20 := Kd.C_below hC20 hb
      replace hM20 := blk_below hM20 hb
      replace hF20 := hF20.below hb
      replace hC21 := Kd.C_below hC21 hb
      replace hC22 := Kd.C_below hC22 hb
      clear hb hb2 sa
      go_upto_region 22 with fail
      generalize (w22.alloc (.cells #[.int .u8 4, .int .u16 an', .int .u16 hold', .int .u32 id', .slice A22 q.length c22] 41)).alloc (.cells #[.int .u8 0, .int .u8 0] 26) = w22b at *
      have x0 := blk_cell hM20 0
      have x1 := blk_cell hM20 1
      have x2 := blk_cell hM20 2
      have x3 := blk_cell hM20 3
      have x4 := blk_cell hM20 4
      simp at x0 x1 x2 x3 x4
      have n0 := blk_cell hM22 0
      have n1 := blk_cell hM22 1
      have n2 := blk_cell hM22 2
      have n3 := blk_cell hM22 3
      have n4 := blk_cell hM22 4
      simp at n0 n1 n2 n3 n4
      have u0 := hF22.c0
      have u1 := hF22.c1
      refine start_ (n := 26) (S := fun w' => Below w22b.heap.size w22b w') (ds := []) #[false, false, false, false, false, false, false, false, false, false, false, false, false, false, false, false, false, false, false, false, false, false, false, false, false, false] (by kernel_rfl) rfl rfl (below_drew (Below.refl _ _)) (fun hHeld => ?_)
      refine take_ (i := 0) (N := (some 158)) (v := ?_) (a' := ?_) #[true, false, false, false, false, false, false, false, false, false, false, false, false, false, false, false, false, false, false, false, false, false, false, false, false, false] rfl rfl (by kernel_rfl) (fun _ _ _ h => h) (Or.inl ⟨by rfl, ?_⟩) hHeld ?_ ?_
      rotate_left
      · rintro w' hbw
        have y0 := pw_cell_below hbw u0; have y1 := pw_cell_below hbw u1
        go_simp
        with_reducible rfl
      rotate_left
      · simp only [Act.put, List.setIfInBounds_toArray, List.set_cons_zero, List.set_cons_succ, i64_w, i32_w]
        rfl
      refine pure_ (i := 1) (N := (some 159)) (v := ?_) (a' := ?_) #[true, true, false, false, false, false, false, false, false, false, false, false, false, false, false, false, false, false, false, false, false, false, false, false, false, false] rfl rfl (by kernel_rfl) (fun _ _ _ h => h) (Or.inl ⟨by rfl, ?_⟩) ?_ ?_
      rotate_left
      · intro w'
        go_simp
        with_reducible rfl
      rotate_left
      · simp only [Act.put, List.setIfInBounds_toArray, List.set_cons_zero, List.set_cons_succ, i64_w, i32_w]
        rfl
      refine pure_ (i := 2) (N := (some 160)) (v := ?_) (a' := ?_) #[true, true, true, false, false, false, false, false, false, false, false, false, false, false, false, false, false, false, false, false, false, false, false, false, false, false] rfl rfl (by kernel_rfl) (fun _ _ _ h => h) (Or.inl ⟨by rfl, ?_⟩) ?_ ?_
      rotate_left
      · intro w'
        go_simp
        with_reducible rfl
      rotate_left
      · simp only [Act.put, List.setIfInBounds_toArray, List.set_cons_zero, List.set_cons_succ, i64_w, i32_w]
        rfl
      refine pure_ (i := 3) (N := (some 161)) (v := ?_) (a' := ?_) #[true, true, true, true, false, false, false, false, false, false, false, false, false, false, false, false, false, false, false, false, false, false, false, false, false, false] rfl rfl (by kernel_rfl) (fun _ _ _ h => h) (Or.inl ⟨by rfl, ?_⟩) ?_ ?_
      rotate_left
      · intro w'
        go_simp
        with_reducible rfl
      rotate_left
      · simp only [Act.put, List.setIfInBounds_toArray, List.set_cons_zero, List.set_cons_succ, i64_w, i32_w]
        rfl
      refine pure_ (i := 4) (N := (some 162)) (v := ?_) (a' := ?_) #[true, true, true, true, true, false, false, false, false, false, false, false, false, false, false, false, false, false, false, false, false, false, false, false, false, false] rfl rfl (by kernel_rfl) (fun _ _ _ h => h) (Or.inl ⟨by rfl, ?_⟩) ?_ ?_
      rotate_left
      · intro w'
        go_simp
        with_reducible rfl
      rotate_left
      · simp only [Act.put, List.setIfInBounds_toArray, List.set_cons_zero, List.set_cons_succ, i64_w, i32_w]
        rfl
      refine pure_ (i := 5) (N := (some 163)) (v := ?_) (a' := ?_) #[true, true, true, true, true, true, false, false, false, false, false, false, false, false, false, false, false, false, false, false, false, false, false, false, false, false] rfl rfl (by kernel_rfl) (fun _ _ _ h => h) (Or.inl ⟨by rfl, ?_⟩) ?_ ?_
      rotate_left
      · intro w'
        go_simp
        with_reducible rfl
      rotate_left
      · simp only [Act.put, List.setIfInBounds_toArray, List.set_cons_zero, List.set_cons_succ, i64_w, i32_w]
        rfl
      refine pure_ (i := 6) (N := (some 164)) (v := ?_) (a' := ?_) #[true, true, true, true, true, true, true, false, false, false, false, false, false, false, false, false, false, false, false, false, false, false, false, false, false, false] rfl rfl (by kernel_rfl) (fun _ _ _ h => h) (Or.inl ⟨by rfl, ?_⟩) ?_ ?_
      rotate_left
      · intro w'
        go_simp
        with_reducible rfl
      rotate_left
      · simp only [Act.put, List.setIfInBounds_toArray, List.set_cons_zero, List.set_cons_succ, i64_w, i32_w]
        rfl
      refine pure_ (i := 7) (N := (some 165)) (v := ?_) (a' := ?_) #[true, true, true, true, true, true, true, true, false, false, false, false, false, false, false, false, false, false, false, false, false, false, false, false, false, false] rfl rfl (by kernel_rfl) (fun _ _ _ h => h) (Or.inl ⟨by rfl, ?_⟩) ?_ ?_
      rotate_left
      · intro w'
        go_simp
        with_reducible rfl
      rotate_left
      · simp only [Act.put, List.setIfInBounds_toArray, List.set_cons_zero, List.set_cons_succ, i64_w, i32_w]
        rfl
      refine pure_ (i := 8) (N := (some 166)) (v := ?_) (a' := ?_) #[true, true, true, true, true, true, true, true, true, false, false, false, false, false, false, false, false, false, false, false, false, false, false, false, false, false] rfl rfl (by kernel_rfl) (fun _ _ _ h => h) (Or.inl ⟨by rfl, ?_⟩) ?_ ?_
      rotate_left
      · intro w'
        go_simp
        with_reducible rfl
      rotate_left
      · simp only [Act.put, List.setIfInBounds_toArray, List.set_cons_zero, List.set_cons_succ, i64_w, i32_w]
        rfl
      refine pure_ (i := 9) (N := (some 167)) (v := ?_) (a' := ?_) #[true, true, true, true, true, true, true, true, true, true, false, false, false, false, false, false, false, false, false, false, false, false, false, false, false, false] rfl rfl (by kernel_rfl) (fun _ _ _ h => h) (Or.inl ⟨by rfl, ?_⟩) ?_ ?_
      rotate_left
      · intro w'
        go_simp
        with_reducible rfl
      rotate_left
      · simp only [Act.put, List.setIfInBounds_toArray, List.set_cons_zero, List.set_cons_succ, i64_w, i32_w]
        rfl
      refine pure_ (i := 10) (N := (some 168)) (v := ?_) (a' := ?_) #[true, true, true, true, true, true, true, true, true, true, true, false, false, false, false, false, false, false, false, false, false, false, false, false, false, false] rfl rfl (by kernel_rfl) (fun _ _ _ h => h) (Or.inl ⟨by rfl, ?_⟩) ?_ ?_
      rotate_left
      · intro w'
        go_simp
        with_reducible rfl
      rotate_left
      · simp only [Act.put, List.setIfInBounds_toArray, List.set_cons_zero, List.set_cons_succ, i64_w, i32_w]
        rfl
      refine take_ (i := 11) (N := (some 169)) (v := ?_) (a' := ?_) #[true, true, true, true, true, true, true, true, true, true, true, true, false, false, false, false, false, false, false, false, false, false, false, false, false, false] rfl rfl (by kernel_rfl) (fun _ _ _ h => h) (Or.inl ⟨by rfl, ?_⟩) hHeld ?_ ?_
      rotate_left
      · rintro w' hbw
        have y0 := pw_cell_below hbw n0; have y1 := pw_cell_below hbw n1; have y2 := pw_cell_below hbw n2; have y3 := pw_cell_below hbw n3; have y4 := pw_cell_below hbw n4
        go_simp
        with_reducible rfl
      rotate_left
      · simp only [Act.put, List.setIfInBounds_toArray, List.set_cons_zero, List.set_cons_succ, i64_w, i32_w]
        rfl
      refine take_ (i := 13) (N := (some 171)) (v := ?_) (a' := ?_) #[true, true, true, true, true, true, true, true, true, true, true, true, false, true, false, false, false, false, false, false, false, false, false, false, false, false] rfl rfl (by kernel_rfl) (fun _ _ _ h => h) (Or.inl ⟨by rfl, ?_⟩) hHeld ?_ ?_
      rotate_left
      · rintro w' hbw
        have y0 := pw_cell_below hbw x0; have y1 := pw_cell_below hbw x1; have y2 := pw_cell_below hbw x2; have y3 := pw_cell_below hbw x3; have y4 := pw_cell_below hbw x4
        go_simp
        with_reducible rfl
      rotate_left
      · simp only [Act.put, List.setIfInBounds_toArray, List.set_cons_zero, List.set_cons_succ, i64_w, i32_w]
        rfl
      refine one_ (i := 12) (N := (some 170)) #[true, true, true, true, true, true, true, true, true, true, true, true, true, true, false, false, false, false, false, false, false, false, false, false, false, false] rfl rfl (by kernel_rfl) (by decide) (fun K hK => ?_)
      refine goes_ Tryd.func24 (by kernel_rfl) rfl #[.agg #[.int .u8 4, .int .u16 an', .int .u16 hold', .int .u32 id', .slice A22 q.length c22]] (by rfl) rfl rfl (by simp [Act.eval]) ?_
      refine (PA.consulatelaw06_Of.calls (q.length + 1) 4 an' hold' id' (fun k => k < w22b.drew.heap.size) A22 c22 q 4 an' hold' id' q9 w22b.drew (Kd.V_mk hc22 (Kd.C_F PA.k61_heap (Kd.C_drew hC22))) S2.out).mono ?_
      rintro e wg ⟨v_wg, rfl, hv_wg, hb_wg⟩
      obtain ⟨A_wg, c_wg, rfl, hc_wg, hC_wg⟩ := Kd.N_reads hv_wg
      have h_wg := hHeld.trans (hb_wg.mono hHeld.size)
      refine ⟨_, rfl, ?_⟩
      refine hK.out _ _ (h_wg) (fun hHeld => ?_)
      clear hK K
      refine norm_ (a' := ?_) ?_ ?_
      rotate_left
      · show Act.put _ (some 170) _ = _
        simp only [Act.put, List.setIfInBounds_toArray, List.set_cons_zero, List.set_cons_succ, i64_w, i32_w]
        rfl
      refine one_ (i := 14) (N := (some 172)) #[true, true, true, true, true, true, true, true, true, true, true, true, true, true, true, false, false, false, false, false, false, false, false, false, false, false] rfl rfl (by kernel_rfl) (by decide) (fun K hK => ?_)
      refine goes_ Tryd.func24 (by kernel_rfl) rfl #[.agg #[.int .u8 4, .int .u16 an', .int .u16 hold', .int .u32 id', .slice A20 q.length c20]] (by rfl) rfl rfl (by simp [Act.eval]) ?_
      refine (PA.consulatelaw06_Of.calls (q.length + 1) 4 an' hold' id' (fun k => k < wg.heap.size) A20 c20 q 4 an' hold' id' q9 wg (Kd.V_mk hc20 (Kd.C_F PA.k61_heap (Kd.C_below hC20 h_wg))) S2.out).mono ?_
      rintro e wh ⟨v_wh, rfl, hv_wh, hb_wh⟩
      obtain ⟨A_wh, c_wh, rfl, hc_wh, hC_wh⟩ := Kd.N_reads hv_wh
      have h_wh := hHeld.trans (hb_wh.mono hHeld.size)
      replace hC_wg := Kd.C_below hC_wg hb_wh
      refine ⟨_, rfl, ?_⟩
      refine hK.out _ _ (h_wh) (fun hHeld => ?_)
      clear hK K
      refine norm_ (a' := ?_) ?_ ?_
      rotate_left
      · show Act.put _ (some 172) _ = _
        simp only [Act.put, List.setIfInBounds_toArray, List.set_cons_zero, List.set_cons_succ, i64_w, i32_w]
        rfl
      refine one_ (i := 15) (N := (some 173)) #[true, true, true, true, true, true, true, true, true, true, true, true, true, true, true, true, false, false, false, false, false, false, false, false, false, false] rfl rfl (by kernel_rfl) (by decide) (fun K hK => ?_)
      refine goes_ Tryd.func23 (by kernel_rfl) rfl #[.agg #[.int .i64 4, .int .i64 an', .int .i64 hold', .int .u32 id', .slice A_wg q9.length c_wg], .agg #[.int .i64 4, .int .i64 an', .int .i64 hold', .int .u32 id', .slice A_wh q9.length c_wh]] (by rfl) rfl rfl (by simp [Act.eval]) ?_
      refine (PA.consulatelaw06_Like.calls (q9.length + 2) 4 an' hold' id' A_wg c_wg q9 4 an' hold' id' A_wh c_wh q9 true wh hC_wg hc_wg hC_wh hc_wh S3.out).mono ?_
      rintro e wi ⟨rfl, hb_wi⟩
      have h_wi := hHeld.trans (hb_wi.mono hHeld.size)
      refine ⟨_, rfl, ?_⟩
      refine hK.out _ _ (h_wi) (fun hHeld => ?_)
      clear hK K
      refine norm_ (a' := ?_) ?_ ?_
      rotate_left
      · show Act.put _ (some 173) _ = _
        simp only [Act.put, List.setIfInBounds_toArray, List.set_cons_zero, List.set_cons_succ, i64_w, i32_w]
        rfl
      refine pure_ (i := 16) (N := (some 174)) (v := ?_) (a' := ?_) #[true, true, true, true, true, true, true, true, true, true, true, true, true, true, true, true, true, false, false, false, false, false, false, false, false, false] rfl rfl (by kernel_rfl) (fun _ _ _ h => h) (Or.inl ⟨by rfl, ?_⟩) ?_ ?_
      rotate_left
      · intro w'
        go_simp
        with_reducible rfl
      rotate_left
      · simp only [Act.put, List.setIfInBounds_toArray, List.set_cons_zero, List.set_cons_succ, i64_w, i32_w]
        rfl
      refine pure_ (i := 17) (N := (some 175)) (v := ?_) (a' := ?_) #[true, true, true, true, true, true, true, true, true, true, true, true, true, true, true, true, true, true, false, false, false, false, false, false, false, false] rfl rfl (by kernel_rfl) (fun _ _ _ h => h) (Or.inl ⟨by rfl, ?_⟩) ?_ ?_
      rotate_left
      · intro w'
        go_simp
        with_reducible rfl
      rotate_left
      · simp only [Act.put, List.setIfInBounds_toArray, List.set_cons_zero, List.set_cons_succ, i64_w, i32_w]
        rfl
      refine pure_ (i := 18) (N := (some 176)) (v := ?_) (a' := ?_) #[true, true, true, true, true, true, true, true, true, true, true, true, true, true, true, true, true, true, true, false, false, false, false, false, false, false] rfl rfl (by kernel_rfl) (fun _ _ _ h => h) (Or.inl ⟨by rfl, ?_⟩) ?_ ?_
      rotate_left
      · intro w'
        go_simp
        with_reducible rfl
      rotate_left
      · simp only [Act.put, List.setIfInBounds_toArray, List.set_cons_zero, List.set_cons_succ, i64_w, i32_w]
        rfl
      refine take_ (i := 19) (N := (some 177)) (v := ?_) (a' := ?_) #[true, true, true, true, true, true, true, true, true, true, true, true, true, true, true, true, true, true, true, true, false, false, false, false, false, false] rfl rfl (by kernel_rfl) (fun _ _ _ h => h) (Or.inl ⟨by rfl, ?_⟩) hHeld ?_ ?_
      rotate_left
      · rintro w' hbw
        have y0 := pw_cell_below hbw x0
        go_simp
        with_reducible rfl
      rotate_left
      · simp only [Act.put, List.setIfInBounds_toArray, List.set_cons_zero, List.set_cons_succ, i64_w, i32_w]
        rfl
      refine pure_ (i := 20) (N := (some 178)) (v := ?_) (a' := ?_) #[true, true, true, true, true, true, true, true, true, true, true, true, true, true, true, true, true, true, true, true, true, false, false, false, false, false] rfl rfl (by kernel_rfl) (fun _ _ _ h => h) (Or.inl ⟨by rfl, ?_⟩) ?_ ?_
      rotate_left
      · intro w'
        go_simp
        with_reducible rfl
      rotate_left
      · simp only [Act.put, List.setIfInBounds_toArray, List.set_cons_zero, List.set_cons_succ, i64_w, i32_w]
        rfl
      refine pure_ (i := 21) (N := (some 179)) (v := ?_) (a' := ?_) #[true, true, true, true, true, true, true, true, true, true, true, true, true, true, true, true, true, true, true, true, true, true, false, false, false, false] rfl rfl (by kernel_rfl) (fun _ _ _ h => h) (Or.inl ⟨by rfl, ?_⟩) ?_ ?_
      rotate_left
      · intro w'
        go_simp
        with_reducible rfl
      rotate_left
      · simp only [Act.put, List.setIfInBounds_toArray, List.set_cons_zero, List.set_cons_succ, i64_w, i32_w]
        rfl
      refine pure_ (i := 22) (N := (some 180)) (v := ?_) (a' := ?_) #[true, true, true, true, true, true, true, true, true, true, true, true, true, true, true, true, true, true, true, true, true, true, true, false, false, false] rfl rfl (by kernel_rfl) (fun _ _ _ h => h) (Or.inl ⟨by rfl, ?_⟩) ?_ ?_
      rotate_left
      · intro w'
        go_simp
        with_reducible rfl
      rotate_left
      · simp only [Act.put, List.setIfInBounds_toArray, List.set_cons_zero, List.set_cons_succ, i64_w, i32_w]
        rfl
      refine one_ (i := 23) (N := (some 181)) #[true, true, true, true, true, true, true, true, true, true, true, true, true, true, true, true, true, true, true, true, true, true, true, true, false, false] rfl rfl (by kernel_rfl) (by decide) (fun K hK => ?_)
      refine goes_ Tryd.func25 (by kernel_rfl) rfl #[] (by rfl) rfl rfl (by simp [Act.eval]) ?_
      refine (tells_calls wi (hG.below (HB.trans (hHeld.mono HB.size))) (hU.below (HB.trans (hHeld.mono HB.size))) (hO.below (HB.trans (hHeld.mono HB.size)))).mono ?_
      rintro e wj ⟨rfl, hb_wj⟩
      have h_wj := hHeld.trans (hb_wj.mono hHeld.size)
      refine ⟨_, rfl, ?_⟩
      refine hK.out _ _ (h_wj) (fun hHeld => ?_)
      clear hK K
      refine norm_ (a' := ?_) ?_ ?_
      rotate_left
      · show Act.put _ (some 181) _ = _
        simp only [Act.put, List.setIfInBounds_toArray, List.set_cons_zero, List.set_cons_succ, i64_w, i32_w]
        rfl
      refine pure_ (i := 24) (N := (some 182)) (v := ?_) (a' := ?_) #[true, true, true, true, true, true, true, true, true, true, true, true, true, true, true, true, true, true, true, true, true, true, true, true, true, false] rfl rfl (by kernel_rfl) (fun _ _ _ h => h) (Or.inl ⟨by rfl, ?_⟩) ?_ ?_
      rotate_left
      · intro w'
        go_simp
        with_reducible rfl
      rotate_left
      · simp only [Act.put, List.setIfInBounds_toArray, List.set_cons_zero, List.set_cons_succ, i64_w, i32_w]
        rfl
      refine pure_ (i := 25) (N := (some 6)) (v := ?_) (a' := ?_) #[true, true, true, true, true, true, true, true, true, true, true, true, true, true, true, true, true, true, true, true, true, true, true, true, true, true] rfl rfl (by kernel_rfl) (fun _ _ _ h => h) (Or.inl ⟨by rfl, ?_⟩) ?_ ?_
      rotate_left
      · intro w'
        go_simp
        with_reducible rfl
      rotate_left
      · simp only [Act.put, List.setIfInBounds_toArray, List.set_cons_zero, List.set_cons_succ, i64_w, i32_w]
        rfl
      refine done_ (by kernel_rfl) ?_
      go_wp2
      go_ret
      exact ⟨rfl, HB.trans (hHeld.mono HB.size)⟩
end Go.Proofs.YthafedmlbialiaaDoor
