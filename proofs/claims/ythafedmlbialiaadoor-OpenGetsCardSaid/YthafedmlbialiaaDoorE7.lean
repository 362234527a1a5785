/-
  The walk of the law OpenGets.
-/
import Derived.Test.YthafedmlbialiaaDoorE6
import Derived.Test.YthafedmlbialiaaDoorE3
import Derived.Test.YthafedmlbialiaaDoorLike
import Derived.Test.YthafedmlbialiaaDoorD5
namespace Go.Proofs.YthafedmlbialiaaDoor
open Go.RowKit Go.Proofs.YthafedmlbialiaaDoorW.PrintWords Go.Proofs.YthafedmlbialiaaDoorW.PrintLast Go.Proofs.YthafedmlbialiaaDoorW.PrintMore
set_option linter.unusedVariables false
set_option linter.unusedSimpArgs false

theorem of6_l0 (l : List PA.S61) (hl : l.length < 4398046511104) (x0 x1 x2 x3 y0 y1 y2 y3 : Int) : ∀ (n a : Nat), l.length - a ≤ n → a ≤ l.length → ∀ k, l.length - a < k →
    PA.consulatelaw06_Of.l0 k a x0 x1 x2 x3 l y0 y1 y2 y3 ((l.take a).map cap99) = some (y0, y1, y2, y3, l.map cap99) := by
  intro n
  induction n with
  | zero =>
    intro a hn ha k hk
    obtain rfl : a = l.length := by omega
    obtain ⟨k, rfl⟩ : ∃ m, k = m + 1 := ⟨k - 1, by omega⟩
    simp only [PA.consulatelaw06_Of.l0]
    rw [if_neg (by omega), List.take_length]
  | succ n ih =>
    intro a hn ha k hk
    obtain ⟨k, rfl⟩ : ∃ m, k = m + 1 := ⟨k - 1, by omega⟩
    by_cases h : a = l.length
    · subst h
      simp only [PA.consulatelaw06_Of.l0]
      rw [if_neg (by omega), List.take_length]
    · simp only [PA.consulatelaw06_Of.l0]
      rw [if_pos (by omega), if_pos (by omega), if_pos (by rw [List.length_map, List.length_take]; omega), w64 (by omega) (by omega)]
      have := ih (a + 1) (by omega) (by omega) k (by omega)
      rw [List.take_succ_eq_append_getElem (by omega), List.map_append, List.map_cons, List.map_nil] at this
      have hx : PA.rd_T61 l (a : Int) = l[a] := by rw [PA.rd_T61, Int.toNat_natCast, List.getD_eq_getElem?_getD, List.getElem?_eq_getElem (by omega)]; rfl
      rw [hx]
      exact this
theorem of6 (l : List PA.S61) (hl : l.length < 4398046511104) (ver an hold id : Int) (h0 : 0 ≤ ver ∧ ver < 256) (h1 : 0 ≤ an ∧ an < 65536) (h2 : 0 ≤ hold ∧ hold < 65536) :
    PA.consulatelaw06_Of.f (l.length + 1) ver an hold id l = some (ver, an, hold, id, l.map cap99) := by
  unfold PA.consulatelaw06_Of.f
  rw [w64 (by omega) (by omega), w64 (by omega) (by omega), w64 (by omega) (by omega)]
  exact of6_l0 l hl ver an hold id ver an hold id l.length 0 (by omega) (by omega) _ (by omega)
theorem like6_l0 (l : List PA.S99) (hl : l.length < 4398046511104) (x0 x1 x2 x3 y0 y1 y2 y3 : Int) : ∀ (n a : Nat), l.length - a ≤ n → a ≤ l.length → ∀ k, l.length - a < k →
    PA.consulatelaw06_Like.l0 k a x0 x1 x2 x3 l y0 y1 y2 y3 l = some true := by
  intro n
  induction n with
  | zero =>
    intro a hn ha k hk
    obtain rfl : a = l.length := by omega
    obtain ⟨k, rfl⟩ : ∃ m, k = m + 1 := ⟨k - 1, by omega⟩
    simp only [PA.consulatelaw06_Like.l0]
    rw [if_neg (by omega)]
  | succ n ih =>
    intro a hn ha k hk
    obtain ⟨k, rfl⟩ : ∃ m, k = m + 1 := ⟨k - 1, by omega⟩
    by_cases h : a = l.length
    · subst h
      simp only [PA.consulatelaw06_Like.l0]
      rw [if_neg (by omega)]
    · simp only [PA.consulatelaw06_Like.l0]
      rw [if_pos (by omega), if_pos (by omega), if_pos (by omega), if_pos True.intro, if_pos True.intro, w64 (by omega) (by omega)]
      exact ih (a + 1) (by omega) (by omega) k (by omega)
theorem like6 (l : List PA.S99) (hl : l.length < 4398046511104) (x0 x1 x2 x3 : Int) : PA.consulatelaw06_Like.f (l.length + 2) x0 x1 x2 x3 l x0 x1 x2 x3 l = some true := by
  unfold PA.consulatelaw06_Like.f
  rw [if_pos rfl, if_pos rfl, if_pos rfl, if_pos rfl]
  simp only [PA.consulatelaw06_Like.j0]
  rw [if_neg (by simp)]
  exact like6_l0 l hl x0 x1 x2 x3 x0 x1 x2 x3 l.length 0 (by omega) (by omega) _ (by omega)

/-- What Get tells lies in the numbers' ranges. -/
theorem oGet_bd {xs : List Int} {o : OpenP} {f0 f1 : Int} {d : List Int} (h : oGet xs = (o, f0, f1, d)) (hb : ∀ x, x ∈ xs → 0 ≤ x ∧ x < 256) (hl : xs.length ≤ 300) :
    (0 ≤ o.ver ∧ o.ver < 256) ∧ (0 ≤ o.an ∧ o.an < 65536) ∧ (0 ≤ o.hold ∧ o.hold < 65536) ∧ o.caps.length ≤ 300 ∧ (f0 = 0 ∨ f0 = 2) ∧ (f1 = 0 ∨ f1 = 1 ∨ f1 = 4) ∧ (d = [] ∨ d = [0, 4]) := by
  by_cases hs : xs.length < 10
  · rw [oGet_short hs] at h
    injection h with e1 h
    injection h with e2 h
    injection h with e3 e4
    subst e1 e2 e3 e4
    exact ⟨by decide, by decide, by decide, by decide, .inr rfl, .inl rfl, .inl rfl⟩
  · obtain ⟨a, b1, b2, h1, h2, i1, i2, i3, i4, m, rest, hx⟩ := ten (xs := xs) (by omega)
    have bb1 := hb b1 (by rw [hx]; simp)
    have bb2 := hb b2 (by rw [hx]; simp)
    have bh1 := hb h1 (by rw [hx]; simp)
    have bh2 := hb h2 (by rw [hx]; simp)
    have brest : ∀ x, x ∈ rest → 0 ≤ x ∧ x < 256 := fun x h => hb x (by rw [hx]; simp [h])
    have hxl : xs.length = rest.length + 10 := by rw [hx]; simp
    rw [hx] at h
    simp only [oGet] at h
    by_cases h4 : a ≠ 4
    · rw [if_pos h4] at h
      injection h with e1 h
      injection h with e2 h
      injection h with e3 e4
      subst e1 e2 e3 e4
      exact ⟨by decide, by decide, by decide, by decide, .inr rfl, .inr (.inl rfl), .inr rfl⟩
    · rw [if_neg h4] at h
      by_cases h5 : m ≠ rest.length
      · rw [if_pos h5] at h
        injection h with e1 h
        injection h with e2 h
        injection h with e3 e4
        subst e1 e2 e3 e4
        exact ⟨by decide, by decide, by decide, by decide, .inr rfl, .inl rfl, .inl rfl⟩
      · rw [if_neg h5] at h
        have hcl := capsOut_len (rest.length + 1) rest
        cases hco : capsOut (rest.length + 1) rest with
        | ok l =>
          rw [hco] at h
          injection h with e1 h
          injection h with e2 h
          injection h with e3 e4
          subst e1 e2 e3 e4
          have := hcl _ hco
          exact ⟨⟨by show (0 : Int) ≤ 4; decide, by show (4 : Int) < 256; decide⟩, ⟨by show 0 ≤ b1 * 256 + b2; omega, by show b1 * 256 + b2 < 65536; omega⟩, ⟨by show 0 ≤ h1 * 256 + h2; omega, by show h1 * 256 + h2 < 65536; omega⟩, by show l.length ≤ 300; omega, .inl rfl, .inl rfl, .inl rfl⟩
        | error x =>
          rw [hco] at h
          injection h with e1 h
          injection h with e2 h
          injection h with e3 e4
          subst e1 e2 e3 e4
          exact ⟨by decide, by decide, by decide, by decide, .inr rfl, (capsOut_err _ _ _ hco).elim .inl (fun h => .inr (.inr h)), .inl rfl⟩

set_option maxHeartbeats 4000000 in
set_option maxRecDepth 100000 in
theorem OpenGets_walk (w : World) (hG : GlobC w) (hU : GlobU w) (hO : GlobO w) (B : Option Addr) (cb : Nat) (xs : List Int) (hCb : (Kd.int .u8).C w B xs.length xs) (hcb : xs.length ≤ cb) (hlb : xs.length ≤ 140737488351232) (hbb : ∀ b, b ∈ xs → 0 ≤ b ∧ b < 256) :
    Calls Tryd.prog 4 #[.slice B xs.length cb] w fun e w' => e = .returned (.bool true) ∧ Below w.heap.size w w' := by
  obtain ⟨mi, hmi⟩ : ∃ mi : Int, (xs.length ≤ 300 ∧ mi = xs.length) ∨ (300 < xs.length ∧ mi = 300) := by
    by_cases h : xs.length ≤ 300
    · exact ⟨_, .inl ⟨h, rfl⟩⟩
    · exact ⟨_, .inr ⟨by omega, rfl⟩⟩
  obtain ⟨hcut, hCy, hyc, hyl⟩ := cutN 300 w B cb xs hCb hcb mi hmi
  have hif : (if 300 < (xs.length : Int) then (300 : Int) else xs.length) = mi := by
    rcases hmi with ⟨hm1, rfl⟩ | ⟨hm1, rfl⟩
    · exact if_neg (by omega)
    · exact if_pos (by omega)
  have hyb : ∀ b, b ∈ xs.take 300 → 0 ≤ b ∧ b < 256 := fun b hb => hbb b (List.mem_of_mem_take hb)
  generalize xs.take 300 = ys at *
  obtain ⟨o, f0, f1, d, ho⟩ : ∃ o f0 f1 d, oGet ys = (o, f0, f1, d) := ⟨_, _, _, _, rfl⟩
  obtain ⟨g1, g2, g3, g4, g5, g6, g7⟩ := oGet_bd ho hyb hyl
  obtain ⟨ver, an, hold, id, l⟩ := o
  simp only at g1 g2 g3 g4
  have H1 : Calls Tryd.prog 21 #[.slice B ys.length cb] w fun e w' => ∃ A1 c1 A2 c2, e = .returned (.tuple #[.agg #[.int .u8 ver, .int .u16 an, .int .u16 hold, .int .u32 id, .slice A1 l.length c1], .agg #[.int .u8 f0, .int .u8 f1], .slice A2 d.length c2]) ∧
    PA.k61.C w' A1 l.length l ∧ l.length ≤ c1 ∧ (Kd.int .u8).C w' A2 d.length d ∧ d.length ≤ c2 ∧ Below w.heap.size w w' := oGet_calls w hG hO B cb ys hCy (by omega) hyb _ _ _ _ ho
  have H2 : Aside0 (∀ w, (Kd.int .u8).C w B ys.length ys → Calls Tryd.prog 22 #[.slice B ys.length cb] w fun e w' => ∃ A1 c1 A2 c2, e = .returned (.tuple #[.agg #[.int .i64 ver, .int .i64 an, .int .i64 hold, .int .u32 id, .slice A1 (l.map cap99).length c1], .int .i64 f0, .int .i64 f1, .slice A2 d.length c2]) ∧
    PA.k99.C w' A1 (l.map cap99).length (l.map cap99) ∧ (l.map cap99).length ≤ c1 ∧ (Kd.int .u8).C w' A2 d.length d ∧ d.length ≤ c2 ∧ Below w.heap.size w w') := ⟨fun w hC => rGet_calls w B cb ys hC hyc (by omega) hyb _ _ _ _ ho⟩
  have hof := of6 l (by omega) ver an hold id g1 g2 g3
  have hlk := like6 (l.map cap99) (by rw [List.length_map]; omega) ver an hold id
  have hll : (l.map cap99).length = l.length := List.length_map ..
  have k1 : IntKind.i64.wrap f0 = f0 := by rw [i64_w, w64 (by omega) (by omega)]
  have k2 : IntKind.i64.wrap f1 = f1 := by rw [i64_w, w64 (by omega) (by omega)]
  have M1 := Aside0.mk hof
  have M2 := Aside0.mk hlk
  generalize l.map cap99 = l9 at *
  have M3 := Aside0.mk hll
  have HCy := Aside0.mk hCy
  clear hof hlk hll g1 g2 g3 g4 g5 g6 g7 ho hyb hbb hmi hCy hCb hlb hyl
  go_enter Tryd.func4, Tryd.ntmps4
  go_wp2_with fail
  refine H1.mono ?_
  rintro e w1 ⟨A1, c1, D1, d1, rfl, hC1, hc1, hD1, hd1, HB⟩
  clear H1
  have hM := blk_new w1 (.cells #[.int .u8 ver, .int .u16 an, .int .u16 hold, .int .u32 id, .slice A1 l.length c1] 41)
  have hb := below_alloc (Below.refl w1.heap.size w1) (.cells #[.int .u8 ver, .int .u16 an, .int .u16 hold, .int .u32 id, .slice A1 l.length c1] 41)
  obtain ⟨wa, hwa⟩ : ∃ wa, w1.alloc (.cells #[.int .u8 ver, .int .u16 an, .int .u16 hold, .int .u32 id, .slice A1 l.length c1] 41) = wa := ⟨_, rfl⟩
  have sa : wa.heap.size = w1.heap.size + 1 := by rw [← hwa]; simp
  rw [hwa] at hb hM
  have hF := FB.new wa f0 f1
  have hb2 := below_alloc (Below.refl wa.heap.size wa) (.cells #[.int .u8 f0, .int .u8 f1] 26)
  replace hM := blk_below hM hb2
  replace hb := hb.trans (hb2.mono hb.size)
  rw [sa] at hF
  subst hwa
  replace HB := HB.trans (hb.mono HB.size)
  replace hC1 := Kd.C_below hC1 hb
  replace hD1 := Kd.C_below hD1 hb
  clear hb hb2 sa
  go_wp2_with fail
  refine (H2.out _ (Kd.C_below HCy.out HB)).mono ?_
  rintro e w2 ⟨A2, c2, D2, d2, rfl, hC2, hc2, hD2, hd2, hb⟩
  replace HB := HB.trans (hb.mono HB.size)
  replace hM := blk_below hM hb
  replace hF := hF.below hb
  replace hC1 := Kd.C_below hC1 hb
  replace hD1 := Kd.C_below hD1 hb
  clear hb H2
  have hN := blk_new w2 (.cells #[.int .i64 ver, .int .i64 an, .int .i64 hold, .int .u32 id, .slice A2 l9.length c2] 45)
  have hb := below_alloc (Below.refl w2.heap.size w2) (.cells #[.int .i64 ver, .int .i64 an, .int .i64 hold, .int .u32 id, .slice A2 l9.length c2] 45)
  replace HB := HB.trans (hb.mono HB.size)
  replace hM := blk_below hM hb
  replace hF := hF.below hb
  replace hC1 := Kd.C_below hC1 hb
  replace hD1 := Kd.C_below hD1 hb
  replace hC2 := Kd.C_below hC2 hb
  replace hD2 := Kd.C_below hD2 hb
  clear hb
  go_upto_region 4 with fail
  generalize w2.alloc (.cells #[.int .i64 ver, .int .i64 an, .int .i64 hold, .int .u32 id, .slice A2 l9.length c2] 45) = w3 at *
  have x0 := blk_cell hM 0
  have x1 := blk_cell hM 1
  have x2 := blk_cell hM 2
  have x3 := blk_cell hM 3
  have x4 := blk_cell hM 4
  have n0 := blk_cell hN 0
  have n1 := blk_cell hN 1
  have n2 := blk_cell hN 2
  have n3 := blk_cell hN 3
  have n4 := blk_cell hN 4
  simp at x0 x1 x2 x3 x4 n0 n1 n2 n3 n4
  have u0 := hF.c0
  have u1 := hF.c1
  refine start_ (n := 29) (S := fun w' => Below w3.heap.size w3 w') (ds := []) #[false, false, false, false, false, false, false, false, false, false, false, false, false, false, false, false, false, false, false, false, false, false, false, false, false, false, false, false, false] (by kernel_rfl) rfl rfl (below_drew (Below.refl _ _)) (fun hHeld => ?_)
  refine take_ (i := 0) (N := (some 28)) (v := ?_) (a' := ?_) #[true, false, false, false, false, false, false, false, false, false, false, false, false, false, false, false, false, false, false, false, false, false, false, false, false, false, false, false, false] rfl rfl (by kernel_rfl) (fun _ _ _ h => h) (Or.inl ⟨by rfl, ?_⟩) hHeld ?_ ?_
  rotate_left
  · rintro w' hbw
    have y0 := pw_cell_below hbw x0; have y1 := pw_cell_below hbw x1; have y2 := pw_cell_below hbw x2; have y3 := pw_cell_below hbw x3; have y4 := pw_cell_below hbw x4
    go_simp
    with_reducible rfl
  rotate_left
  · simp only [Act.put, List.setIfInBounds_toArray, List.set_cons_zero, List.set_cons_succ, i64_w, i32_w]
    rfl
  refine take_ (i := 2) (N := (some 30)) (v := ?_) (a' := ?_) #[true, false, true, false, false, false, false, false, false, false, false, false, false, false, false, false, false, false, false, false, false, false, false, false, false, false, false, false, false] rfl rfl (by kernel_rfl) (fun _ _ _ h => h) (Or.inl ⟨by rfl, ?_⟩) hHeld ?_ ?_
  rotate_left
  · rintro w' hbw
    have y0 := pw_cell_below hbw n0; have y1 := pw_cell_below hbw n1; have y2 := pw_cell_below hbw n2; have y3 := pw_cell_below hbw n3; have y4 := pw_cell_below hbw n4
    go_simp
    with_reducible rfl
  rotate_left
  · simp only [Act.put, List.setIfInBounds_toArray, List.set_cons_zero, List.set_cons_succ, i64_w, i32_w]
    rfl
  refine one_ (i := 1) (N := (some 29)) #[true, true, true, false, false, false, false, false, false, false, false, false, false, false, false, false, false, false, false, false, false, false, false, false, false, false, false, false, false] rfl rfl (by kernel_rfl) (by decide) (fun K hK => ?_)
  refine goes_ Tryd.func24 (by kernel_rfl) rfl #[.agg #[.int .u8 ver, .int .u16 an, .int .u16 hold, .int .u32 id, .slice A1 l.length c1]] (by rfl) rfl rfl (by simp [Act.eval]) ?_
  refine (PA.consulatelaw06_Of.calls (l.length + 1) ver an hold id (fun k => k < w3.drew.heap.size) A1 c1 l ver an hold id l9 w3.drew (Kd.V_mk hc1 (Kd.C_F PA.k61_heap (Kd.C_drew hC1))) M1.out).mono ?_
  rintro e w5 ⟨v5, rfl, hv5, hb5⟩
  obtain ⟨A5, c5, rfl, hc5, hC5⟩ := Kd.N_reads hv5
  have hw5 := hHeld.trans (hb5.mono hHeld.size)
  refine ⟨_, rfl, ?_⟩
  refine hK.out _ _ (hw5) (fun hHeld => ?_)
  clear hK K
  refine norm_ (a' := ?_) ?_ ?_
  rotate_left
  · show Act.put _ (some 29) _ = _
    simp only [Act.put, List.setIfInBounds_toArray, List.set_cons_zero, List.set_cons_succ, i64_w, i32_w]
    rfl
  refine one_ (i := 3) (N := (some 31)) #[true, true, true, true, false, false, false, false, false, false, false, false, false, false, false, false, false, false, false, false, false, false, false, false, false, false, false, false, false] rfl rfl (by kernel_rfl) (by decide) (fun K hK => ?_)
  refine goes_ Tryd.func23 (by kernel_rfl) rfl #[.agg #[.int .i64 ver, .int .i64 an, .int .i64 hold, .int .u32 id, .slice A5 l9.length c5], .agg #[.int .i64 ver, .int .i64 an, .int .i64 hold, .int .u32 id, .slice A2 l9.length c2]] (by rfl) rfl rfl (by simp [Act.eval]) ?_
  refine (PA.consulatelaw06_Like.calls (l9.length + 2) ver an hold id A5 c5 l9 ver an hold id A2 c2 l9 true w5 hC5 hc5 (Kd.C_below hC2 hHeld) hc2 M2.out).mono ?_
  rintro e w6 ⟨rfl, hb6⟩
  have hw6 := hHeld.trans (hb6.mono hHeld.size)
  refine ⟨_, rfl, ?_⟩
  refine hK.out _ _ (hw6) (fun hHeld => ?_)
  clear hK K
  refine norm_ (a' := ?_) ?_ ?_
  rotate_left
  · show Act.put _ (some 31) _ = _
    simp only [Act.put, List.setIfInBounds_toArray, List.set_cons_zero, List.set_cons_succ, i64_w, i32_w]
    rfl
  refine pure_ (i := 4) (N := (some 32)) (v := ?_) (a' := ?_) #[true, true, true, true, true, false, false, false, false, false, false, false, false, false, false, false, false, false, false, false, false, false, false, false, false, false, false, false, false] rfl rfl (by kernel_rfl) (fun _ _ _ h => h) (Or.inl ⟨by rfl, ?_⟩) ?_ ?_
  rotate_left
  · intro w'
    go_simp
    with_reducible rfl
  rotate_left
  · simp only [Act.put, List.setIfInBounds_toArray, List.set_cons_zero, List.set_cons_succ, i64_w, i32_w]
    rfl
  refine pure_ (i := 5) (N := (some 33)) (v := ?_) (a' := ?_) #[true, true, true, true, true, true, false, false, false, false, false, false, false, false, false, false, false, false, false, false, false, false, false, false, false, false, false, false, false] rfl rfl (by kernel_rfl) (fun _ _ _ h => h) (Or.inl ⟨by rfl, ?_⟩) ?_ ?_
  rotate_left
  · intro w'
    go_simp
    with_reducible rfl
  rotate_left
  · simp only [Act.put, List.setIfInBounds_toArray, List.set_cons_zero, List.set_cons_succ, i64_w, i32_w]
    rfl
  refine take_ (i := 6) (N := (some 34)) (v := ?_) (a' := ?_) #[true, true, true, true, true, true, true, false, false, false, false, false, false, false, false, false, false, false, false, false, false, false, false, false, false, false, false, false, false] rfl rfl (by kernel_rfl) (fun _ _ _ h => h) (Or.inl ⟨by rfl, ?_⟩) hHeld ?_ ?_
  rotate_left
  · rintro w' hbw
    have y0 := pw_cell_below hbw u0
    go_simp
    with_reducible rfl
  rotate_left
  · simp only [Act.put, List.setIfInBounds_toArray, List.set_cons_zero, List.set_cons_succ, i64_w, i32_w]
    rfl
  refine pure_ (i := 7) (N := (some 35)) (v := ?_) (a' := ?_) #[true, true, true, true, true, true, true, true, false, false, false, false, false, false, false, false, false, false, false, false, false, false, false, false, false, false, false, false, false] rfl rfl (by kernel_rfl) (fun _ _ _ h => h) (Or.inl ⟨by rfl, ?_⟩) ?_ ?_
  rotate_left
  · intro w'
    go_simp
    with_reducible rfl
  rotate_left
  · simp only [Act.put, List.setIfInBounds_toArray, List.set_cons_zero, List.set_cons_succ, i64_w, i32_w]
    rfl
  refine pure_ (i := 8) (N := (some 36)) (v := ?_) (a' := ?_) #[true, true, true, true, true, true, true, true, true, false, false, false, false, false, false, false, false, false, false, false, false, false, false, false, false, false, false, false, false] rfl rfl (by kernel_rfl) (fun _ _ _ h => h) (Or.inl ⟨by rfl, ?_⟩) ?_ ?_
  rotate_left
  · intro w'
    go_simp
    with_reducible rfl
  rotate_left
  · simp only [Act.put, List.setIfInBounds_toArray, List.set_cons_zero, List.set_cons_succ, i64_w, i32_w]
    rfl
  refine pure_ (i := 9) (N := (some 37)) (v := ?_) (a' := ?_) #[true, true, true, true, true, true, true, true, true, true, false, false, false, false, false, false, false, false, false, false, false, false, false, false, false, false, false, false, false] rfl rfl (by kernel_rfl) (fun _ _ _ h => h) (Or.inl ⟨by rfl, ?_⟩) ?_ ?_
  rotate_left
  · intro w'
    go_simp
    with_reducible rfl
  rotate_left
  · simp only [Act.put, List.setIfInBounds_toArray, List.set_cons_zero, List.set_cons_succ, i64_w, i32_w]
    rfl
  refine pure_ (i := 10) (N := (some 38)) (v := ?_) (a' := ?_) #[true, true, true, true, true, true, true, true, true, true, true, false, false, false, false, false, false, false, false, false, false, false, false, false, false, false, false, false, false] rfl rfl (by kernel_rfl) (fun _ _ _ h => h) (Or.inl ⟨by rfl, ?_⟩) ?_ ?_
  rotate_left
  · intro w'
    go_simp
    with_reducible rfl
  rotate_left
  · simp only [Act.put, List.setIfInBounds_toArray, List.set_cons_zero, List.set_cons_succ, i64_w, i32_w]
    rfl
  refine pure_ (i := 11) (N := (some 39)) (v := ?_) (a' := ?_) #[true, true, true, true, true, true, true, true, true, true, true, true, false, false, false, false, false, false, false, false, false, false, false, false, false, false, false, false, false] rfl rfl (by kernel_rfl) (fun _ _ _ h => h) (Or.inl ⟨by rfl, ?_⟩) ?_ ?_
  rotate_left
  · intro w'
    go_simp
    with_reducible rfl
  rotate_left
  · simp only [Act.put, List.setIfInBounds_toArray, List.set_cons_zero, List.set_cons_succ, i64_w, i32_w]
    rfl
  refine pure_ (i := 12) (N := (some 40)) (v := ?_) (a' := ?_) #[true, true, true, true, true, true, true, true, true, true, true, true, true, false, false, false, false, false, false, false, false, false, false, false, false, false, false, false, false] rfl rfl (by kernel_rfl) (fun _ _ _ h => h) (Or.inl ⟨by rfl, ?_⟩) ?_ ?_
  rotate_left
  · intro w'
    go_simp
    with_reducible rfl
  rotate_left
  · simp only [Act.put, List.setIfInBounds_toArray, List.set_cons_zero, List.set_cons_succ, i64_w, i32_w]
    rfl
  refine take_ (i := 13) (N := (some 41)) (v := ?_) (a' := ?_) #[true, true, true, true, true, true, true, true, true, true, true, true, true, true, false, false, false, false, false, false, false, false, false, false, false, false, false, false, false] rfl rfl (by kernel_rfl) (fun _ _ _ h => h) (Or.inl ⟨by rfl, ?_⟩) hHeld ?_ ?_
  rotate_left
  · rintro w' hbw
    have y1 := pw_cell_below hbw u1
    go_simp
    with_reducible rfl
  rotate_left
  · simp only [Act.put, List.setIfInBounds_toArray, List.set_cons_zero, List.set_cons_succ, i64_w, i32_w]
    rfl
  refine pure_ (i := 14) (N := (some 42)) (v := ?_) (a' := ?_) #[true, true, true, true, true, true, true, true, true, true, true, true, true, true, true, false, false, false, false, false, false, false, false, false, false, false, false, false, false] rfl rfl (by kernel_rfl) (fun _ _ _ h => h) (Or.inl ⟨by rfl, ?_⟩) ?_ ?_
  rotate_left
  · intro w'
    go_simp
    with_reducible rfl
  rotate_left
  · simp only [Act.put, List.setIfInBounds_toArray, List.set_cons_zero, List.set_cons_succ, i64_w, i32_w]
    rfl
  refine pure_ (i := 15) (N := (some 43)) (v := ?_) (a' := ?_) #[true, true, true, true, true, true, true, true, true, true, true, true, true, true, true, true, false, false, false, false, false, false, false, false, false, false, false, false, false] rfl rfl (by kernel_rfl) (fun _ _ _ h => h) (Or.inl ⟨by rfl, ?_⟩) ?_ ?_
  rotate_left
  · intro w'
    go_simp
    with_reducible rfl
  rotate_left
  · simp only [Act.put, List.setIfInBounds_toArray, List.set_cons_zero, List.set_cons_succ, i64_w, i32_w]
    rfl
  refine pure_ (i := 16) (N := (some 44)) (v := ?_) (a' := ?_) #[true, true, true, true, true, true, true, true, true, true, true, true, true, true, true, true, true, false, false, false, false, false, false, false, false, false, false, false, false] rfl rfl (by kernel_rfl) (fun _ _ _ h => h) (Or.inl ⟨by rfl, ?_⟩) ?_ ?_
  rotate_left
  · intro w'
    go_simp
    with_reducible rfl
  rotate_left
  · simp only [Act.put, List.setIfInBounds_toArray, List.set_cons_zero, List.set_cons_succ, i64_w, i32_w]
    rfl
  refine pure_ (i := 17) (N := (some 45)) (v := ?_) (a' := ?_) #[true, true, true, true, true, true, true, true, true, true, true, true, true, true, true, true, true, true, false, false, false, false, false, false, false, false, false, false, false] rfl rfl (by kernel_rfl) (fun _ _ _ h => h) (Or.inl ⟨by rfl, ?_⟩) ?_ ?_
  rotate_left
  · intro w'
    go_simp
    with_reducible rfl
  rotate_left
  · simp only [Act.put, List.setIfInBounds_toArray, List.set_cons_zero, List.set_cons_succ, i64_w, i32_w]
    rfl
  refine pure_ (i := 18) (N := (some 46)) (v := ?_) (a' := ?_) #[true, true, true, true, true, true, true, true, true, true, true, true, true, true, true, true, true, true, true, false, false, false, false, false, false, false, false, false, false] rfl rfl (by kernel_rfl) (fun _ _ _ h => h) (Or.inl ⟨by rfl, ?_⟩) ?_ ?_
  rotate_left
  · intro w'
    go_simp
    with_reducible rfl
  rotate_left
  · simp only [Act.put, List.setIfInBounds_toArray, List.set_cons_zero, List.set_cons_succ, i64_w, i32_w]
    rfl
  refine pure_ (i := 19) (N := (some 47)) (v := ?_) (a' := ?_) #[true, true, true, true, true, true, true, true, true, true, true, true, true, true, true, true, true, true, true, true, false, false, false, false, false, false, false, false, false] rfl rfl (by kernel_rfl) (fun _ _ _ h => h) (Or.inl ⟨by rfl, ?_⟩) ?_ ?_
  rotate_left
  · intro w'
    go_simp
    with_reducible rfl
  rotate_left
  · simp only [Act.put, List.setIfInBounds_toArray, List.set_cons_zero, List.set_cons_succ, i64_w, i32_w]
    rfl
  refine take_ (i := 20) (N := (some 48)) (v := ?_) (a' := ?_) #[true, true, true, true, true, true, true, true, true, true, true, true, true, true, true, true, true, true, true, true, true, false, false, false, false, false, false, false, false] rfl rfl (by kernel_rfl) (fun _ _ _ h => h) (Or.inl ⟨by rfl, ?_⟩) hHeld ?_ ?_
  rotate_left
  · rintro w' hbw
    have hcv := Kd.C_string (P := Tryd.prog) (A := D1) (c := d1) Tryd.underlying22 Tryd.underlying5 Tryd.underlying9 (Kd.C_below hD1 hbw)
    go_simp
    with_reducible rfl
  rotate_left
  · simp only [Act.put, List.setIfInBounds_toArray, List.set_cons_zero, List.set_cons_succ, i64_w, i32_w]
    rfl
  refine pure_ (i := 21) (N := (some 49)) (v := ?_) (a' := ?_) #[true, true, true, true, true, true, true, true, true, true, true, true, true, true, true, true, true, true, true, true, true, true, false, false, false, false, false, false, false] rfl rfl (by kernel_rfl) (fun _ _ _ h => h) (Or.inl ⟨by rfl, ?_⟩) ?_ ?_
  rotate_left
  · intro w'
    go_simp
    with_reducible rfl
  rotate_left
  · simp only [Act.put, List.setIfInBounds_toArray, List.set_cons_zero, List.set_cons_succ, i64_w, i32_w]
    rfl
  refine take_ (i := 22) (N := (some 50)) (v := ?_) (a' := ?_) #[true, true, true, true, true, true, true, true, true, true, true, true, true, true, true, true, true, true, true, true, true, true, true, false, false, false, false, false, false] rfl rfl (by kernel_rfl) (fun _ _ _ h => h) (Or.inl ⟨by rfl, ?_⟩) hHeld ?_ ?_
  rotate_left
  · rintro w' hbw
    have hcv := Kd.C_string (P := Tryd.prog) (A := D2) (c := d2) Tryd.underlying22 Tryd.underlying5 Tryd.underlying9 (Kd.C_below hD2 hbw)
    go_simp
    with_reducible rfl
  rotate_left
  · simp only [Act.put, List.setIfInBounds_toArray, List.set_cons_zero, List.set_cons_succ, i64_w, i32_w]
    rfl
  refine pure_ (i := 23) (N := (some 51)) (v := ?_) (a' := ?_) #[true, true, true, true, true, true, true, true, true, true, true, true, true, true, true, true, true, true, true, true, true, true, true, true, false, false, false, false, false] rfl rfl (by kernel_rfl) (fun _ _ _ h => h) (Or.inl ⟨by rfl, ?_⟩) ?_ ?_
  rotate_left
  · intro w'
    go_simp
    with_reducible rfl
  rotate_left
  · simp only [Act.put, List.setIfInBounds_toArray, List.set_cons_zero, List.set_cons_succ, i64_w, i32_w]
    rfl
  refine pure_ (i := 24) (N := (some 52)) (v := ?_) (a' := ?_) #[true, true, true, true, true, true, true, true, true, true, true, true, true, true, true, true, true, true, true, true, true, true, true, true, true, false, false, false, false] rfl rfl (by kernel_rfl) (fun _ _ _ h => h) (Or.inl ⟨by rfl, ?_⟩) ?_ ?_
  rotate_left
  · intro w'
    go_simp
    with_reducible rfl
  rotate_left
  · simp only [Act.put, List.setIfInBounds_toArray, List.set_cons_zero, List.set_cons_succ, i64_w, i32_w]
    rfl
  refine pure_ (i := 25) (N := (some 53)) (v := ?_) (a' := ?_) #[true, true, true, true, true, true, true, true, true, true, true, true, true, true, true, true, true, true, true, true, true, true, true, true, true, true, false, false, false] rfl rfl (by kernel_rfl) (fun _ _ _ h => h) (Or.inl ⟨by rfl, ?_⟩) ?_ ?_
  rotate_left
  · intro w'
    go_simp
    with_reducible rfl
  rotate_left
  · simp only [Act.put, List.setIfInBounds_toArray, List.set_cons_zero, List.set_cons_succ, i64_w, i32_w]
    rfl
  refine one_ (i := 26) (N := (some 54)) #[true, true, true, true, true, true, true, true, true, true, true, true, true, true, true, true, true, true, true, true, true, true, true, true, true, true, true, false, false] rfl rfl (by kernel_rfl) (by decide) (fun K hK => ?_)
  refine goes_ Tryd.func25 (by kernel_rfl) rfl #[] (by rfl) rfl rfl (by simp [Act.eval]) ?_
  refine (tells_calls w6 (hG.below (HB.trans (hHeld.mono HB.size))) (hU.below (HB.trans (hHeld.mono HB.size))) (hO.below (HB.trans (hHeld.mono HB.size)))).mono ?_
  rintro e w7 ⟨rfl, hb7⟩
  have hw7 := hHeld.trans (hb7.mono hHeld.size)
  refine ⟨_, rfl, ?_⟩
  refine hK.out _ _ (hw7) (fun hHeld => ?_)
  clear hK K
  refine norm_ (a' := ?_) ?_ ?_
  rotate_left
  · show Act.put _ (some 54) _ = _
    simp only [Act.put, List.setIfInBounds_toArray, List.set_cons_zero, List.set_cons_succ, i64_w, i32_w]
    rfl
  refine pure_ (i := 27) (N := (some 55)) (v := ?_) (a' := ?_) #[true, true, true, true, true, true, true, true, true, true, true, true, true, true, true, true, true, true, true, true, true, true, true, true, true, true, true, true, false] rfl rfl (by kernel_rfl) (fun _ _ _ h => h) (Or.inl ⟨by rfl, ?_⟩) ?_ ?_
  rotate_left
  · intro w'
    go_simp
    with_reducible rfl
  rotate_left
  · simp only [Act.put, List.setIfInBounds_toArray, List.set_cons_zero, List.set_cons_succ, i64_w, i32_w]
    rfl
  refine pure_ (i := 28) (N := (some 2)) (v := ?_) (a' := ?_) #[true, true, true, true, true, true, true, true, true, true, true, true, true, true, true, true, true, true, true, true, true, true, true, true, true, true, true, true, true] rfl rfl (by kernel_rfl) (fun _ _ _ h => h) (Or.inl ⟨by rfl, ?_⟩) ?_ ?_
  rotate_left
  · intro w'
    go_simp
    with_reducible rfl
  rotate_left
  · simp only [Act.put, List.setIfInBounds_toArray, List.set_cons_zero, List.set_cons_succ, i64_w, i32_w]
    rfl
  refine done_ (by kernel_rfl) ?_
  go_wp2
  go_ret
  exact ⟨rfl, HB.trans (hHeld.mono HB.size)⟩
end Go.Proofs.YthafedmlbialiaaDoor
