/-
  Plain: the document's answers of layer 6 are the program's.
-/
import Derived.Test.YthafedmlbialiaaDoorTE6
import Derived.Test.YthafedmlbialiaaDoorTE8
import Derived.Test.YthafedmlbialiaaDoorTP3
import Derived.Test.YthafedmlbialiaaDoorTPChk
namespace Go.Proofs.YthafedmlbialiaaDoor
open Go.RowKit Go.Proofs.YthafedmlbialiaaDoorW.PrintWords Go.Proofs.YthafedmlbialiaaDoorW.PrintLast Go.Proofs.YthafedmlbialiaaDoorW.PrintMore
set_option linter.unusedVariables false
set_option linter.unusedSimpArgs false

/-! ### Few -/
def few6 (l : List PA.S61) : List PA.S61 := (l.take 12).map fun x => ⟨x.f0, x.f1.take 300⟩
theorem few6_len (l : List PA.S61) : (few6 l).length ≤ 12 := by simp [few6]; omega
theorem mn_take (xs : List Int) : (0 : Int) ≤ mn (xs.length : Int) 300 ∧ mn (xs.length : Int) 300 ≤ xs.length ∧ xs.take (mn (xs.length : Int) 300).toNat = xs.take 300 := by
  unfold mn
  split
  · exact ⟨by omega, by omega, rfl⟩
  · refine ⟨by omega, by omega, ?_⟩
    rw [Int.toNat_natCast, List.take_length, List.take_of_length_le (by omega)]
theorem few6_l0 (l : List PA.S61) (ver an hold id : Int) : ∀ (n a : Nat), 12 - a ≤ n → a ≤ 12 → a ≤ l.length → ∀ k, 12 - a < k →
    PA.consulatelaw06_Few.l0 k (few6 (l.take a)) a ver an hold id l = some (ver, an, hold, id, few6 l) := by
  have hend : few6 (l.take 12) = few6 l := by unfold few6; rw [List.take_take]; rfl
  intro n
  induction n with
  | zero =>
    intro a hn ha hl k hk
    obtain rfl : a = 12 := by omega
    obtain ⟨k, rfl⟩ : ∃ m, k = m + 1 := ⟨k - 1, by omega⟩
    simp only [PA.consulatelaw06_Few.l0]
    rw [hend]
    by_cases h : ((12 : Nat) : Int) < (l.length : Int)
    · rw [if_pos h, if_neg (by omega)]
    · rw [if_neg h]
  | succ n ih =>
    intro a hn ha hl k hk
    obtain ⟨k, rfl⟩ : ∃ m, k = m + 1 := ⟨k - 1, by omega⟩
    simp only [PA.consulatelaw06_Few.l0]
    by_cases h : a = l.length
    · rw [if_neg (by omega), h, List.take_length]
    · rw [if_pos (by omega)]
      by_cases h12 : a = 12
      · rw [if_neg (by omega), h12, hend]
      · have hx : PA.rd_T61 l (a : Int) = l[a]'(by omega) := by rw [PA.rd_T61, Int.toNat_natCast, List.getD_eq_getElem?_getD, List.getElem?_eq_getElem (by omega)]; rfl
        rw [hx]
        obtain ⟨m1, m2, m3⟩ := mn_take (l[a]'(by omega)).f1
        have hfl := few6_len (l.take a)
        rw [if_pos (by omega), if_pos (by omega), if_pos m1, if_pos m2, if_pos (by omega), m3, w64 (by omega) (by omega)]
        have := ih (a + 1) (by omega) (by omega) (by omega) k (by omega)
        have hs : few6 (l.take (a + 1)) = few6 (l.take a) ++ [⟨(l[a]'(by omega)).f0, (l[a]'(by omega)).f1.take 300⟩] := by
          unfold few6
          rw [List.take_take, List.take_take, show min 12 (a + 1) = a + 1 by omega, show min 12 a = a by omega, List.take_succ_eq_append_getElem (by omega), List.map_append]
          rfl
        rw [hs] at this
        exact this
theorem few6_of (l : List PA.S61) (ver an hold id : Int) : PA.consulatelaw06_Few.f 13 ver an hold id l = some (ver, an, hold, id, few6 l) := by
  have h := few6_l0 l ver an hold id 12 0 (by omega) (by omega) (by omega) 13 (by omega)
  rw [show few6 (l.take 0) = [] by simp [few6]] at h
  exact h

/-! ### Put, Number, Check -/
theorem put_of (ver an hold id : Int) (l : List PA.S61) (hl : l.length ≤ 1000000) (hv : 0 ≤ ver ∧ ver < 256) (ha : 0 ≤ an ∧ an < 65536) (hh : 0 ≤ hold ∧ hold < 65536) (hi : 0 ≤ id ∧ id < 4294967296) (hlen : (capsBytes l).1.length ≤ 255) :
    PA.consulateref06_Put.f (2 * l.length + 2) ver an hold id (l.map cap99) = some (oPut ver an hold id l) := by
  unfold PA.consulateref06_Put.f oPut
  rw [ref_bytes l hl]
  generalize capsBytes l = cb at *
  obtain ⟨bs, e⟩ := cb
  simp only [Option.bind_some] at hlen ⊢
  by_cases he : e = 0
  · rw [if_pos he, if_pos he, if_pos (by simp), if_pos (by simp; omega)]
    have t1 := Int.tdiv_eq_ediv_of_nonneg (a := an) (b := 256) ha.1
    have t2 := Int.tmod_eq_emod_of_nonneg (a := an) (b := 256) ha.1
    have t3 := Int.tdiv_eq_ediv_of_nonneg (a := hold) (b := 256) hh.1
    have t4 := Int.tmod_eq_emod_of_nonneg (a := hold) (b := 256) hh.1
    have t5 := Int.tdiv_eq_ediv_of_nonneg (a := id) (b := 16777216) hi.1
    have t6 := Int.tdiv_eq_ediv_of_nonneg (a := id) (b := 65536) hi.1
    have t7 := Int.tdiv_eq_ediv_of_nonneg (a := id) (b := 256) hi.1
    have t8 := Int.tmod_eq_emod_of_nonneg (a := id) (b := 256) hi.1
    rw [t1, t2, t3, t4, t5, t6, t7, t8, w64 (by omega) (by omega), w64 (by omega) (by omega)]
    have e1 : ver % 256 = ver := by omega
    have e2 : an / 256 % 256 = an / 256 := by omega
    have e3 : an % 256 % 256 = an % 256 := by omega
    have e4 : hold / 256 % 256 = hold / 256 := by omega
    have e5 : hold % 256 % 256 = hold % 256 := by omega
    have e6 : id / 16777216 % 4294967296 % 256 = id / 65536 / 256 := by omega
    have e7 : id / 65536 % 4294967296 % 256 = id / 65536 % 256 := by omega
    have e8 : id / 256 % 4294967296 % 256 = id % 65536 / 256 := by omega
    have e9 : id % 256 % 256 = id % 65536 % 256 := by omega
    have e10 : (bs.length : Int) % 256 = bs.length := by omega
    rw [e1, e2, e3, e4, e5, e6, e7, e8, e9, e10]
    rfl
  · rw [if_neg he, if_neg he]
theorem num_of (ver an hold id : Int) (l : List PA.S61) (hl : l.length < 4398046511104) (hwf : CapsWf l) (ha : 0 ≤ an ∧ an < 65536) :
    PA.consulateref06_Number.f (l.length + 1) ver an hold id (l.map cap99) = some (oNumber an l) := by
  have h := ref_number l hl hwf l.length 0 (by omega) (by omega) (l.length + 1) (by omega)
  rw [List.drop_zero] at h
  unfold PA.consulateref06_Number.f oNumber
  rw [show PA.consulateref05_Number.f (l.length + 1) (l.map cap99) = some (capsNumber l) from h]
  obtain ⟨n, is⟩ := capsNumber l
  have hm : an % 4294967296 = an := by omega
  simp only [Option.bind_some, hm]
  cases is with
  | false =>
    rw [if_neg (by simp)]
    by_cases h0 : an = 0
    · rw [if_pos h0, if_pos (Or.inl h0)]
    · rw [if_neg h0]
      by_cases h1 : an = 23456
      · rw [if_pos h1, if_pos (Or.inr h1)]
      · rw [if_neg h1, if_neg (by omega)]
  | true =>
    rw [if_pos rfl]
    simp only [PA.consulateref06_Number.j0]
    by_cases h0 : n = 0
    · rw [if_pos h0, if_pos (Or.inl h0), if_neg (by simp)]
    · rw [if_neg h0]
      by_cases h1 : an = 23456
      · rw [if_pos h1, if_pos True.intro, if_neg (by omega)]
      · rw [if_neg h1]
        by_cases h2 : an = n
        · rw [if_pos (beq_iff_eq.2 h2), if_neg (by omega)]
        · rw [if_neg (by rw [beq_iff_eq]; exact h2), if_pos (Or.inr ⟨h2, h1⟩)]
theorem check_of (ver an hold id : Int) (l : List PA.S61) (hl : l.length < 4398046511104) (hwf : CapsWf l) (ha : 0 ≤ an ∧ an < 65536) (hi : 0 ≤ id ∧ id < 4294967296) (was own : Int) (inside : Bool) :
    PA.consulateref06_Check.f (l.length + 4) ver an hold id (l.map cap99) was own inside = some (oCheck an hold id l was own inside) := by
  have hn := num_of ver an hold id l hl hwf ha
  have hn2 : PA.consulateref06_Number.f (l.length + 4) ver an hold id (l.map cap99) = some (oNumber an l) := by
    have h1 := PA.consulateref06_Number.mono ver an hold id (l.map cap99) (l.length + 1) _ hn
    have h2 := PA.consulateref06_Number.mono ver an hold id (l.map cap99) (l.length + 2) _ h1
    exact PA.consulateref06_Number.mono ver an hold id (l.map cap99) (l.length + 3) _ h2
  have h4 := ref_ipv4 l hl l.length 0 (by omega) (by omega) (l.length + 1) (by omega) false
  rw [List.drop_zero] at h4
  have hip : PA.consulateref05_IPv4.f (l.length + 1) (l.map cap99) = some (capsIPv4 l) := by
    refine Eq.trans (show PA.consulateref05_IPv4.f (l.length + 1) (l.map cap99) = _ from h4) ?_
    unfold capsIPv4
    cases (found (fun x => x.f0 == 1 && isUni x.f1) l).2 <;> cases (found (fun x => x.f0 == 1 && isAny x.f1) l).2 <;> rfl
  unfold PA.consulateref06_Check.f oCheck
  rw [hn2]
  obtain ⟨n, is⟩ := oNumber an l
  have t1 := Int.tdiv_eq_ediv_of_nonneg (a := id) (b := 16777216) hi.1
  have hid : (id / 16777216 % 4294967296 ≥ 224) ↔ id ≥ 3758096384 := by omega
  have j2 : ∀ b : Bool, PA.consulateref06_Check.j2 (l.length + 2) b ver an hold id (l.map cap99) = some (if b = true then (2, 6, []) else if (!capsIPv4 l) = true then (2, 7, [1, 4, 0, 1, 0, 1]) else (0, 0, [])) := by
    intro b
    simp only [PA.consulateref06_Check.j2]
    rw [hip]
    cases b <;> cases capsIPv4 l <;> rfl
  have j1 : ∀ b : Bool, PA.consulateref06_Check.j1 (l.length + 3) b ver an hold id (l.map cap99) = some (if b = true then (2, 3, []) else if (decide (hold > 0) && decide (hold < 3)) = true then (2, 6, []) else if (!capsIPv4 l) = true then (2, 7, [1, 4, 0, 1, 0, 1]) else (0, 0, [])) := by
    intro b
    simp only [PA.consulateref06_Check.j1, j2]
    cases b with
    | true => rfl
    | false =>
      simp only [Bool.false_eq_true, if_false]
      by_cases h1 : hold = 1
      · subst h1
        rfl
      · rw [if_neg h1]
        by_cases h2 : hold = 2
        · rw [h2]
          rfl
        · have e1 : (hold == 2) = false := beq_false_of_ne h2
          have e2 : (decide (hold > 0) && decide (hold < 3)) = false := by
            rw [Bool.and_eq_false_iff]
            by_cases h3 : hold > 0
            · exact .inr (decide_eq_false (by omega))
            · exact .inl (decide_eq_false h3)
          rw [e1, e2]
  simp only [Option.bind_some, PA.consulateref06_Check.j0, j1, t1]
  cases is with
  | false => rfl
  | true =>
    rw [if_pos rfl]
    cases hnw : (n != was) with
    | true => simp
    | false =>
      simp only [Bool.not_true, Bool.false_or, hnw, Bool.false_eq_true, if_false, if_true]
      by_cases h0 : id = 0
      · rw [if_pos h0, h0]
        rfl
      · rw [if_neg h0]
        have e0 : (id == 0) = false := beq_false_of_ne h0
        by_cases h1 : id ≥ 3758096384
        · rw [if_pos (hid.2 h1), e0, decide_eq_true h1]
          rfl
        · rw [if_neg (fun h => h1 (hid.1 h)), e0, decide_eq_false h1]
          cases inside with
          | true => rfl
          | false => rfl

set_option maxHeartbeats 1600000 in
set_option maxRecDepth 100000 in
theorem rOurs_calls (w : World) (n hold id : Int) (h0 : 0 ≤ n) (h1 : n < 4294967296) :
    Calls Tryd.prog 45 #[.int .u32 n, .int .i64 hold, .int .u32 id] w fun e w' => ∃ A c, e = .returned (.agg #[.int .i64 4, .int .i64 (shortOf n), .int .i64 hold, .int .u32 id, .slice A ((ours n).map cap99).length c]) ∧
      PA.k99.C w' A ((ours n).map cap99).length ((ours n).map cap99) ∧ ((ours n).map cap99).length ≤ c ∧ Below w.heap.size w w' := by
  have H := Aside0.mk (ref_ours n h0 h1)
  generalize (ours n).map cap99 = os9 at *
  have hM := blk_new w (.cells #[.int .i64 0, .int .i64 0, .int .i64 0, .int .u32 0, .slice none 0 0] 45)
  have HB := below_alloc (Below.refl w.heap.size w) (.cells #[.int .i64 0, .int .i64 0, .int .i64 0, .int .u32 0, .slice none 0 0] 45)
  by_cases hn : n < 65536
  · have HS := Aside0.mk (show shortOf n = n by unfold shortOf; rw [if_neg (by omega)])
    have d1 : decide (n < 65536) = true := decide_eq_true hn
    have s1 : IntKind.i64.wrap n = n := by rw [i64_w, w64 (by omega) (by omega)]
    go_enter Tryd.func45, Tryd.ntmps45
    go_upto_region 1 with fail
    generalize w.alloc (.cells #[.int .i64 0, .int .i64 0, .int .i64 0, .int .u32 0, .slice none 0 0] 45) = w1 at *
    have hlt1 := blk_lt hM
    go_wp2_with fail
    refine (PA.consulateref05_Ours.calls n os9 w1 H.out).mono ?_
    rintro e w2 ⟨v2, rfl, hv2, hb⟩
    replace HB := HB.trans (hb.mono HB.size)
    replace hM := blk_below hM hb
    obtain ⟨A2, c2, rfl, hc2, _⟩ := Kd.N_reads hv2
    replace hv2 := Kd.N_bound hv2
    have hs2 := hb.size
    have hO := blk_new w2 (.cells #[.int .i64 4, .int .i64 23456, .int .i64 hold, .int .u32 id, .slice A2 os9.length c2] 45)
    have hb3 := below_alloc (Below.refl w2.heap.size w2) (.cells #[.int .i64 4, .int .i64 23456, .int .i64 hold, .int .u32 id, .slice A2 os9.length c2] 45)
    replace HB := HB.trans (hb3.mono HB.size)
    replace hM := blk_below hM hb3
    replace hv2 := Kd.N_below hv2 hb3
    have okne : ∀ k, (w1.heap.size ≤ k ∧ k < w2.heap.size) → k ≠ w.heap.size := fun k hk => by omega
    have okn2 : ∀ k, (w1.heap.size ≤ k ∧ k < w2.heap.size) → k ≠ w2.heap.size := fun k hk => by omega
    clear hb hb3
    go_upto_region 2 with fail
    generalize w2.alloc (.cells #[.int .i64 4, .int .i64 23456, .int .i64 hold, .int .u32 id, .slice A2 os9.length c2] 45) = w3 at *
    have o1 := blk_cell hO 1
    have f1 := blk_frozen hO 1
    simp at o1
    go_upto_region 4 with fail
    have ne1 : w.heap.size ≠ w2.heap.size := by omega
    replace hM := blk_far hM (p := ⟨w2.heap.size, 1, none⟩) ne1 (.int .i64 n)
    replace HB := HB.setCell (p := ⟨w2.heap.size, 1, none⟩) (by show w.heap.size ≤ w2.heap.size; omega) (.int .i64 n)
    replace hv2 := Kd.N_far hv2 (p := ⟨w2.heap.size, 1, none⟩) okn2 (.int .i64 n)
    replace hO := blk_put hO 1 (.int .i64 n) rfl
    generalize w3.setCell ⟨w2.heap.size, 1, none⟩ (.int .i64 n) = w4 at *
    clear o1 f1
    have x0 := blk_cell hM 0
    have x1 := blk_cell hM 1
    have x2 := blk_cell hM 2
    have x3 := blk_cell hM 3
    have x4 := blk_cell hM 4
    simp at x0 x1 x2 x3 x4
    have z0 := blk_frozen hM 0
    have z1 := blk_frozen hM 1
    have z2 := blk_frozen hM 2
    have z3 := blk_frozen hM 3
    have z4 := blk_frozen hM 4
    have y0 := blk_cell hO 0
    have y1 := blk_cell hO 1
    have y2 := blk_cell hO 2
    have y3 := blk_cell hO 3
    have y4 := blk_cell hO 4
    simp at y0 y1 y2 y3 y4
    go_wp2
    replace hv2 := Kd.N_far (Kd.N_far (Kd.N_far (Kd.N_far (Kd.N_far hv2 (p := ⟨w.heap.size, 0, none⟩) okne (.int .i64 4)) (p := ⟨w.heap.size, 1, none⟩) okne (.int .i64 (n))) (p := ⟨w.heap.size, 2, none⟩) okne (.int .i64 hold)) (p := ⟨w.heap.size, 3, none⟩) okne (.int .u32 id)) (p := ⟨w.heap.size, 4, none⟩) okne (.slice A2 os9.length c2)
    obtain ⟨m1, m3⟩ := put45 (.int .i64 4) (.int .i64 (n)) (.int .i64 hold) (.int .u32 id) (.slice A2 os9.length c2) hM HB (Nat.le_refl _)
    clear x0 x1 x2 x3 x4 z0 z1 z2 z3 z4 hM HB
    generalize ((((w4.setCell ⟨w.heap.size, 0, none⟩ (.int .i64 4)).setCell ⟨w.heap.size, 1, none⟩ (.int .i64 (n))).setCell ⟨w.heap.size, 2, none⟩ (.int .i64 hold)).setCell ⟨w.heap.size, 3, none⟩ (.int .u32 id)).setCell ⟨w.heap.size, 4, none⟩ (.slice A2 os9.length c2) = wz at *
    have x0 := blk_cell m1 0
    have x1 := blk_cell m1 1
    have x2 := blk_cell m1 2
    have x3 := blk_cell m1 3
    have x4 := blk_cell m1 4
    simp at x0 x1 x2 x3 x4
    obtain ⟨A3, c3, e3, hc3, hC3⟩ := Kd.N_reads hv2
    injection e3 with q1 q2 q3
    subst q1 q3
    exact bodyPost_ret (v := .agg #[.int .i64 4, .int .i64 (n), .int .i64 hold, .int .u32 id, .slice A2 os9.length c2]) (by simp [results, Tryd.results45, go_sem, x0, x1, x2, x3, x4]) rfl ⟨_, _, by rw [HS.out], hC3, hc3, m3⟩
  · have HS := Aside0.mk (show shortOf n = 23456 by unfold shortOf; rw [if_pos (by omega)])
    have d1 : decide (n < 65536) = false := decide_eq_false hn
    go_enter Tryd.func45, Tryd.ntmps45
    go_upto_region 1 with fail
    generalize w.alloc (.cells #[.int .i64 0, .int .i64 0, .int .i64 0, .int .u32 0, .slice none 0 0] 45) = w1 at *
    have hlt1 := blk_lt hM
    go_wp2_with fail
    refine (PA.consulateref05_Ours.calls n os9 w1 H.out).mono ?_
    rintro e w2 ⟨v2, rfl, hv2, hb⟩
    replace HB := HB.trans (hb.mono HB.size)
    replace hM := blk_below hM hb
    obtain ⟨A2, c2, rfl, hc2, _⟩ := Kd.N_reads hv2
    replace hv2 := Kd.N_bound hv2
    have hs2 := hb.size
    have hO := blk_new w2 (.cells #[.int .i64 4, .int .i64 23456, .int .i64 hold, .int .u32 id, .slice A2 os9.length c2] 45)
    have hb3 := below_alloc (Below.refl w2.heap.size w2) (.cells #[.int .i64 4, .int .i64 23456, .int .i64 hold, .int .u32 id, .slice A2 os9.length c2] 45)
    replace HB := HB.trans (hb3.mono HB.size)
    replace hM := blk_below hM hb3
    replace hv2 := Kd.N_below hv2 hb3
    have okne : ∀ k, (w1.heap.size ≤ k ∧ k < w2.heap.size) → k ≠ w.heap.size := fun k hk => by omega
    have okn2 : ∀ k, (w1.heap.size ≤ k ∧ k < w2.heap.size) → k ≠ w2.heap.size := fun k hk => by omega
    clear hb hb3
    go_upto_region 4 with fail
    generalize w2.alloc (.cells #[.int .i64 4, .int .i64 23456, .int .i64 hold, .int .u32 id, .slice A2 os9.length c2] 45) = w4 at *
    have x0 := blk_cell hM 0
    have x1 := blk_cell hM 1
    have x2 := blk_cell hM 2
    have x3 := blk_cell hM 3
    have x4 := blk_cell hM 4
    simp at x0 x1 x2 x3 x4
    have z0 := blk_frozen hM 0
    have z1 := blk_frozen hM 1
    have z2 := blk_frozen hM 2
    have z3 := blk_frozen hM 3
    have z4 := blk_frozen hM 4
    have y0 := blk_cell hO 0
    have y1 := blk_cell hO 1
    have y2 := blk_cell hO 2
    have y3 := blk_cell hO 3
    have y4 := blk_cell hO 4
    simp at y0 y1 y2 y3 y4
    go_wp2
    replace hv2 := Kd.N_far (Kd.N_far (Kd.N_far (Kd.N_far (Kd.N_far hv2 (p := ⟨w.heap.size, 0, none⟩) okne (.int .i64 4)) (p := ⟨w.heap.size, 1, none⟩) okne (.int .i64 (23456))) (p := ⟨w.heap.size, 2, none⟩) okne (.int .i64 hold)) (p := ⟨w.heap.size, 3, none⟩) okne (.int .u32 id)) (p := ⟨w.heap.size, 4, none⟩) okne (.slice A2 os9.length c2)
    obtain ⟨m1, m3⟩ := put45 (.int .i64 4) (.int .i64 (23456)) (.int .i64 hold) (.int .u32 id) (.slice A2 os9.length c2) hM HB (Nat.le_refl _)
    clear x0 x1 x2 x3 x4 z0 z1 z2 z3 z4 hM HB
    generalize ((((w4.setCell ⟨w.heap.size, 0, none⟩ (.int .i64 4)).setCell ⟨w.heap.size, 1, none⟩ (.int .i64 (23456))).setCell ⟨w.heap.size, 2, none⟩ (.int .i64 hold)).setCell ⟨w.heap.size, 3, none⟩ (.int .u32 id)).setCell ⟨w.heap.size, 4, none⟩ (.slice A2 os9.length c2) = wz at *
    have x0 := blk_cell m1 0
    have x1 := blk_cell m1 1
    have x2 := blk_cell m1 2
    have x3 := blk_cell m1 3
    have x4 := blk_cell m1 4
    simp at x0 x1 x2 x3 x4
    obtain ⟨A3, c3, e3, hc3, hC3⟩ := Kd.N_reads hv2
    injection e3 with q1 q2 q3
    subst q1 q3
    exact bodyPost_ret (v := .agg #[.int .i64 4, .int .i64 (23456), .int .i64 hold, .int .u32 id, .slice A2 os9.length c2]) (by simp [results, Tryd.results45, go_sem, x0, x1, x2, x3, x4]) rfl ⟨_, _, by rw [HS.out], hC3, hc3, m3⟩

theorem caps_le (l : List PA.S61) : (capsBytes l).1.length ≤ 255 := by
  unfold capsBytes
  split
  · exact Nat.zero_le _
  · split
    · exact Nat.zero_le _
    · show (packs [] [] l).length ≤ 255
      omega
theorem shortB (n : Int) (h0 : 0 ≤ n) : 0 ≤ shortOf n ∧ shortOf n < 65536 := by
  unfold shortOf
  split <;> omega
theorem few6_wf {l : List PA.S61} (h : ∀ x, x ∈ l → ∀ b, b ∈ x.f1 → 0 ≤ b ∧ b < 256) : CapsWf (few6 l) := by
  intro x hx
  unfold few6 at hx
  rw [List.mem_map] at hx
  obtain ⟨y, hy, rfl⟩ := hx
  refine ⟨?_, fun b hb => h y (List.mem_of_mem_take hy) b (List.mem_of_mem_take hb)⟩
  show (y.f1.take 300).length ≤ _
  rw [List.length_take]
  omega
/-- What Check tells lies in the numbers' ranges. -/
theorem oCheck_bd (an hold id : Int) (l : List PA.S61) (was own : Int) (inside : Bool) : (0 ≤ (oCheck an hold id l was own inside).1 ∧ (oCheck an hold id l was own inside).1 < 256) ∧ (0 ≤ (oCheck an hold id l was own inside).2.1 ∧ (oCheck an hold id l was own inside).2.1 < 256) := by
  unfold oCheck
  repeat' split
  all_goals exact ⟨by decide, by decide⟩

set_option maxHeartbeats 40000000 in
set_option maxRecDepth 100000 in
theorem OpenTells_walk (w : World) (hG : GlobC w) (hU : GlobU w) (hO : GlobO w) (ver an hold id : Int) (A : Option Addr) (c : Nat) (l : List PA.S61) (hC : PA.k61.C w A l.length l) (hc : l.length ≤ c) (hwf0 : ∀ x, x ∈ l → ∀ b, b ∈ x.f1 → 0 ≤ b ∧ b < 256)
    (was own : Int) (inside : Bool) (n hd : Int) (hv : 0 ≤ ver ∧ ver < 256) (ha : 0 ≤ an ∧ an < 65536) (hh : 0 ≤ hold ∧ hold < 65536) (hi : 0 ≤ id ∧ id < 4294967296) (hn0 : 0 ≤ n) (hn1 : n < 4294967296) (hd2 : 0 ≤ hd ∧ hd < 65536) :
    Calls Tryd.prog 11 #[.agg #[.int .u8 ver, .int .u16 an, .int .u16 hold, .int .u32 id, .slice A l.length c], .agg #[.int .u32 was, .int .u32 own, .bool inside], .int .u32 n, .int .u16 hd] w fun e w' => e = .returned (.bool true) ∧ Below w.heap.size w w' := by
  have hfw := few6_of l ver an hold id
  have hwf := few6_wf hwf0
  have hl12 := few6_len l
  have HFew := Aside0.mk hfw
  generalize few6 l = l1 at *
  have P1 := Aside0.mk (of6 l1 (by omega) ver an hold id hv ha hh)
  have P2 := Aside0.mk (put_of ver an hold id l1 (by omega) hv ha hh hi (caps_le l1))
  have P3 := Aside0.mk (num_of ver an hold id l1 (by omega) hwf ha)
  have P4 := Aside0.mk (check_of ver an hold id l1 (by omega) hwf ha hi was own inside)
  have Q1 := Aside0.mk (fun w A c hC hc => oPut_calls w A c l1 hC hc (by omega) ver an hold id ha hh hi (caps_le l1))
  have Q2 := Aside0.mk (fun w A c hC n is hn => oNumber_calls w A c l1 hC (by omega) hwf ver an hold id ha n is hn)
  have Q3 := Aside0.mk (fun w hU hO A c hC f0 f1 d hr => oCheck_calls w hU hO A c l1 hC (by omega) hwf ver an hold id ha was own inside f0 f1 d hr)
  have hbd := oCheck_bd an hold id l1 was own inside
  have S1 := shortB n hn0
  have P5 := Aside0.mk (of6 (ours n) (by simp [ours]) 4 (shortOf n) hd own (by omega) S1 hd2)
  have P6 := Aside0.mk (like6 ((ours n).map cap99) (by simp [ours]) 4 (shortOf n) hd own)
  have Q4 := Aside0.mk (fun w hU => oOurs_calls w hU n hd own hn0 hn1)
  have Q5 := Aside0.mk (fun w => rOurs_calls w n hd own hn0 hn1)
  have ol : ((ours n).map cap99).length = (ours n).length := List.length_map ..
  generalize (ours n).map cap99 = o9 at *
  generalize ours n = os at *
  generalize shortOf n = sn at *
  have hll9 : (l1.map cap99).length = l1.length := List.length_map ..
  generalize l1.map cap99 = l9 at *
  obtain ⟨bs, pe, hpb⟩ : ∃ bs pe, oPut ver an hold id l1 = (bs, pe) := ⟨_, _, rfl⟩
  rw [hpb] at Q1 P2
  obtain ⟨nn, is, hnn⟩ : ∃ nn is, oNumber an l1 = (nn, is) := ⟨_, _, rfl⟩
  rw [hnn] at P3
  obtain ⟨f0, f1, dd, hck⟩ : ∃ f0 f1 dd, oCheck an hold id l1 was own inside = (f0, f1, dd) := ⟨_, _, _, rfl⟩
  rw [hck] at P4 hbd
  simp only at hbd Q1 P2
  have k1 : IntKind.i64.wrap f0 = f0 := by rw [i64_w, w64 (by omega) (by omega)]
  have k2 : IntKind.i64.wrap f1 = f1 := by rw [i64_w, w64 (by omega) (by omega)]
  have k3 : IntKind.i64.wrap hd = hd := by rw [i64_w, w64 (by omega) (by omega)]
  have HN := Aside0.mk hnn
  have HK := Aside0.mk hck
  have HLL := Aside0.mk hll9
  have HOL := Aside0.mk ol
  have HL12 := Aside0.mk hl12
  clear hfw hwf hl12 hbd S1 hpb hnn hck hll9 ol hv ha hh hi hd2
  have b1 := below_alloc (Below.refl w.heap.size w) (.cells #[.int .u8 ver, .int .u16 an, .int .u16 hold, .int .u32 id, .slice A l.length c] 41)
  have hM := blk_new w (.cells #[.int .u8 ver, .int .u16 an, .int .u16 hold, .int .u32 id, .slice A l.length c] 41)
  obtain ⟨wa, hwa⟩ : ∃ wa, w.alloc (.cells #[.int .u8 ver, .int .u16 an, .int .u16 hold, .int .u32 id, .slice A l.length c] 41) = wa := ⟨_, rfl⟩
  have sa : wa.heap.size = w.heap.size + 1 := by rw [← hwa]; simp
  rw [hwa] at b1 hM
  have b2 := below_alloc (Below.refl wa.heap.size wa) (.cells #[.int .u32 was, .int .u32 own, .bool inside] 57)
  have hN := blk_new wa (.cells #[.int .u32 was, .int .u32 own, .bool inside] 57)
  replace hM := blk_below hM b2
  have HB := b1.trans (b2.mono b1.size)
  rw [sa] at hN
  subst hwa
  clear b1 b2 sa
  go_enter Tryd.func11, Tryd.ntmps11
  go_upto_region 1 with fail
  generalize (w.alloc (.cells #[.int .u8 ver, .int .u16 an, .int .u16 hold, .int .u32 id, .slice A l.length c] 41)).alloc (.cells #[.int .u32 was, .int .u32 own, .bool inside] 57) = w1 at *
  have hlt1 := blk_lt hN
  have hFd : Kd.F PA.k61 w1 (fun k => k < w.heap.size) A l.length l := fun W hW => PA.k61_heap.C (fun k hlt => (hW k hlt (by omega)).trans (HB.block k hlt)) hC
  have x0 := blk_cell hM 0
  have x1 := blk_cell hM 1
  have x2 := blk_cell hM 2
  have x3 := blk_cell hM 3
  have x4 := blk_cell hM 4
  simp at x0 x1 x2 x3 x4
  go_wp2_with fail
  refine (PA.consulatelaw06_Few.calls 13 ver an hold id (fun k => k < w.heap.size) A c l ver an hold id l1 w1 (Kd.V_mk hc hFd) HFew.out).mono ?_
  rintro e w2 ⟨v2, rfl, hv2, hb⟩
  replace HB := HB.trans (hb.mono HB.size)
  replace hM := blk_below hM hb
  replace hN := blk_below hN hb
  obtain ⟨A1, c1, rfl, hc1, _⟩ := Kd.N_reads hv2
  clear hb x0 x1 x2 x3 x4 hFd
  have x0 := blk_cell hM 0
  have x1 := blk_cell hM 1
  have x2 := blk_cell hM 2
  have x3 := blk_cell hM 3
  have x4 := blk_cell hM 4
  simp at x0 x1 x2 x3 x4
  have z0 := blk_frozen hM 0
  have z1 := blk_frozen hM 1
  have z2 := blk_frozen hM 2
  have z3 := blk_frozen hM 3
  have z4 := blk_frozen hM 4
  have okne : ∀ k, (k < w.heap.size ∨ w1.heap.size ≤ k) → k ≠ w.heap.size := fun k hk => by omega
  go_upto_region 2 with fail
  replace hv2 := Kd.N_far (Kd.N_far (Kd.N_far (Kd.N_far (Kd.N_far hv2 (p := ⟨w.heap.size, 0, none⟩) okne (.int .u8 ver)) (p := ⟨w.heap.size, 1, none⟩) okne (.int .u16 an)) (p := ⟨w.heap.size, 2, none⟩) okne (.int .u16 hold)) (p := ⟨w.heap.size, 3, none⟩) okne (.int .u32 id)) (p := ⟨w.heap.size, 4, none⟩) okne (.slice A1 l1.length c1)
  have neMN : w.heap.size + 1 ≠ w.heap.size := by omega
  replace hN := blk_far (blk_far (blk_far (blk_far (blk_far hN (p := ⟨w.heap.size, 0, none⟩) neMN (.int .u8 ver)) (p := ⟨w.heap.size, 1, none⟩) neMN (.int .u16 an)) (p := ⟨w.heap.size, 2, none⟩) neMN (.int .u16 hold)) (p := ⟨w.heap.size, 3, none⟩) neMN (.int .u32 id)) (p := ⟨w.heap.size, 4, none⟩) neMN (.slice A1 l1.length c1)
  obtain ⟨m1, m3⟩ := put45 (.int .u8 ver) (.int .u16 an) (.int .u16 hold) (.int .u32 id) (.slice A1 l1.length c1) hM HB (Nat.le_refl _)
  clear x0 x1 x2 x3 x4 z0 z1 z2 z3 z4 hM HB okne neMN
  generalize ((((w2.setCell ⟨w.heap.size, 0, none⟩ (.int .u8 ver)).setCell ⟨w.heap.size, 1, none⟩ (.int .u16 an)).setCell ⟨w.heap.size, 2, none⟩ (.int .u16 hold)).setCell ⟨w.heap.size, 3, none⟩ (.int .u32 id)).setCell ⟨w.heap.size, 4, none⟩ (.slice A1 l1.length c1) = w3 at *
  have hM := m1
  have HB := m3
  obtain ⟨A1', c1', e1, hc1', hC1⟩ := Kd.N_reads hv2
  injection e1 with q1 q2 q3
  subst q1 q3
  clear m1 m3 q2 hv2 hc1'
  have x0 := blk_cell hM 0
  have x1 := blk_cell hM 1
  have x2 := blk_cell hM 2
  have x3 := blk_cell hM 3
  have x4 := blk_cell hM 4
  simp at x0 x1 x2 x3 x4
  go_wp2_with fail
  refine (PA.consulatelaw06_Of.calls (l1.length + 1) ver an hold id (fun k => k < w3.heap.size) A1 c1 l1 ver an hold id l9 w3 (Kd.V_mk hc1 (Kd.C_F PA.k61_heap hC1)) P1.out).mono ?_
  rintro e w4 ⟨v4, rfl, hv4, hb⟩
  replace HB := HB.trans (hb.mono HB.size)
  clear x0 x1 x2 x3 x4
  replace hM := blk_below hM hb
  replace hN := blk_below hN hb
  replace hC1 := Kd.C_below hC1 hb
  obtain ⟨A4, c4, rfl, hc4, hC4⟩ := Kd.N_reads hv4
  clear hv4
  clear hb
  have hR := blk_new w4 (.cells #[.int .i64 ver, .int .i64 an, .int .i64 hold, .int .u32 id, .slice A4 l9.length c4] 45)
  have hb := below_alloc (Below.refl w4.heap.size w4) (.cells #[.int .i64 ver, .int .i64 an, .int .i64 hold, .int .u32 id, .slice A4 l9.length c4] 45)
  replace HB := HB.trans (hb.mono HB.size)
  replace hM := blk_below hM hb
  replace hN := blk_below hN hb
  replace hC1 := Kd.C_below hC1 hb
  replace hC4 := Kd.C_below hC4 hb
  clear hb
  have x0 := blk_cell hM 0
  have x1 := blk_cell hM 1
  have x2 := blk_cell hM 2
  have x3 := blk_cell hM 3
  have x4 := blk_cell hM 4
  simp at x0 x1 x2 x3 x4
  go_wp2_with fail
  refine (Q1.out _ A1 c1 hC1 hc1).mono ?_
  rintro e w5 ⟨v5, rfl, hv5, hb⟩
  replace HB := HB.trans (hb.mono HB.size)
  clear x0 x1 x2 x3 x4
  replace hM := blk_below hM hb
  replace hN := blk_below hN hb
  replace hC1 := Kd.C_below hC1 hb
  replace hC4 := Kd.C_below hC4 hb
  replace hR := blk_below hR hb
  obtain ⟨A5, c5, rfl, hc5, hC5⟩ := Kd.R_reads hv5
  clear hv5
  clear hb
  have y0 := blk_cell hR 0
  have y1 := blk_cell hR 1
  have y2 := blk_cell hR 2
  have y3 := blk_cell hR 3
  have y4 := blk_cell hR 4
  simp at y0 y1 y2 y3 y4
  go_wp2_with fail
  refine (PA.consulateref06_Put.calls (2 * l1.length + 2) ver an hold id A4 c4 l9 bs pe _ hC4 hc4 P2.out).mono ?_
  rintro e w6 ⟨v6, rfl, hv6, hb⟩
  replace HB := HB.trans (hb.mono HB.size)
  clear y0 y1 y2 y3 y4
  replace hM := blk_below hM hb
  replace hN := blk_below hN hb
  replace hC1 := Kd.C_below hC1 hb
  replace hC4 := Kd.C_below hC4 hb
  replace hR := blk_below hR hb
  replace hC5 := Kd.C_below hC5 hb
  obtain ⟨A6, c6, rfl, hc6, hC6⟩ := Kd.R_reads hv6
  clear hv6
  clear hb
  have x0 := blk_cell hM 0
  have x1 := blk_cell hM 1
  have x2 := blk_cell hM 2
  have x3 := blk_cell hM 3
  have x4 := blk_cell hM 4
  simp at x0 x1 x2 x3 x4
  go_wp2_with fail
  refine (Q2.out _ A1 c1 hC1 nn is HN.out).mono ?_
  rintro e w7 ⟨rfl, hb⟩
  replace HB := HB.trans (hb.mono HB.size)
  clear x0 x1 x2 x3 x4
  replace hM := blk_below hM hb
  replace hN := blk_below hN hb
  replace hC1 := Kd.C_below hC1 hb
  replace hC4 := Kd.C_below hC4 hb
  replace hR := blk_below hR hb
  replace hC5 := Kd.C_below hC5 hb
  replace hC6 := Kd.C_below hC6 hb
  clear hb
  have y0 := blk_cell hR 0
  have y1 := blk_cell hR 1
  have y2 := blk_cell hR 2
  have y3 := blk_cell hR 3
  have y4 := blk_cell hR 4
  simp at y0 y1 y2 y3 y4
  go_wp2_with fail
  refine (PA.consulateref06_Number.calls (l1.length + 1) ver an hold id A4 c4 l9 nn is _ hC4 hc4 P3.out).mono ?_
  rintro e w8 ⟨rfl, hb⟩
  replace HB := HB.trans (hb.mono HB.size)
  clear y0 y1 y2 y3 y4
  replace hM := blk_below hM hb
  replace hN := blk_below hN hb
  replace hC1 := Kd.C_below hC1 hb
  replace hC4 := Kd.C_below hC4 hb
  replace hR := blk_below hR hb
  replace hC5 := Kd.C_below hC5 hb
  replace hC6 := Kd.C_below hC6 hb
  clear hb
  have x0 := blk_cell hM 0
  have x1 := blk_cell hM 1
  have x2 := blk_cell hM 2
  have x3 := blk_cell hM 3
  have x4 := blk_cell hM 4
  simp at x0 x1 x2 x3 x4
  have n0 := blk_cell hN 0
  have n1 := blk_cell hN 1
  have n2 := blk_cell hN 2
  simp at n0 n1 n2
  go_wp2_with fail
  refine (Q3.out _ (hU.below HB) (hO.below HB) A1 c1 hC1 f0 f1 dd HK.out).mono ?_
  rintro e w9 ⟨D7, d7, rfl, hD7, hd7, hb⟩
  replace HB := HB.trans (hb.mono HB.size)
  clear x0 x1 x2 x3 x4 n0 n1 n2
  replace hM := blk_below hM hb
  replace hN := blk_below hN hb
  replace hC1 := Kd.C_below hC1 hb
  replace hC4 := Kd.C_below hC4 hb
  replace hR := blk_below hR hb
  replace hC5 := Kd.C_below hC5 hb
  replace hC6 := Kd.C_below hC6 hb
  clear hb
  have hF := FB.new w9 f0 f1
  have hb := below_alloc (Below.refl w9.heap.size w9) (.cells #[.int .u8 f0, .int .u8 f1] 26)
  replace HB := HB.trans (hb.mono HB.size)
  replace hM := blk_below hM hb
  replace hN := blk_below hN hb
  replace hC1 := Kd.C_below hC1 hb
  replace hC4 := Kd.C_below hC4 hb
  replace hR := blk_below hR hb
  replace hC5 := Kd.C_below hC5 hb
  replace hC6 := Kd.C_below hC6 hb
  replace hD7 := Kd.C_below hD7 hb
  clear hb
  have y0 := blk_cell hR 0
  have y1 := blk_cell hR 1
  have y2 := blk_cell hR 2
  have y3 := blk_cell hR 3
  have y4 := blk_cell hR 4
  simp at y0 y1 y2 y3 y4
  have n0 := blk_cell hN 0
  have n1 := blk_cell hN 1
  have n2 := blk_cell hN 2
  simp at n0 n1 n2
  go_wp2_with fail
  refine (PA.consulateref06_Check.calls (l1.length + 4) ver an hold id A4 c4 l9 was own inside f0 f1 dd _ hC4 hc4 P4.out).mono ?_
  rintro e w10 ⟨v10, rfl, hv10, hb⟩
  replace HB := HB.trans (hb.mono HB.size)
  clear y0 y1 y2 y3 y4 n0 n1 n2
  replace hM := blk_below hM hb
  replace hN := blk_below hN hb
  replace hC1 := Kd.C_below hC1 hb
  replace hC4 := Kd.C_below hC4 hb
  replace hR := blk_below hR hb
  replace hC5 := Kd.C_below hC5 hb
  replace hC6 := Kd.C_below hC6 hb
  replace hD7 := Kd.C_below hD7 hb
  replace hF := hF.below hb
  obtain ⟨D10, d10, rfl, hd10, hD10⟩ := Kd.R_reads hv10
  clear hv10
  clear hb
  have n0 := blk_cell hN 0
  have n1 := blk_cell hN 1
  have n2 := blk_cell hN 2
  simp at n0 n1 n2
  go_upto_region 9 with fail
  refine start_ (n := 14) (S := fun w' => Below w10.heap.size w10 w') (ds := []) #[false, false, false, false, false, false, false, false, false, false, false, false, false, false] (by kernel_rfl) rfl rfl (below_drew (Below.refl _ _)) (fun hHeld => ?_)
  refine pure_ (i := 0) (N := (some 66)) (v := ?_) (a' := ?_) #[true, false, false, false, false, false, false, false, false, false, false, false, false, false] rfl rfl (by kernel_rfl) (fun _ _ _ h => h) (Or.inl ⟨by rfl, ?_⟩) ?_ ?_
  rotate_left
  · intro w'
    go_simp
    with_reducible rfl
  rotate_left
  · simp only [Act.put, List.setIfInBounds_toArray, List.set_cons_zero, List.set_cons_succ, i64_w, i32_w]
    rfl
  refine pure_ (i := 1) (N := (some 67)) (v := ?_) (a' := ?_) #[true, true, false, false, false, false, false, false, false, false, false, false, false, false] rfl rfl (by kernel_rfl) (fun _ _ _ h => h) (Or.inl ⟨by rfl, ?_⟩) ?_ ?_
  rotate_left
  · intro w'
    go_simp
    with_reducible rfl
  rotate_left
  · simp only [Act.put, List.setIfInBounds_toArray, List.set_cons_zero, List.set_cons_succ, i64_w, i32_w]
    rfl
  refine pure_ (i := 2) (N := (some 68)) (v := ?_) (a' := ?_) #[true, true, true, false, false, false, false, false, false, false, false, false, false, false] rfl rfl (by kernel_rfl) (fun _ _ _ h => h) (Or.inl ⟨by rfl, ?_⟩) ?_ ?_
  rotate_left
  · intro w'
    go_simp
    with_reducible rfl
  rotate_left
  · simp only [Act.put, List.setIfInBounds_toArray, List.set_cons_zero, List.set_cons_succ, i64_w, i32_w]
    rfl
  refine take_ (i := 3) (N := (some 69)) (v := ?_) (a' := ?_) #[true, true, true, true, false, false, false, false, false, false, false, false, false, false] rfl rfl (by kernel_rfl) (fun _ _ _ h => h) (Or.inl ⟨by rfl, ?_⟩) hHeld ?_ ?_
  rotate_left
  · rintro w' hbw
    have y := pw_cell_below hbw n1
    go_simp
    with_reducible rfl
  rotate_left
  · simp only [Act.put, List.setIfInBounds_toArray, List.set_cons_zero, List.set_cons_succ, i64_w, i32_w]
    rfl
  refine pure_ (i := 6) (N := (some 72)) (v := ?_) (a' := ?_) #[true, true, true, true, false, false, true, false, false, false, false, false, false, false] rfl rfl (by kernel_rfl) (fun _ _ _ h => h) (Or.inl ⟨by rfl, ?_⟩) ?_ ?_
  rotate_left
  · intro w'
    go_simp
    with_reducible rfl
  rotate_left
  · simp only [Act.put, List.setIfInBounds_toArray, List.set_cons_zero, List.set_cons_succ, i64_w, i32_w]
    rfl
  refine pure_ (i := 7) (N := (some 73)) (v := ?_) (a' := ?_) #[true, true, true, true, false, false, true, true, false, false, false, false, false, false] rfl rfl (by kernel_rfl) (fun _ _ _ h => h) (Or.inl ⟨by rfl, ?_⟩) ?_ ?_
  rotate_left
  · intro w'
    go_simp
    with_reducible rfl
  rotate_left
  · simp only [Act.put, List.setIfInBounds_toArray, List.set_cons_zero, List.set_cons_succ, i64_w, i32_w]
    rfl
  refine pure_ (i := 8) (N := (some 74)) (v := ?_) (a' := ?_) #[true, true, true, true, false, false, true, true, true, false, false, false, false, false] rfl rfl (by kernel_rfl) (fun _ _ _ h => h) (Or.inl ⟨by rfl, ?_⟩) ?_ ?_
  rotate_left
  · intro w'
    go_simp
    with_reducible rfl
  rotate_left
  · simp only [Act.put, List.setIfInBounds_toArray, List.set_cons_zero, List.set_cons_succ, i64_w, i32_w]
    rfl
  refine pure_ (i := 9) (N := (some 75)) (v := ?_) (a' := ?_) #[true, true, true, true, false, false, true, true, true, true, false, false, false, false] rfl rfl (by kernel_rfl) (fun _ _ _ h => h) (Or.inl ⟨by rfl, ?_⟩) ?_ ?_
  rotate_left
  · intro w'
    go_simp
    with_reducible rfl
  rotate_left
  · simp only [Act.put, List.setIfInBounds_toArray, List.set_cons_zero, List.set_cons_succ, i64_w, i32_w]
    rfl
  refine take_ (i := 10) (N := (some 76)) (v := ?_) (a' := ?_) #[true, true, true, true, false, false, true, true, true, true, true, false, false, false] rfl rfl (by kernel_rfl) (fun _ _ _ h => h) (Or.inl ⟨by rfl, ?_⟩) hHeld ?_ ?_
  rotate_left
  · rintro w' hbw
    have y := pw_cell_below hbw n1
    go_simp
    with_reducible rfl
  rotate_left
  · simp only [Act.put, List.setIfInBounds_toArray, List.set_cons_zero, List.set_cons_succ, i64_w, i32_w]
    rfl
  have G0 := HB.trans (hHeld.mono HB.size)
  refine one_ (i := 4) (N := (some 70)) #[true, true, true, true, true, false, true, true, true, true, true, false, false, false] rfl rfl (by kernel_rfl) (by decide) (fun K hK => ?_)
  refine goes_ Tryd.func26 (by kernel_rfl) rfl #[.int .u32 n, .int .u16 hd, .int .u32 own] (by rfl) rfl rfl (by simp [Act.eval]) ?_
  refine (Q4.out _ (hU.below G0)).mono ?_
  rintro e wa ⟨Aa, ca, rfl, hCa, hca, hba⟩
  have ga := hHeld.trans (hba.mono hHeld.size)
  clear G0
  refine ⟨_, rfl, ?_⟩
  refine hK.out _ _ (ga) (fun hHeld => ?_)
  clear hK K
  refine norm_ (a' := ?_) ?_ ?_
  rotate_left
  · show Act.put _ (some 70) _ = _
    simp only [Act.put, List.setIfInBounds_toArray, List.set_cons_zero, List.set_cons_succ, i64_w, i32_w]
    rfl
  refine one_ (i := 5) (N := (some 71)) #[true, true, true, true, true, true, true, true, true, true, true, false, false, false] rfl rfl (by kernel_rfl) (by decide) (fun K hK => ?_)
  refine goes_ Tryd.func24 (by kernel_rfl) rfl #[.agg #[.int .u8 4, .int .u16 sn, .int .u16 hd, .int .u32 own, .slice Aa os.length ca]] (by rfl) rfl rfl (by simp [Act.eval]) ?_
  refine (PA.consulatelaw06_Of.calls (os.length + 1) 4 sn hd own (fun k => k < wa.heap.size) Aa ca os 4 sn hd own o9 wa (Kd.V_mk hca (Kd.C_F PA.k61_heap hCa)) P5.out).mono ?_
  rintro e wb ⟨vb, rfl, hvb, hbb⟩
  obtain ⟨Ab, cb, rfl, hcb, hCb⟩ := Kd.N_reads hvb
  have gb := hHeld.trans (hbb.mono hHeld.size)
  refine ⟨_, rfl, ?_⟩
  refine hK.out _ _ (gb) (fun hHeld => ?_)
  clear hK K
  refine norm_ (a' := ?_) ?_ ?_
  rotate_left
  · show Act.put _ (some 71) _ = _
    simp only [Act.put, List.setIfInBounds_toArray, List.set_cons_zero, List.set_cons_succ, i64_w, i32_w]
    rfl
  refine one_ (i := 11) (N := (some 77)) #[true, true, true, true, true, true, true, true, true, true, true, true, false, false] rfl rfl (by kernel_rfl) (by decide) (fun K hK => ?_)
  refine goes_ Tryd.func45 (by kernel_rfl) rfl #[.int .u32 n, .int .i64 hd, .int .u32 own] (by rfl) rfl rfl (by simp [Act.eval]) ?_
  refine (Q5.out wb).mono ?_
  rintro e wc ⟨Ac, cc, rfl, hCc, hcc, hbc⟩
  have gc := hHeld.trans (hbc.mono hHeld.size)
  replace hCb := Kd.C_below hCb hbc
  refine ⟨_, rfl, ?_⟩
  refine hK.out _ _ (gc) (fun hHeld => ?_)
  clear hK K
  refine norm_ (a' := ?_) ?_ ?_
  rotate_left
  · show Act.put _ (some 77) _ = _
    simp only [Act.put, List.setIfInBounds_toArray, List.set_cons_zero, List.set_cons_succ, i64_w, i32_w]
    rfl
  refine one_ (i := 12) (N := (some 78)) #[true, true, true, true, true, true, true, true, true, true, true, true, true, false] rfl rfl (by kernel_rfl) (by decide) (fun K hK => ?_)
  refine goes_ Tryd.func23 (by kernel_rfl) rfl #[.agg #[.int .i64 4, .int .i64 sn, .int .i64 hd, .int .u32 own, .slice Ab o9.length cb], .agg #[.int .i64 4, .int .i64 sn, .int .i64 hd, .int .u32 own, .slice Ac o9.length cc]] (by rfl) rfl rfl (by simp [Act.eval]) ?_
  refine (PA.consulatelaw06_Like.calls (o9.length + 2) 4 sn hd own Ab cb o9 4 sn hd own Ac cc o9 true wc hCb hcb hCc hcc P6.out).mono ?_
  rintro e we ⟨rfl, hbe⟩
  have ge := hHeld.trans (hbe.mono hHeld.size)
  refine ⟨_, rfl, ?_⟩
  refine hK.out _ _ (ge) (fun hHeld => ?_)
  clear hK K
  refine norm_ (a' := ?_) ?_ ?_
  rotate_left
  · show Act.put _ (some 78) _ = _
    simp only [Act.put, List.setIfInBounds_toArray, List.set_cons_zero, List.set_cons_succ, i64_w, i32_w]
    rfl
  refine pure_ (i := 13) (N := (some 23)) (v := ?_) (a' := ?_) #[true, true, true, true, true, true, true, true, true, true, true, true, true, true] rfl rfl (by kernel_rfl) (fun _ _ _ h => h) (Or.inl ⟨by rfl, ?_⟩) ?_ ?_
  rotate_left
  · intro w'
    go_simp
    with_reducible rfl
  rotate_left
  · simp only [Act.put, List.setIfInBounds_toArray, List.set_cons_zero, List.set_cons_succ, i64_w, i32_w]
    rfl
  refine done_ (by kernel_rfl) ?_
  have hb := hHeld
  replace HB := HB.trans (hb.mono HB.size)
  replace hC5 := Kd.C_below hC5 hb
  replace hC6 := Kd.C_below hC6 hb
  replace hD7 := Kd.C_below hD7 hb
  replace hF := hF.below hb
  replace hD10 := Kd.C_below hD10 hb
  clear hb hHeld
  have u0 := hF.c0
  have u1 := hF.c1
  have cv5 := Kd.C_string (P := Tryd.prog) (A := A5) (c := c5) Tryd.underlying22 Tryd.underlying5 Tryd.underlying9 hC5
  have cv6 := Kd.C_string (P := Tryd.prog) (A := A6) (c := c6) Tryd.underlying22 Tryd.underlying5 Tryd.underlying9 hC6
  have cv7 := Kd.C_string (P := Tryd.prog) (A := D7) (c := d7) Tryd.underlying22 Tryd.underlying5 Tryd.underlying9 hD7
  have cv8 := Kd.C_string (P := Tryd.prog) (A := D10) (c := d10) Tryd.underlying22 Tryd.underlying5 Tryd.underlying9 hD10
  go_wp2_with fail
  refine (tells_calls _ (hG.below HB) (hU.below HB) (hO.below HB)).mono ?_
  rintro e wf ⟨rfl, hb⟩
  go_wp2
  go_ret
  exact ⟨rfl, HB.trans (hb.mono HB.size)⟩
end Go.Proofs.YthafedmlbialiaaDoor
