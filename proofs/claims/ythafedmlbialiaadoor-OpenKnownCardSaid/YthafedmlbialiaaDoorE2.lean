/-
  The walk of open's Check.
-/
import Derived.Test.YthafedmlbialiaaDoorE0
namespace Go.Proofs.YthafedmlbialiaaDoor
open Go.RowKit Go.Proofs.YthafedmlbialiaaDoorW.PrintWords Go.Proofs.YthafedmlbialiaaDoorW.PrintLast Go.Proofs.YthafedmlbialiaaDoorW.PrintMore
set_option linter.unusedVariables false
set_option linter.unusedSimpArgs false

/-- Block M is an OPEN. -/
def Bk41 (w : World) (M : Nat) (ver an hold id : Int) (A : Option Addr) (n c : Nat) : Prop := w.heap[M]? = some (.cells #[.int .u8 ver, .int .u16 an, .int .u16 hold, .int .u32 id, .slice A n c] 41 (0, 0))
/-- Block N is what is wanted. -/
def Bk57 (w : World) (N : Nat) (was own : Int) (inside : Bool) : Prop := w.heap[N]? = some (.cells #[.int .u32 was, .int .u32 own, .bool inside] 57 (0, 0))

set_option maxHeartbeats 1600000 in
set_option maxRecDepth 100000 in
theorem chk69 (w : World) (M N : Nat) (ver an hold id : Int) (A : Option Addr) (c : Nat) (l : List PA.S61) (was own : Int) (inside : Bool) (hM : Bk41 w M ver an hold id A l.length c) (hN : Bk57 w N was own inside)
    (hC : PA.k61.C w A l.length l) (hl : l.length ≤ 140737488351232) (hwf : CapsWf l) (ha : 0 ≤ an ∧ an < 65536) (n : Int) (is : Bool) (hn : oNumber an l = (n, is)) :
    Calls Tryd.prog 69 #[.pointer (some ⟨M, 0, none⟩), .pointer (some ⟨N, 0, none⟩)] w fun e w' => e = .returned (.bool (!is || n != was)) ∧ Below w.heap.size w w' := by
  have c0 := blk_cell hM 0
  have c1 := blk_cell hM 1
  have c2 := blk_cell hM 2
  have c3 := blk_cell hM 3
  have c4 := blk_cell hM 4
  simp at c0 c1 c2 c3 c4
  have H := Aside0.mk (oNumber_calls w A c l hC hl hwf ver an hold id ha n is hn)
  go_enter Tryd.func69, Tryd.ntmps69
  go_wp2_with fail
  refine (H.out).mono ?_
  rintro e w1 ⟨rfl, hb⟩
  have hN1 := blk_below hN hb
  have d0 := blk_cell hN1 0
  simp at d0
  cases is with
  | false =>
    go_wp2
    go_ret
    exact ⟨rfl, hb⟩
  | true =>
    go_wp2
    go_ret
    exact ⟨by simp, hb⟩

set_option maxHeartbeats 1600000 in
set_option maxRecDepth 100000 in
theorem chk70 (w : World) (M N : Nat) (ver an hold id : Int) (A : Option Addr) (c n : Nat) (was own : Int) (inside : Bool) (hM : Bk41 w M ver an hold id A n c) (hN : Bk57 w N was own inside) :
    Calls Tryd.prog 70 #[.pointer (some ⟨M, 0, none⟩), .pointer (some ⟨N, 0, none⟩)] w fun e w' => e = .returned (.bool (id == 0 || decide (id ≥ 3758096384) || (inside && id == own))) ∧ Below w.heap.size w w' := by
  have c3 := blk_cell hM 3
  have d1 := blk_cell hN 1
  have d2 := blk_cell hN 2
  simp at c3 d1 d2
  by_cases h0 : id = 0
  · have n0 : (id == 0) = true := by simp [h0]
    rw [n0]
    go_enter Tryd.func70, Tryd.ntmps70
    go_wp2
    go_ret
    exact ⟨rfl, Below.refl _ _⟩
  · have n0 : (id == 0) = false := by simp [h0]
    rw [n0]
    by_cases h1 : id ≥ 3758096384
    · have n1 : decide (id ≥ 3758096384) = true := decide_eq_true h1
      have n2 : decide (3758096384 ≤ id) = true := decide_eq_true h1
      rw [n1]
      clear h0 h1
      go_enter Tryd.func70, Tryd.ntmps70
      go_wp2
      go_ret
      exact ⟨rfl, Below.refl _ _⟩
    · have n1 : decide (id ≥ 3758096384) = false := decide_eq_false h1
      have n2 : decide (3758096384 ≤ id) = false := decide_eq_false h1
      rw [n1]
      cases inside with
      | false =>
        clear h0 h1
        go_enter Tryd.func70, Tryd.ntmps70
        go_wp2
        go_ret
        exact ⟨rfl, Below.refl _ _⟩
      | true =>
        clear h0 h1
        go_enter Tryd.func70, Tryd.ntmps70
        go_wp2
        go_ret
        exact ⟨rfl, Below.refl _ _⟩

set_option maxHeartbeats 1600000 in
set_option maxRecDepth 100000 in
theorem chk71 (w : World) (M : Nat) (ver an hold id : Int) (A : Option Addr) (c n : Nat) (hM : Bk41 w M ver an hold id A n c) :
    Calls Tryd.prog 71 #[.pointer (some ⟨M, 0, none⟩)] w fun e w' => e = .returned (.bool (decide (hold > 0) && decide (hold < 3))) ∧ Below w.heap.size w w' := by
  have c2 := blk_cell hM 2
  simp at c2
  by_cases h0 : hold > 0
  · have n0 : decide (hold > 0) = true := decide_eq_true h0
    have n1 : decide (0 < hold) = true := decide_eq_true h0
    rw [n0]
    go_enter Tryd.func71, Tryd.ntmps71
    go_wp2
    go_ret
    exact ⟨rfl, Below.refl _ _⟩
  · have n0 : decide (hold > 0) = false := decide_eq_false h0
    have n1 : decide (0 < hold) = false := decide_eq_false h0
    rw [n0]
    go_enter Tryd.func71, Tryd.ntmps71
    go_wp2
    go_ret
    exact ⟨rfl, Below.refl _ _⟩

set_option maxHeartbeats 1600000 in
set_option maxRecDepth 100000 in
theorem chk72 (w : World) (hU : GlobU w) (M : Nat) (ver an hold id : Int) (A : Option Addr) (c : Nat) (l : List PA.S61) (hM : Bk41 w M ver an hold id A l.length c) (hC : PA.k61.C w A l.length l) (hl : l.length ≤ 140737488351232) :
    Calls Tryd.prog 72 #[.pointer (some ⟨M, 0, none⟩)] w fun e w' => e = .returned (.bool (!capsIPv4 l)) ∧ Below w.heap.size w w' := by
  have c4 := blk_cell hM 4
  simp at c4
  have H := Aside0.mk (IPv4_calls w hU A c l hC hl)
  go_enter Tryd.func72, Tryd.ntmps72
  go_wp2_with fail
  refine (H.out).mono ?_
  rintro e w1 ⟨rfl, hb⟩
  go_wp2
  go_ret
  exact ⟨rfl, hb⟩

/-- Check: the fault and its data. -/
def oCheck (an hold id : Int) (l : List PA.S61) (was own : Int) (inside : Bool) : Int × Int × List Int :=
  if (!(oNumber an l).2 || (oNumber an l).1 != was) = true then (2, 2, [])
  else if (id == 0 || decide (id ≥ 3758096384) || (inside && id == own)) = true then (2, 3, [])
  else if (decide (hold > 0) && decide (hold < 3)) = true then (2, 6, [])
  else if (!capsIPv4 l) = true then (2, 7, [1, 4, 0, 1, 0, 1])
  else (0, 0, [])

/-- What Check hands back. -/
def CheckPost (w : World) (f0 f1 : Int) (d : List Int) (e : Ending) (w' : World) : Prop :=
  ∃ D dc, e = .returned (.tuple #[.agg #[.int .u8 f0, .int .u8 f1], .slice D d.length dc]) ∧ (Kd.int .u8).C w' D d.length d ∧ d.length ≤ dc ∧ Below w.heap.size w w'

set_option maxHeartbeats 4000000 in
set_option maxRecDepth 100000 in
theorem oCheck_calls (w : World) (hU : GlobU w) (hO : GlobO w) (A : Option Addr) (c : Nat) (l : List PA.S61) (hC : PA.k61.C w A l.length l) (hl : l.length ≤ 140737488351232) (hwf : CapsWf l) (ver an hold id : Int) (ha : 0 ≤ an ∧ an < 65536) (was own : Int) (inside : Bool)
    (f0 f1 : Int) (d : List Int) (hr : oCheck an hold id l was own inside = (f0, f1, d)) :
    Calls Tryd.prog 28 #[.agg #[.int .u8 ver, .int .u16 an, .int .u16 hold, .int .u32 id, .slice A l.length c], .agg #[.int .u32 was, .int .u32 own, .bool inside]] w (CheckPost w f0 f1 d) := by
  have hmf : ∀ (fn : Fn) (first cap : Array Value) (w : World), (Instr.makeFunc fn first cap).run Tryd.prog w = .ok (.func fn first cap) w := fun _ _ _ _ => rfl
  obtain ⟨n, is, hn⟩ : ∃ n is, oNumber an l = (n, is) := ⟨_, _, rfl⟩
  unfold oCheck at hr
  rw [hn] at hr
  have R1 := Aside0.mk (fun w M N hM hN hC => chk69 w M N ver an hold id A c l was own inside hM hN hC hl hwf ha n is hn)
  have R2 := Aside0.mk (fun w M N hM hN => chk70 w M N ver an hold id A c l.length was own inside hM hN)
  have R3 := Aside0.mk (fun w M hM => chk71 w M ver an hold id A c l.length hM)
  have R4 := Aside0.mk (fun w hU M hM hC => chk72 w hU M ver an hold id A c l hM hC hl)
  change (if (!is || n != was) = true then ((2 : Int), (2 : Int), ([] : List Int)) else _) = _ at hr
  generalize (!is || n != was) = X1 at *
  generalize (id == 0 || decide (id ≥ 3758096384) || (inside && id == own)) = X2 at *
  generalize (decide (hold > 0) && decide (hold < 3)) = X3 at *
  generalize (!capsIPv4 l) = X4 at *
  have HR := Aside0.mk hr
  clear hr hn hwf
  have b1 := below_alloc (Below.refl w.heap.size w) (.cells #[.int .u8 ver, .int .u16 an, .int .u16 hold, .int .u32 id, .slice A l.length c] 41)
  have hM : Bk41 _ _ ver an hold id A l.length c := blk_new w (.cells #[.int .u8 ver, .int .u16 an, .int .u16 hold, .int .u32 id, .slice A l.length c] 41)
  obtain ⟨wa, hwa⟩ : ∃ wa, w.alloc (.cells #[.int .u8 ver, .int .u16 an, .int .u16 hold, .int .u32 id, .slice A l.length c] 41) = wa := ⟨_, rfl⟩
  have sa : wa.heap.size = w.heap.size + 1 := by rw [← hwa]; simp
  rw [hwa] at b1 hM
  have b2 := below_alloc (Below.refl wa.heap.size wa) (.cells #[.int .u32 was, .int .u32 own, .bool inside] 57)
  have hN : Bk57 _ _ was own inside := blk_new wa (.cells #[.int .u32 was, .int .u32 own, .bool inside] 57)
  replace hM : Bk41 _ _ ver an hold id A l.length c := blk_below hM b2
  obtain ⟨wb, hwb⟩ : ∃ wb, wa.alloc (.cells #[.int .u32 was, .int .u32 own, .bool inside] 57) = wb := ⟨_, rfl⟩
  have sb : wb.heap.size = w.heap.size + 1 + 1 := by rw [← hwb]; simp [sa]
  rw [hwb] at b2 hM hN
  have b3 := below_alloc (Below.refl wb.heap.size wb) (.cells #[.int .u8 0, .int .u8 0] 26)
  have hF := FB.new wb 0 0
  replace hM : Bk41 _ _ ver an hold id A l.length c := blk_below hM b3
  replace hN : Bk57 _ _ was own inside := blk_below hN b3
  have HB := b1.trans ((b2.mono b1.size).trans (b3.mono (Nat.le_trans b1.size b2.size)))
  rw [sa] at hN
  rw [sb] at hF
  obtain ⟨_, B6, e6, g6, hB6, hc6⟩ := hO
  replace g6 := pw_cell_below HB g6
  replace hB6 := Kd.C_below hB6 HB
  replace hC := Kd.C_below hC HB
  replace hU := hU.below HB
  clear b1 b2 b3 sa sb
  subst hwb
  subst hwa
  go_enter Tryd.func28, Tryd.ntmps28
  go_wp2_with fail
  generalize ((w.alloc (.cells #[.int .u8 ver, .int .u16 an, .int .u16 hold, .int .u32 id, .slice A l.length c] 41)).alloc (.cells #[.int .u32 was, .int .u32 own, .bool inside] 57)).alloc (.cells #[.int .u8 0, .int .u8 0] 26) = w3 at *
  have hix0 : ∀ W : World, (Instr.index 106 (.agg #[.int .u8 2, .func (.func 69) #[] #[.pointer (some ⟨w.heap.size, 0, none⟩), .pointer (some ⟨w.heap.size + 1, 0, none⟩)], .slice none 0 0, .int .u8 3, .func (.func 70) #[] #[.pointer (some ⟨w.heap.size, 0, none⟩), .pointer (some ⟨w.heap.size + 1, 0, none⟩)], .slice none 0 0, .int .u8 6, .func (.func 71) #[] #[.pointer (some ⟨w.heap.size, 0, none⟩)], .slice none 0 0, .int .u8 7, .func (.func 72) #[] #[.pointer (some ⟨w.heap.size, 0, none⟩)], .slice B6 6 e6]) (.int .i64 0)).run Tryd.prog W = .ok (.agg #[.int .u8 2, .func (.func 69) #[] #[.pointer (some ⟨w.heap.size, 0, none⟩), .pointer (some ⟨w.heap.size + 1, 0, none⟩)], .slice none 0 0]) W := fun _ => by kernel_rfl
  have hix1 : ∀ W : World, (Instr.index 106 (.agg #[.int .u8 2, .func (.func 69) #[] #[.pointer (some ⟨w.heap.size, 0, none⟩), .pointer (some ⟨w.heap.size + 1, 0, none⟩)], .slice none 0 0, .int .u8 3, .func (.func 70) #[] #[.pointer (some ⟨w.heap.size, 0, none⟩), .pointer (some ⟨w.heap.size + 1, 0, none⟩)], .slice none 0 0, .int .u8 6, .func (.func 71) #[] #[.pointer (some ⟨w.heap.size, 0, none⟩)], .slice none 0 0, .int .u8 7, .func (.func 72) #[] #[.pointer (some ⟨w.heap.size, 0, none⟩)], .slice B6 6 e6]) (.int .i64 1)).run Tryd.prog W = .ok (.agg #[.int .u8 3, .func (.func 70) #[] #[.pointer (some ⟨w.heap.size, 0, none⟩), .pointer (some ⟨w.heap.size + 1, 0, none⟩)], .slice none 0 0]) W := fun _ => by kernel_rfl
  have hix2 : ∀ W : World, (Instr.index 106 (.agg #[.int .u8 2, .func (.func 69) #[] #[.pointer (some ⟨w.heap.size, 0, none⟩), .pointer (some ⟨w.heap.size + 1, 0, none⟩)], .slice none 0 0, .int .u8 3, .func (.func 70) #[] #[.pointer (some ⟨w.heap.size, 0, none⟩), .pointer (some ⟨w.heap.size + 1, 0, none⟩)], .slice none 0 0, .int .u8 6, .func (.func 71) #[] #[.pointer (some ⟨w.heap.size, 0, none⟩)], .slice none 0 0, .int .u8 7, .func (.func 72) #[] #[.pointer (some ⟨w.heap.size, 0, none⟩)], .slice B6 6 e6]) (.int .i64 2)).run Tryd.prog W = .ok (.agg #[.int .u8 6, .func (.func 71) #[] #[.pointer (some ⟨w.heap.size, 0, none⟩)], .slice none 0 0]) W := fun _ => by kernel_rfl
  have hix3 : ∀ W : World, (Instr.index 106 (.agg #[.int .u8 2, .func (.func 69) #[] #[.pointer (some ⟨w.heap.size, 0, none⟩), .pointer (some ⟨w.heap.size + 1, 0, none⟩)], .slice none 0 0, .int .u8 3, .func (.func 70) #[] #[.pointer (some ⟨w.heap.size, 0, none⟩), .pointer (some ⟨w.heap.size + 1, 0, none⟩)], .slice none 0 0, .int .u8 6, .func (.func 71) #[] #[.pointer (some ⟨w.heap.size, 0, none⟩)], .slice none 0 0, .int .u8 7, .func (.func 72) #[] #[.pointer (some ⟨w.heap.size, 0, none⟩)], .slice B6 6 e6]) (.int .i64 3)).run Tryd.prog W = .ok (.agg #[.int .u8 7, .func (.func 72) #[] #[.pointer (some ⟨w.heap.size, 0, none⟩)], .slice B6 6 e6]) W := fun _ => by kernel_rfl
  go_loopw [7, 18] (fun m i w' => ∃ k : Nat, k ≤ 4 ∧ i = .int .i64 k ∧ Aside0 ((1 ≤ k → X1 = false) ∧ (2 ≤ k → X2 = false) ∧ (3 ≤ k → X3 = false) ∧ (4 ≤ k → X4 = false)) ∧ Below w3.heap.size w3 w') (fun _ i _ => 4 - (intOf i).toNat)
  case atStart => exact ⟨0, by omega, rfl, ⟨by omega, by omega, by omega, by omega⟩, Below.refl _ _⟩
  case round =>
    obtain ⟨k, hk, rfl, hX, hb⟩ := hrel
    replace hM : Bk41 _ _ ver an hold id A l.length c := blk_below hM hb
    replace hN : Bk57 _ _ was own inside := blk_below hN hb
    replace hF := hF.below hb
    replace hB6 := Kd.C_below hB6 hb
    replace hC := Kd.C_below hC hb
    replace hU := hU.below hb
    clear g6
    have hk4 : k = 0 ∨ k = 1 ∨ k = 2 ∨ k = 3 ∨ k = 4 := by omega
    rcases hk4 with rfl | rfl | rfl | rfl | rfl
    · have hQ := blk_new wr (.cells #[.int .u8 2, .func (.func 69) #[] #[.pointer (some ⟨w.heap.size, 0, none⟩), .pointer (some ⟨w.heap.size + 1, 0, none⟩)], .slice none 0 0] 105)
      have hb0 := below_alloc (Below.refl wr.heap.size wr) (.cells #[.int .u8 2, .func (.func 69) #[] #[.pointer (some ⟨w.heap.size, 0, none⟩), .pointer (some ⟨w.heap.size + 1, 0, none⟩)], .slice none 0 0] 105)
      replace hb := hb.trans (hb0.mono hb.size)
      replace hM : Bk41 _ _ ver an hold id A l.length c := blk_below hM hb0
      replace hN : Bk57 _ _ was own inside := blk_below hN hb0
      replace hF := hF.below hb0
      replace hB6 := Kd.C_below hB6 hb0
      replace hC := Kd.C_below hC hb0
      replace hU := hU.below hb0
      have m1 := blk_cell hQ 1
      simp at m1
      clear hb0
      have hc := R1.out _ w.heap.size (w.heap.size + 1) hM hN hC
      go_wp2_with fail
      refine hc.mono ?_
      rintro e w5 ⟨rfl, hb1⟩
      replace hb := hb.trans (hb1.mono hb.size)
      replace hF := hF.below hb1
      replace hB6 := Kd.C_below hB6 hb1
      replace hQ := blk_below hQ hb1
      have m0 := blk_cell hQ 0
      have m2 := blk_cell hQ 2
      simp at m0 m2
      clear hc hb1 hM hN hC hU m1
      cases X1 with
      | false =>
        go_wp2
        exact ⟨⟨1, by omega, rfl, ⟨fun h => by simp, fun h => by omega, fun h => by omega, fun h => by omega⟩, hb⟩, by simp [intOf]⟩
      | true =>
        have hr := HR.out
        simp  at hr
        obtain ⟨rfl, rfl, rfl⟩ := hr
        replace HB := HB.trans (hb.mono HB.size)
        go_upto_region 5 with fail
        refine start_ (n := 8) (S := fun w' => w'.cell? ⟨wr.heap.size, 0, none⟩ = some (.int .u8 2) ∧ w'.cell? ⟨wr.heap.size, 2, none⟩ = some (.slice none 0 0)) (ds := [6]) #[false, false, false, false, false, false, false, false] (by kernel_rfl) rfl rfl (⟨m0, m2⟩) (fun hHeld => ?_)
        refine pure_ (i := 0) (N := (some 24)) (v := ?_) (a' := ?_) #[true, false, false, false, false, false, false, false] rfl rfl (by kernel_rfl) (fun _ _ _ h => h) (Or.inl ⟨by rfl, ?_⟩) ?_ ?_
        rotate_left
        · intro w'
          go_simp
          with_reducible rfl
        rotate_left
        · simp only [Act.put, List.setIfInBounds_toArray, List.set_cons_zero, List.set_cons_succ, i64_w, i32_w]
          rfl
        refine take_ (i := 1) (N := (some 25)) (v := ?_) (a' := ?_) #[true, true, false, false, false, false, false, false] rfl rfl (by kernel_rfl) (fun _ _ _ h => h) (Or.inl ⟨by rfl, ?_⟩) hHeld ?_ ?_
        rotate_left
        · rintro w' ⟨s0, s1⟩
          go_simp
          with_reducible rfl
        rotate_left
        · simp only [Act.put, List.setIfInBounds_toArray, List.set_cons_zero, List.set_cons_succ, i64_w, i32_w]
          rfl
        refine pure_ (i := 3) (N := (some 27)) (v := ?_) (a' := ?_) #[true, true, false, true, false, false, false, false] rfl rfl (by kernel_rfl) (fun _ _ _ h => h) (Or.inl ⟨by rfl, ?_⟩) ?_ ?_
        rotate_left
        · intro w'
          go_simp
          with_reducible rfl
        rotate_left
        · simp only [Act.put, List.setIfInBounds_toArray, List.set_cons_zero, List.set_cons_succ, i64_w, i32_w]
          rfl
        refine take_ (i := 4) (N := (some 28)) (v := ?_) (a' := ?_) #[true, true, false, true, true, false, false, false] rfl rfl (by kernel_rfl) (fun _ _ _ h => h) (Or.inl ⟨by rfl, ?_⟩) hHeld ?_ ?_
        rotate_left
        · rintro w' ⟨s0, s1⟩
          go_simp
          with_reducible rfl
        rotate_left
        · simp only [Act.put, List.setIfInBounds_toArray, List.set_cons_zero, List.set_cons_succ, i64_w, i32_w]
          rfl
        replace HB := below_drew HB
        replace hF := hF.below (below_drew (Below.refl _ _))
        replace hB6 := Kd.C_drew hB6
        refine one_ (i := 2) (N := (some 26)) #[true, true, true, true, true, false, false, false] rfl rfl (by kernel_rfl) (by decide) (fun K hK => ?_)
        refine goes_ Tryd.func63 (by kernel_rfl) rfl #[.int .u8 2] (by rfl) rfl rfl (by simp [Act.eval]) ?_
        refine (fault_calls _ 2).mono ?_
        rintro e w7 ⟨rfl, hb2⟩
        replace HB := HB.trans (hb2.mono HB.size)
        replace hF := hF.below hb2
        replace hB6 := Kd.C_below hB6 hb2
        have g7 := pw_cell_below hb2 hHeld.1
        have g8 := pw_cell_below hb2 hHeld.2
        clear hb2
        refine ⟨_, rfl, ?_⟩
        refine hK.out _ _ (⟨g7, g8⟩) (fun hHeld => ?_)
        clear hK K
        refine norm_ (a' := ?_) ?_ ?_
        rotate_left
        · show Act.put _ (some 26) _ = _
          simp only [Act.put, List.setIfInBounds_toArray, List.set_cons_zero, List.set_cons_succ, i64_w, i32_w]
          rfl
        refine one_ (i := 5) (N := (some 29)) #[true, true, true, true, true, true, false, false] rfl rfl (by kernel_rfl) (by decide) (fun K hK => ?_)
        refine goes_ Tryd.func66 (by kernel_rfl) rfl #[.slice none 0 0] (by rfl) rfl rfl (by simp [Act.eval]) ?_
        refine (Clone_calls w7 w7.heap.size none 0 [] (Nat.le_refl _) (Kd.C_nil _ _) (by decide)).mono ?_
        rintro e w8 ⟨v8, rfl, hv8, hb2⟩
        replace HB := HB.trans (hb2.mono HB.size)
        replace hF := hF.below hb2
        have g9 := pw_cell_below hb2 hHeld.1
        have g10 := pw_cell_below hb2 hHeld.2
        clear hb2
        have u0 := hF.c0
        have u1 := hF.c1
        have v0 := blk_frozen hF 0
        have v1 := blk_frozen hF 1
        refine ⟨_, rfl, ?_⟩
        refine hK.out _ _ (⟨g9, g10⟩) (fun hHeld => ?_)
        clear hK K
        refine norm_ (a' := ?_) ?_ ?_
        rotate_left
        · show Act.put _ (some 29) _ = _
          simp only [Act.put, List.setIfInBounds_toArray, List.set_cons_zero, List.set_cons_succ, i64_w, i32_w]
          rfl
        refine last_ (i := 6) (N := none) #[true, true, true, true, true, true, true, false] rfl rfl (by kernel_rfl) (by decide) (fun K hK => ?_)
        refine skip_ (w1 := ?_) (by rfl) rfl ?_ ?_
        rotate_left
        · go_simp
          with_reducible rfl
        refine hK.out _ _ ?_
        clear hK K
        refine pure_ (i := 7) (N := (some 5)) (v := ?_) (a' := ?_) #[true, true, true, true, true, true, true, true] rfl rfl (by kernel_rfl) (fun _ _ _ h => h) (Or.inl ⟨by rfl, ?_⟩) ?_ ?_
        rotate_left
        · intro w'
          go_simp
          with_reducible rfl
        rotate_left
        · simp only [Act.put, List.setIfInBounds_toArray, List.set_cons_zero, List.set_cons_succ, i64_w, i32_w]
          rfl
        refine done_ (by kernel_rfl) ?_
        go_wp2
        replace hv8 := Kd.R_set (Kd.R_set hv8 hF (by decide) 0 (.int .u8 2)) (blk_put hF 0 (.int .u8 2) rfl) (by decide) 1 (.int .u8 2)
        replace HB := (HB.setCell (p := ⟨w.heap.size + 1 + 1, 0, none⟩) (Nat.le_trans (Nat.le_succ _) (Nat.le_succ _)) (.int .u8 2)).setCell (p := ⟨w.heap.size + 1 + 1, 1, none⟩) (Nat.le_trans (Nat.le_succ _) (Nat.le_succ _)) (.int .u8 2)
        replace hF : FB _ _ 2 2 := blk_put (blk_put hF 0 (.int .u8 2) rfl) 1 (.int .u8 2) rfl
        clear u0 u1 v0 v1
        generalize (w8.setCell ⟨w.heap.size + 1 + 1, 0, none⟩ (.int .u8 2)).setCell ⟨w.heap.size + 1 + 1, 1, none⟩ (.int .u8 2) = wz at *
        have u0 := hF.c0
        have u1 := hF.c1
        obtain ⟨D9, d9, rfl, hc9, hC9⟩ := Kd.R_reads hv8
        exact bodyPost_ret (v := .tuple #[.agg #[.int .u8 2, .int .u8 2], .slice D9 0 d9]) (by simp [results, Tryd.results28, go_sem, u0, u1]) rfl ⟨D9, d9, rfl, hC9, hc9, HB⟩
    · have hQ := blk_new wr (.cells #[.int .u8 3, .func (.func 70) #[] #[.pointer (some ⟨w.heap.size, 0, none⟩), .pointer (some ⟨w.heap.size + 1, 0, none⟩)], .slice none 0 0] 105)
      have hb0 := below_alloc (Below.refl wr.heap.size wr) (.cells #[.int .u8 3, .func (.func 70) #[] #[.pointer (some ⟨w.heap.size, 0, none⟩), .pointer (some ⟨w.heap.size + 1, 0, none⟩)], .slice none 0 0] 105)
      replace hb := hb.trans (hb0.mono hb.size)
      replace hM : Bk41 _ _ ver an hold id A l.length c := blk_below hM hb0
      replace hN : Bk57 _ _ was own inside := blk_below hN hb0
      replace hF := hF.below hb0
      replace hB6 := Kd.C_below hB6 hb0
      replace hC := Kd.C_below hC hb0
      replace hU := hU.below hb0
      have m1 := blk_cell hQ 1
      simp at m1
      clear hb0
      have hc := R2.out _ w.heap.size (w.heap.size + 1) hM hN
      go_wp2_with fail
      refine hc.mono ?_
      rintro e w5 ⟨rfl, hb1⟩
      replace hb := hb.trans (hb1.mono hb.size)
      replace hF := hF.below hb1
      replace hB6 := Kd.C_below hB6 hb1
      replace hQ := blk_below hQ hb1
      have m0 := blk_cell hQ 0
      have m2 := blk_cell hQ 2
      simp at m0 m2
      clear hc hb1 hM hN hC hU m1
      cases X2 with
      | false =>
        go_wp2
        exact ⟨⟨2, by omega, rfl, ⟨fun h => hX.out.1 (by omega), fun h => by simp, fun h => by omega, fun h => by omega⟩, hb⟩, by simp [intOf]⟩
      | true =>
        have hr := HR.out
        simp [hX.out.1 (by omega)] at hr
        obtain ⟨rfl, rfl, rfl⟩ := hr
        replace HB := HB.trans (hb.mono HB.size)
        go_upto_region 5 with fail
        refine start_ (n := 8) (S := fun w' => w'.cell? ⟨wr.heap.size, 0, none⟩ = some (.int .u8 3) ∧ w'.cell? ⟨wr.heap.size, 2, none⟩ = some (.slice none 0 0)) (ds := [6]) #[false, false, false, false, false, false, false, false] (by kernel_rfl) rfl rfl (⟨m0, m2⟩) (fun hHeld => ?_)
        refine pure_ (i := 0) (N := (some 24)) (v := ?_) (a' := ?_) #[true, false, false, false, false, false, false, false] rfl rfl (by kernel_rfl) (fun _ _ _ h => h) (Or.inl ⟨by rfl, ?_⟩) ?_ ?_
        rotate_left
        · intro w'
          go_simp
          with_reducible rfl
        rotate_left
        · simp only [Act.put, List.setIfInBounds_toArray, List.set_cons_zero, List.set_cons_succ, i64_w, i32_w]
          rfl
        refine take_ (i := 1) (N := (some 25)) (v := ?_) (a' := ?_) #[true, true, false, false, false, false, false, false] rfl rfl (by kernel_rfl) (fun _ _ _ h => h) (Or.inl ⟨by rfl, ?_⟩) hHeld ?_ ?_
        rotate_left
        · rintro w' ⟨s0, s1⟩
          go_simp
          with_reducible rfl
        rotate_left
        · simp only [Act.put, List.setIfInBounds_toArray, List.set_cons_zero, List.set_cons_succ, i64_w, i32_w]
          rfl
        refine pure_ (i := 3) (N := (some 27)) (v := ?_) (a' := ?_) #[true, true, false, true, false, false, false, false] rfl rfl (by kernel_rfl) (fun _ _ _ h => h) (Or.inl ⟨by rfl, ?_⟩) ?_ ?_
        rotate_left
        · intro w'
          go_simp
          with_reducible rfl
        rotate_left
        · simp only [Act.put, List.setIfInBounds_toArray, List.set_cons_zero, List.set_cons_succ, i64_w, i32_w]
          rfl
        refine take_ (i := 4) (N := (some 28)) (v := ?_) (a' := ?_) #[true, true, false, true, true, false, false, false] rfl rfl (by kernel_rfl) (fun _ _ _ h => h) (Or.inl ⟨by rfl, ?_⟩) hHeld ?_ ?_
        rotate_left
        · rintro w' ⟨s0, s1⟩
          go_simp
          with_reducible rfl
        rotate_left
        · simp only [Act.put, List.setIfInBounds_toArray, List.set_cons_zero, List.set_cons_succ, i64_w, i32_w]
          rfl
        replace HB := below_drew HB
        replace hF := hF.below (below_drew (Below.refl _ _))
        replace hB6 := Kd.C_drew hB6
        refine one_ (i := 2) (N := (some 26)) #[true, true, true, true, true, false, false, false] rfl rfl (by kernel_rfl) (by decide) (fun K hK => ?_)
        refine goes_ Tryd.func63 (by kernel_rfl) rfl #[.int .u8 3] (by rfl) rfl rfl (by simp [Act.eval]) ?_
        refine (fault_calls _ 3).mono ?_
        rintro e w7 ⟨rfl, hb2⟩
        replace HB := HB.trans (hb2.mono HB.size)
        replace hF := hF.below hb2
        replace hB6 := Kd.C_below hB6 hb2
        have g7 := pw_cell_below hb2 hHeld.1
        have g8 := pw_cell_below hb2 hHeld.2
        clear hb2
        refine ⟨_, rfl, ?_⟩
        refine hK.out _ _ (⟨g7, g8⟩) (fun hHeld => ?_)
        clear hK K
        refine norm_ (a' := ?_) ?_ ?_
        rotate_left
        · show Act.put _ (some 26) _ = _
          simp only [Act.put, List.setIfInBounds_toArray, List.set_cons_zero, List.set_cons_succ, i64_w, i32_w]
          rfl
        refine one_ (i := 5) (N := (some 29)) #[true, true, true, true, true, true, false, false] rfl rfl (by kernel_rfl) (by decide) (fun K hK => ?_)
        refine goes_ Tryd.func66 (by kernel_rfl) rfl #[.slice none 0 0] (by rfl) rfl rfl (by simp [Act.eval]) ?_
        refine (Clone_calls w7 w7.heap.size none 0 [] (Nat.le_refl _) (Kd.C_nil _ _) (by decide)).mono ?_
        rintro e w8 ⟨v8, rfl, hv8, hb2⟩
        replace HB := HB.trans (hb2.mono HB.size)
        replace hF := hF.below hb2
        have g9 := pw_cell_below hb2 hHeld.1
        have g10 := pw_cell_below hb2 hHeld.2
        clear hb2
        have u0 := hF.c0
        have u1 := hF.c1
        have v0 := blk_frozen hF 0
        have v1 := blk_frozen hF 1
        refine ⟨_, rfl, ?_⟩
        refine hK.out _ _ (⟨g9, g10⟩) (fun hHeld => ?_)
        clear hK K
        refine norm_ (a' := ?_) ?_ ?_
        rotate_left
        · show Act.put _ (some 29) _ = _
          simp only [Act.put, List.setIfInBounds_toArray, List.set_cons_zero, List.set_cons_succ, i64_w, i32_w]
          rfl
        refine last_ (i := 6) (N := none) #[true, true, true, true, true, true, true, false] rfl rfl (by kernel_rfl) (by decide) (fun K hK => ?_)
        refine skip_ (w1 := ?_) (by rfl) rfl ?_ ?_
        rotate_left
        · go_simp
          with_reducible rfl
        refine hK.out _ _ ?_
        clear hK K
        refine pure_ (i := 7) (N := (some 5)) (v := ?_) (a' := ?_) #[true, true, true, true, true, true, true, true] rfl rfl (by kernel_rfl) (fun _ _ _ h => h) (Or.inl ⟨by rfl, ?_⟩) ?_ ?_
        rotate_left
        · intro w'
          go_simp
          with_reducible rfl
        rotate_left
        · simp only [Act.put, List.setIfInBounds_toArray, List.set_cons_zero, List.set_cons_succ, i64_w, i32_w]
          rfl
        refine done_ (by kernel_rfl) ?_
        go_wp2
        replace hv8 := Kd.R_set (Kd.R_set hv8 hF (by decide) 0 (.int .u8 2)) (blk_put hF 0 (.int .u8 2) rfl) (by decide) 1 (.int .u8 3)
        replace HB := (HB.setCell (p := ⟨w.heap.size + 1 + 1, 0, none⟩) (Nat.le_trans (Nat.le_succ _) (Nat.le_succ _)) (.int .u8 2)).setCell (p := ⟨w.heap.size + 1 + 1, 1, none⟩) (Nat.le_trans (Nat.le_succ _) (Nat.le_succ _)) (.int .u8 3)
        replace hF : FB _ _ 2 3 := blk_put (blk_put hF 0 (.int .u8 2) rfl) 1 (.int .u8 3) rfl
        clear u0 u1 v0 v1
        generalize (w8.setCell ⟨w.heap.size + 1 + 1, 0, none⟩ (.int .u8 2)).setCell ⟨w.heap.size + 1 + 1, 1, none⟩ (.int .u8 3) = wz at *
        have u0 := hF.c0
        have u1 := hF.c1
        obtain ⟨D9, d9, rfl, hc9, hC9⟩ := Kd.R_reads hv8
        exact bodyPost_ret (v := .tuple #[.agg #[.int .u8 2, .int .u8 3], .slice D9 0 d9]) (by simp [results, Tryd.results28, go_sem, u0, u1]) rfl ⟨D9, d9, rfl, hC9, hc9, HB⟩
    · have hQ := blk_new wr (.cells #[.int .u8 6, .func (.func 71) #[] #[.pointer (some ⟨w.heap.size, 0, none⟩)], .slice none 0 0] 105)
      have hb0 := below_alloc (Below.refl wr.heap.size wr) (.cells #[.int .u8 6, .func (.func 71) #[] #[.pointer (some ⟨w.heap.size, 0, none⟩)], .slice none 0 0] 105)
      replace hb := hb.trans (hb0.mono hb.size)
      replace hM : Bk41 _ _ ver an hold id A l.length c := blk_below hM hb0
      replace hN : Bk57 _ _ was own inside := blk_below hN hb0
      replace hF := hF.below hb0
      replace hB6 := Kd.C_below hB6 hb0
      replace hC := Kd.C_below hC hb0
      replace hU := hU.below hb0
      have m1 := blk_cell hQ 1
      simp at m1
      clear hb0
      have hc := R3.out _ w.heap.size hM
      go_wp2_with fail
      refine hc.mono ?_
      rintro e w5 ⟨rfl, hb1⟩
      replace hb := hb.trans (hb1.mono hb.size)
      replace hF := hF.below hb1
      replace hB6 := Kd.C_below hB6 hb1
      replace hQ := blk_below hQ hb1
      have m0 := blk_cell hQ 0
      have m2 := blk_cell hQ 2
      simp at m0 m2
      clear hc hb1 hM hN hC hU m1
      cases X3 with
      | false =>
        go_wp2
        exact ⟨⟨3, by omega, rfl, ⟨fun h => hX.out.1 (by omega), fun h => hX.out.2.1 (by omega), fun h => by simp, fun h => by omega⟩, hb⟩, by simp [intOf]⟩
      | true =>
        have hr := HR.out
        simp [hX.out.1 (by omega), hX.out.2.1 (by omega)] at hr
        obtain ⟨rfl, rfl, rfl⟩ := hr
        replace HB := HB.trans (hb.mono HB.size)
        go_upto_region 5 with fail
        refine start_ (n := 8) (S := fun w' => w'.cell? ⟨wr.heap.size, 0, none⟩ = some (.int .u8 6) ∧ w'.cell? ⟨wr.heap.size, 2, none⟩ = some (.slice none 0 0)) (ds := [6]) #[false, false, false, false, false, false, false, false] (by kernel_rfl) rfl rfl (⟨m0, m2⟩) (fun hHeld => ?_)
        refine pure_ (i := 0) (N := (some 24)) (v := ?_) (a' := ?_) #[true, false, false, false, false, false, false, false] rfl rfl (by kernel_rfl) (fun _ _ _ h => h) (Or.inl ⟨by rfl, ?_⟩) ?_ ?_
        rotate_left
        · intro w'
          go_simp
          with_reducible rfl
        rotate_left
        · simp only [Act.put, List.setIfInBounds_toArray, List.set_cons_zero, List.set_cons_succ, i64_w, i32_w]
          rfl
        refine take_ (i := 1) (N := (some 25)) (v := ?_) (a' := ?_) #[true, true, false, false, false, false, false, false] rfl rfl (by kernel_rfl) (fun _ _ _ h => h) (Or.inl ⟨by rfl, ?_⟩) hHeld ?_ ?_
        rotate_left
        · rintro w' ⟨s0, s1⟩
          go_simp
          with_reducible rfl
        rotate_left
        · simp only [Act.put, List.setIfInBounds_toArray, List.set_cons_zero, List.set_cons_succ, i64_w, i32_w]
          rfl
        refine pure_ (i := 3) (N := (some 27)) (v := ?_) (a' := ?_) #[true, true, false, true, false, false, false, false] rfl rfl (by kernel_rfl) (fun _ _ _ h => h) (Or.inl ⟨by rfl, ?_⟩) ?_ ?_
        rotate_left
        · intro w'
          go_simp
          with_reducible rfl
        rotate_left
        · simp only [Act.put, List.setIfInBounds_toArray, List.set_cons_zero, List.set_cons_succ, i64_w, i32_w]
          rfl
        refine take_ (i := 4) (N := (some 28)) (v := ?_) (a' := ?_) #[true, true, false, true, true, false, false, false] rfl rfl (by kernel_rfl) (fun _ _ _ h => h) (Or.inl ⟨by rfl, ?_⟩) hHeld ?_ ?_
        rotate_left
        · rintro w' ⟨s0, s1⟩
          go_simp
          with_reducible rfl
        rotate_left
        · simp only [Act.put, List.setIfInBounds_toArray, List.set_cons_zero, List.set_cons_succ, i64_w, i32_w]
          rfl
        replace HB := below_drew HB
        replace hF := hF.below (below_drew (Below.refl _ _))
        replace hB6 := Kd.C_drew hB6
        refine one_ (i := 2) (N := (some 26)) #[true, true, true, true, true, false, false, false] rfl rfl (by kernel_rfl) (by decide) (fun K hK => ?_)
        refine goes_ Tryd.func63 (by kernel_rfl) rfl #[.int .u8 6] (by rfl) rfl rfl (by simp [Act.eval]) ?_
        refine (fault_calls _ 6).mono ?_
        rintro e w7 ⟨rfl, hb2⟩
        replace HB := HB.trans (hb2.mono HB.size)
        replace hF := hF.below hb2
        replace hB6 := Kd.C_below hB6 hb2
        have g7 := pw_cell_below hb2 hHeld.1
        have g8 := pw_cell_below hb2 hHeld.2
        clear hb2
        refine ⟨_, rfl, ?_⟩
        refine hK.out _ _ (⟨g7, g8⟩) (fun hHeld => ?_)
        clear hK K
        refine norm_ (a' := ?_) ?_ ?_
        rotate_left
        · show Act.put _ (some 26) _ = _
          simp only [Act.put, List.setIfInBounds_toArray, List.set_cons_zero, List.set_cons_succ, i64_w, i32_w]
          rfl
        refine one_ (i := 5) (N := (some 29)) #[true, true, true, true, true, true, false, false] rfl rfl (by kernel_rfl) (by decide) (fun K hK => ?_)
        refine goes_ Tryd.func66 (by kernel_rfl) rfl #[.slice none 0 0] (by rfl) rfl rfl (by simp [Act.eval]) ?_
        refine (Clone_calls w7 w7.heap.size none 0 [] (Nat.le_refl _) (Kd.C_nil _ _) (by decide)).mono ?_
        rintro e w8 ⟨v8, rfl, hv8, hb2⟩
        replace HB := HB.trans (hb2.mono HB.size)
        replace hF := hF.below hb2
        have g9 := pw_cell_below hb2 hHeld.1
        have g10 := pw_cell_below hb2 hHeld.2
        clear hb2
        have u0 := hF.c0
        have u1 := hF.c1
        have v0 := blk_frozen hF 0
        have v1 := blk_frozen hF 1
        refine ⟨_, rfl, ?_⟩
        refine hK.out _ _ (⟨g9, g10⟩) (fun hHeld => ?_)
        clear hK K
        refine norm_ (a' := ?_) ?_ ?_
        rotate_left
        · show Act.put _ (some 29) _ = _
          simp only [Act.put, List.setIfInBounds_toArray, List.set_cons_zero, List.set_cons_succ, i64_w, i32_w]
          rfl
        refine last_ (i := 6) (N := none) #[true, true, true, true, true, true, true, false] rfl rfl (by kernel_rfl) (by decide) (fun K hK => ?_)
        refine skip_ (w1 := ?_) (by rfl) rfl ?_ ?_
        rotate_left
        · go_simp
          with_reducible rfl
        refine hK.out _ _ ?_
        clear hK K
        refine pure_ (i := 7) (N := (some 5)) (v := ?_) (a' := ?_) #[true, true, true, true, true, true, true, true] rfl rfl (by kernel_rfl) (fun _ _ _ h => h) (Or.inl ⟨by rfl, ?_⟩) ?_ ?_
        rotate_left
        · intro w'
          go_simp
          with_reducible rfl
        rotate_left
        · simp only [Act.put, List.setIfInBounds_toArray, List.set_cons_zero, List.set_cons_succ, i64_w, i32_w]
          rfl
        refine done_ (by kernel_rfl) ?_
        go_wp2
        replace hv8 := Kd.R_set (Kd.R_set hv8 hF (by decide) 0 (.int .u8 2)) (blk_put hF 0 (.int .u8 2) rfl) (by decide) 1 (.int .u8 6)
        replace HB := (HB.setCell (p := ⟨w.heap.size + 1 + 1, 0, none⟩) (Nat.le_trans (Nat.le_succ _) (Nat.le_succ _)) (.int .u8 2)).setCell (p := ⟨w.heap.size + 1 + 1, 1, none⟩) (Nat.le_trans (Nat.le_succ _) (Nat.le_succ _)) (.int .u8 6)
        replace hF : FB _ _ 2 6 := blk_put (blk_put hF 0 (.int .u8 2) rfl) 1 (.int .u8 6) rfl
        clear u0 u1 v0 v1
        generalize (w8.setCell ⟨w.heap.size + 1 + 1, 0, none⟩ (.int .u8 2)).setCell ⟨w.heap.size + 1 + 1, 1, none⟩ (.int .u8 6) = wz at *
        have u0 := hF.c0
        have u1 := hF.c1
        obtain ⟨D9, d9, rfl, hc9, hC9⟩ := Kd.R_reads hv8
        exact bodyPost_ret (v := .tuple #[.agg #[.int .u8 2, .int .u8 6], .slice D9 0 d9]) (by simp [results, Tryd.results28, go_sem, u0, u1]) rfl ⟨D9, d9, rfl, hC9, hc9, HB⟩
    · have hQ := blk_new wr (.cells #[.int .u8 7, .func (.func 72) #[] #[.pointer (some ⟨w.heap.size, 0, none⟩)], .slice B6 6 e6] 105)
      have hb0 := below_alloc (Below.refl wr.heap.size wr) (.cells #[.int .u8 7, .func (.func 72) #[] #[.pointer (some ⟨w.heap.size, 0, none⟩)], .slice B6 6 e6] 105)
      replace hb := hb.trans (hb0.mono hb.size)
      replace hM : Bk41 _ _ ver an hold id A l.length c := blk_below hM hb0
      replace hN : Bk57 _ _ was own inside := blk_below hN hb0
      replace hF := hF.below hb0
      replace hB6 := Kd.C_below hB6 hb0
      replace hC := Kd.C_below hC hb0
      replace hU := hU.below hb0
      have m1 := blk_cell hQ 1
      simp at m1
      clear hb0
      have hc := R4.out _ hU w.heap.size hM hC
      go_wp2_with fail
      refine hc.mono ?_
      rintro e w5 ⟨rfl, hb1⟩
      replace hb := hb.trans (hb1.mono hb.size)
      replace hF := hF.below hb1
      replace hB6 := Kd.C_below hB6 hb1
      replace hQ := blk_below hQ hb1
      have m0 := blk_cell hQ 0
      have m2 := blk_cell hQ 2
      simp at m0 m2
      clear hc hb1 hM hN hC hU m1
      cases X4 with
      | false =>
        go_wp2
        exact ⟨⟨4, by omega, rfl, ⟨fun h => hX.out.1 (by omega), fun h => hX.out.2.1 (by omega), fun h => hX.out.2.2.1 (by omega), fun h => by simp⟩, hb⟩, by simp [intOf]⟩
      | true =>
        have hr := HR.out
        simp [hX.out.1 (by omega), hX.out.2.1 (by omega), hX.out.2.2.1 (by omega)] at hr
        obtain ⟨rfl, rfl, rfl⟩ := hr
        replace HB := HB.trans (hb.mono HB.size)
        go_upto_region 5 with fail
        refine start_ (n := 8) (S := fun w' => w'.cell? ⟨wr.heap.size, 0, none⟩ = some (.int .u8 7) ∧ w'.cell? ⟨wr.heap.size, 2, none⟩ = some (.slice B6 6 e6)) (ds := [6]) #[false, false, false, false, false, false, false, false] (by kernel_rfl) rfl rfl (⟨m0, m2⟩) (fun hHeld => ?_)
        refine pure_ (i := 0) (N := (some 24)) (v := ?_) (a' := ?_) #[true, false, false, false, false, false, false, false] rfl rfl (by kernel_rfl) (fun _ _ _ h => h) (Or.inl ⟨by rfl, ?_⟩) ?_ ?_
        rotate_left
        · intro w'
          go_simp
          with_reducible rfl
        rotate_left
        · simp only [Act.put, List.setIfInBounds_toArray, List.set_cons_zero, List.set_cons_succ, i64_w, i32_w]
          rfl
        refine take_ (i := 1) (N := (some 25)) (v := ?_) (a' := ?_) #[true, true, false, false, false, false, false, false] rfl rfl (by kernel_rfl) (fun _ _ _ h => h) (Or.inl ⟨by rfl, ?_⟩) hHeld ?_ ?_
        rotate_left
        · rintro w' ⟨s0, s1⟩
          go_simp
          with_reducible rfl
        rotate_left
        · simp only [Act.put, List.setIfInBounds_toArray, List.set_cons_zero, List.set_cons_succ, i64_w, i32_w]
          rfl
        refine pure_ (i := 3) (N := (some 27)) (v := ?_) (a' := ?_) #[true, true, false, true, false, false, false, false] rfl rfl (by kernel_rfl) (fun _ _ _ h => h) (Or.inl ⟨by rfl, ?_⟩) ?_ ?_
        rotate_left
        · intro w'
          go_simp
          with_reducible rfl
        rotate_left
        · simp only [Act.put, List.setIfInBounds_toArray, List.set_cons_zero, List.set_cons_succ, i64_w, i32_w]
          rfl
        refine take_ (i := 4) (N := (some 28)) (v := ?_) (a' := ?_) #[true, true, false, true, true, false, false, false] rfl rfl (by kernel_rfl) (fun _ _ _ h => h) (Or.inl ⟨by rfl, ?_⟩) hHeld ?_ ?_
        rotate_left
        · rintro w' ⟨s0, s1⟩
          go_simp
          with_reducible rfl
        rotate_left
        · simp only [Act.put, List.setIfInBounds_toArray, List.set_cons_zero, List.set_cons_succ, i64_w, i32_w]
          rfl
        replace HB := below_drew HB
        replace hF := hF.below (below_drew (Below.refl _ _))
        replace hB6 := Kd.C_drew hB6
        refine one_ (i := 2) (N := (some 26)) #[true, true, true, true, true, false, false, false] rfl rfl (by kernel_rfl) (by decide) (fun K hK => ?_)
        refine goes_ Tryd.func63 (by kernel_rfl) rfl #[.int .u8 7] (by rfl) rfl rfl (by simp [Act.eval]) ?_
        refine (fault_calls _ 7).mono ?_
        rintro e w7 ⟨rfl, hb2⟩
        replace HB := HB.trans (hb2.mono HB.size)
        replace hF := hF.below hb2
        replace hB6 := Kd.C_below hB6 hb2
        have g7 := pw_cell_below hb2 hHeld.1
        have g8 := pw_cell_below hb2 hHeld.2
        clear hb2
        refine ⟨_, rfl, ?_⟩
        refine hK.out _ _ (⟨g7, g8⟩) (fun hHeld => ?_)
        clear hK K
        refine norm_ (a' := ?_) ?_ ?_
        rotate_left
        · show Act.put _ (some 26) _ = _
          simp only [Act.put, List.setIfInBounds_toArray, List.set_cons_zero, List.set_cons_succ, i64_w, i32_w]
          rfl
        refine one_ (i := 5) (N := (some 29)) #[true, true, true, true, true, true, false, false] rfl rfl (by kernel_rfl) (by decide) (fun K hK => ?_)
        refine goes_ Tryd.func66 (by kernel_rfl) rfl #[.slice B6 6 e6] (by rfl) rfl rfl (by simp [Act.eval]) ?_
        refine (Clone_calls w7 w7.heap.size B6 e6 [1, 4, 0, 1, 0, 1] (Nat.le_refl _) hB6 (by decide)).mono ?_
        rintro e w8 ⟨v8, rfl, hv8, hb2⟩
        replace HB := HB.trans (hb2.mono HB.size)
        replace hF := hF.below hb2
        have g9 := pw_cell_below hb2 hHeld.1
        have g10 := pw_cell_below hb2 hHeld.2
        clear hb2
        have u0 := hF.c0
        have u1 := hF.c1
        have v0 := blk_frozen hF 0
        have v1 := blk_frozen hF 1
        refine ⟨_, rfl, ?_⟩
        refine hK.out _ _ (⟨g9, g10⟩) (fun hHeld => ?_)
        clear hK K
        refine norm_ (a' := ?_) ?_ ?_
        rotate_left
        · show Act.put _ (some 29) _ = _
          simp only [Act.put, List.setIfInBounds_toArray, List.set_cons_zero, List.set_cons_succ, i64_w, i32_w]
          rfl
        refine last_ (i := 6) (N := none) #[true, true, true, true, true, true, true, false] rfl rfl (by kernel_rfl) (by decide) (fun K hK => ?_)
        refine skip_ (w1 := ?_) (by rfl) rfl ?_ ?_
        rotate_left
        · go_simp
          with_reducible rfl
        refine hK.out _ _ ?_
        clear hK K
        refine pure_ (i := 7) (N := (some 5)) (v := ?_) (a' := ?_) #[true, true, true, true, true, true, true, true] rfl rfl (by kernel_rfl) (fun _ _ _ h => h) (Or.inl ⟨by rfl, ?_⟩) ?_ ?_
        rotate_left
        · intro w'
          go_simp
          with_reducible rfl
        rotate_left
        · simp only [Act.put, List.setIfInBounds_toArray, List.set_cons_zero, List.set_cons_succ, i64_w, i32_w]
          rfl
        refine done_ (by kernel_rfl) ?_
        go_wp2
        replace hv8 := Kd.R_set (Kd.R_set hv8 hF (by decide) 0 (.int .u8 2)) (blk_put hF 0 (.int .u8 2) rfl) (by decide) 1 (.int .u8 7)
        replace HB := (HB.setCell (p := ⟨w.heap.size + 1 + 1, 0, none⟩) (Nat.le_trans (Nat.le_succ _) (Nat.le_succ _)) (.int .u8 2)).setCell (p := ⟨w.heap.size + 1 + 1, 1, none⟩) (Nat.le_trans (Nat.le_succ _) (Nat.le_succ _)) (.int .u8 7)
        replace hF : FB _ _ 2 7 := blk_put (blk_put hF 0 (.int .u8 2) rfl) 1 (.int .u8 7) rfl
        clear u0 u1 v0 v1
        generalize (w8.setCell ⟨w.heap.size + 1 + 1, 0, none⟩ (.int .u8 2)).setCell ⟨w.heap.size + 1 + 1, 1, none⟩ (.int .u8 7) = wz at *
        have u0 := hF.c0
        have u1 := hF.c1
        obtain ⟨D9, d9, rfl, hc9, hC9⟩ := Kd.R_reads hv8
        exact bodyPost_ret (v := .tuple #[.agg #[.int .u8 2, .int .u8 7], .slice D9 6 d9]) (by simp [results, Tryd.results28, go_sem, u0, u1]) rfl ⟨D9, d9, rfl, hC9, hc9, HB⟩
    · have hr := HR.out
      simp [hX.out.1 (by omega), hX.out.2.1 (by omega), hX.out.2.2.1 (by omega), hX.out.2.2.2 (by omega)] at hr
      obtain ⟨rfl, rfl, rfl⟩ := hr
      replace HB := HB.trans (hb.mono HB.size)
      have u0 := hF.c0
      have u1 := hF.c1
      have v0 := blk_frozen hF 0
      have v1 := blk_frozen hF 1
      go_wp2
      replace HB := (HB.setCell (p := ⟨w.heap.size + 1 + 1, 0, none⟩) (Nat.le_trans (Nat.le_succ _) (Nat.le_succ _)) (.int .u8 0)).setCell (p := ⟨w.heap.size + 1 + 1, 1, none⟩) (Nat.le_trans (Nat.le_succ _) (Nat.le_succ _)) (.int .u8 0)
      replace hF : FB _ _ 0 0 := blk_put (blk_put hF 0 (.int .u8 0) rfl) 1 (.int .u8 0) rfl
      clear u0 u1 v0 v1
      generalize (wr.setCell ⟨w.heap.size + 1 + 1, 0, none⟩ (.int .u8 0)).setCell ⟨w.heap.size + 1 + 1, 1, none⟩ (.int .u8 0) = wz at *
      have u0 := hF.c0
      have u1 := hF.c1
      exact bodyPost_ret (v := .tuple #[.agg #[.int .u8 0, .int .u8 0], .slice none 0 0]) (by simp [results, Tryd.results28, go_sem, u0, u1]) rfl ⟨none, 0, rfl, Kd.C_nil _ _, Nat.le_refl _, HB⟩

theorem ours_wf0 (n : Int) : CapsWf (ours n) := by
  intro x hx
  simp [ours] at hx
  rcases hx with rfl | rfl | rfl
  · exact ⟨by simp, by simp⟩
  · exact ⟨by simp, by simp⟩
  · exact ⟨by simp, by intro b hb; simp at hb; omega⟩
theorem tl_number : oNumber 23456 (ours 70000) = (70000, true) := rfl
theorem tl_get : oGet [3, 0, 1, 0, 90, 10, 0, 0, 1, 0] = (.zero, 2, 1, [0, 4]) := rfl
theorem tl_check : oCheck 23456 90 1 [] 23456 0 false = (2, 2, []) := rfl

set_option maxHeartbeats 4000000 in
set_option maxRecDepth 100000 in
theorem tells_calls (w : World) (hG : GlobC w) (hU : GlobU w) (hO : GlobO w) :
    Calls Tryd.prog 25 #[] w fun e w' => e = .returned (.bool true) ∧ Below w.heap.size w w' := by
  have H1 := oOurs_calls w hU 70000 90 167772161 (by decide) (by decide)
  rw [show shortOf 70000 = 23456 from rfl] at H1
  have T1 := Aside0.mk tl_number
  have T2 := Aside0.mk (ours_wf0 70000)
  have T3 := Aside0.mk (show (ours 70000).length ≤ 140737488351232 by simp [ours])
  generalize ours 70000 = os at *
  go_enter Tryd.func25, Tryd.ntmps25
  go_wp2_with fail
  refine H1.mono ?_
  rintro e w1 ⟨A1, c1, rfl, hC1, hc1, HB⟩
  clear H1
  have hM := blk_new w1 (.cells #[.int .u8 4, .int .u16 23456, .int .u16 90, .int .u32 167772161, .slice A1 os.length c1] 41)
  have hb := below_alloc (Below.refl w1.heap.size w1) (.cells #[.int .u8 4, .int .u16 23456, .int .u16 90, .int .u32 167772161, .slice A1 os.length c1] 41)
  replace HB := HB.trans (hb.mono HB.size)
  replace hC1 := Kd.C_below hC1 hb
  have x0 := blk_cell hM 0
  have x1 := blk_cell hM 1
  have x2 := blk_cell hM 2
  have x3 := blk_cell hM 3
  have x4 := blk_cell hM 4
  simp at x0 x1 x2 x3 x4
  clear hb
  go_wp2_with fail
  refine (oNumber_calls _ A1 c1 os hC1 T3.out T2.out 4 23456 90 167772161 (by decide) 70000 true T1.out).mono ?_
  rintro e w2 ⟨rfl, hb⟩
  replace HB := HB.trans (hb.mono HB.size)
  replace hM := blk_below hM hb
  clear hb x0 x1 x2 x3 x4 hC1
  have hL := litC (litR w2 5 .u8 [3, 0, 1, 0, 90, 10, 0, 0, 1, 0] (by decide))
  have hb := below_alloc (Below.refl w2.heap.size w2) (.cells (nums .u8 [3, 0, 1, 0, 90, 10, 0, 0, 1, 0]).toArray 5)
  replace HB := HB.trans (hb.mono HB.size)
  replace hM := blk_below hM hb
  have H2 := oGet_calls _ (hG.below HB) (hO.below HB) (some ⟨w2.heap.size, 0, none⟩) 10 _ hL (by decide) (by decide) _ _ _ _ tl_get
  clear hb
  go_wp2_with fail
  refine H2.mono ?_
  rintro e w3 ⟨A3, c3, D3, d3, rfl, hC3, hc3, hD3, hd3, hb⟩
  replace HB := HB.trans (hb.mono HB.size)
  replace hM := blk_below hM hb
  clear hb H2 hL hC3
  have hZ := blk_new w3 (.cells #[.int .u8 OpenP.zero.ver, .int .u16 OpenP.zero.an, .int .u16 OpenP.zero.hold, .int .u32 OpenP.zero.id, .slice A3 OpenP.zero.caps.length c3] 41)
  have hb := below_alloc (Below.refl w3.heap.size w3) (.cells #[.int .u8 OpenP.zero.ver, .int .u16 OpenP.zero.an, .int .u16 OpenP.zero.hold, .int .u32 OpenP.zero.id, .slice A3 OpenP.zero.caps.length c3] 41)
  obtain ⟨wa, hwa⟩ : ∃ wa, w3.alloc (.cells #[.int .u8 OpenP.zero.ver, .int .u16 OpenP.zero.an, .int .u16 OpenP.zero.hold, .int .u32 OpenP.zero.id, .slice A3 OpenP.zero.caps.length c3] 41) = wa := ⟨_, rfl⟩
  have sa : wa.heap.size = w3.heap.size + 1 := by rw [← hwa]; simp
  rw [hwa] at hb hZ
  have hF := FB.new wa 2 1
  have hb2 := below_alloc (Below.refl wa.heap.size wa) (.cells #[.int .u8 2, .int .u8 1] 26)
  replace hb := hb.trans (hb2.mono hb.size)
  rw [sa] at hF
  subst hwa
  replace HB := HB.trans (hb.mono HB.size)
  replace hM := blk_below hM hb
  replace hD3 := Kd.C_below hD3 hb
  have H3 := oCheck_calls _ (hU.below HB) (hO.below HB) none 0 [] (Kd.C_nil _ _) (by decide) (by intro x hx; cases hx) 4 23456 90 1 (by decide) 23456 0 false _ _ _ tl_check
  clear hb hb2 sa hZ
  go_wp2_with fail
  refine H3.mono ?_
  rintro e w4 ⟨D4, d4, rfl, hD4, hd4, hb⟩
  replace HB := HB.trans (hb.mono HB.size)
  replace hM := blk_below hM hb
  replace hF := hF.below hb
  replace hD3 := Kd.C_below hD3 hb
  clear hb H3 hD4
  have hH := FB.new w4 2 2
  have hb := below_alloc (Below.refl w4.heap.size w4) (.cells #[.int .u8 2, .int .u8 2] 26)
  replace HB := HB.trans (hb.mono HB.size)
  replace hM := blk_below hM hb
  replace hF := hF.below hb
  replace hD3 := Kd.C_below hD3 hb
  have x1 := blk_cell hM 1
  simp at x1
  have u0 := hF.c0
  have u1 := hF.c1
  have v0 := hH.c0
  have v1 := hH.c1
  have hcv := Kd.C_string (P := Tryd.prog) (A := D3) (c := d3) Tryd.underlying22 Tryd.underlying5 Tryd.underlying9 hD3
  have hs : strOfNums [0, 4] = ⟨#[0, 4]⟩ := by decide
  rw [hs] at hcv
  simp only [List.length_cons, List.length_nil, Nat.reduceAdd, Nat.zero_add] at hcv
  clear hb hM hF hH
  go_wp2_with fail
  go_ret
  exact ⟨rfl, HB⟩
end Go.Proofs.YthafedmlbialiaaDoor
