/-
  The walks of open's Ours and Number.
-/
import Derived.Test.YthafedmlbialiaaDoorD3
import Derived.Test.YthafedmlbialiaaDoorPAx5
namespace Go.Proofs.YthafedmlbialiaaDoor
open Go.RowKit Go.Proofs.YthafedmlbialiaaDoorW.PrintWords Go.Proofs.YthafedmlbialiaaDoorW.PrintLast Go.Proofs.YthafedmlbialiaaDoorW.PrintMore
set_option linter.unusedVariables false
set_option linter.unusedSimpArgs false

def shortOf (n : Int) : Int := if n > 65535 then 23456 else n
theorem Short_calls (w : World) (n : Int) (h0 : 0 ≤ n) : Calls Tryd.prog 68 #[.int .u32 n] w fun e w' => e = .returned (.int .u16 (shortOf n)) ∧ Drawn0 w w' := by
  refine PA.number_Short.calls n (shortOf n) w ?_
  unfold PA.number_Short.f PA.number_Wide.f shortOf
  by_cases h : n > 65535
  · simp [h]
  · have hw : IntKind.u16.wrap n = n := IntWalk.u16_in _ (by omega)
    simp [h, hw]

/-- An OPEN's value. -/
def openV (ver an hold id : Int) (A : Option Addr) (n c : Nat) : Value := .agg #[.int .u8 ver, .int .u16 an, .int .u16 hold, .int .u32 id, .slice A n c]

set_option maxHeartbeats 1600000 in
set_option maxRecDepth 100000 in
theorem oOurs_calls (w : World) (hU : GlobU w) (n hold id : Int) (h0 : 0 ≤ n) (h1 : n < 4294967296) :
    Calls Tryd.prog 26 #[.int .u32 n, .int .u16 hold, .int .u32 id] w fun e w' => ∃ A c, e = .returned (.agg #[.int .u8 4, .int .u16 (shortOf n), .int .u16 hold, .int .u32 id, .slice A (ours n).length c]) ∧ PA.k61.C w' A (ours n).length (ours n) ∧ (ours n).length ≤ c ∧ Below w.heap.size w w' := by
  have R1 := Aside0.mk (fun w => Short_calls w n h0)
  have R2 := Aside0.mk (fun w hU => Ours_calls w hU n h0 h1)
  generalize shortOf n = sn at *
  generalize ours n = os at *
  have b1 := below_alloc (Below.refl w.heap.size w) (.cells #[.int .u8 0, .int .u16 0, .int .u16 0, .int .u32 0, .slice none 0 0] 41)
  have hM := blk_new w (.cells #[.int .u8 0, .int .u16 0, .int .u16 0, .int .u32 0, .slice none 0 0] 41)
  go_enter Tryd.func26, Tryd.ntmps26
  go_wp2_with fail
  refine (R1.out _).mono ?_
  rintro e w1 ⟨rfl, hd⟩
  replace b1 := b1.trans ((Drawn0.below hd).mono b1.size)
  replace hM := blk_below hM (Drawn0.below hd)
  clear hd
  go_wp2_with fail
  refine (R2.out w1 (hU.below b1)).mono ?_
  rintro e w2 ⟨v, rfl, hv, hb⟩
  replace b1 := b1.trans (hb.mono b1.size)
  replace hM := blk_below hM hb
  obtain ⟨A, c, rfl⟩ := Kd.R_slice hv
  clear hb
  have c0 := blk_cell hM 0
  have c1 := blk_cell hM 1
  have c2 := blk_cell hM 2
  have c3 := blk_cell hM 3
  have c4 := blk_cell hM 4
  have f0 := blk_frozen hM 0
  have f1 := blk_frozen hM 1
  have f2 := blk_frozen hM 2
  have f3 := blk_frozen hM 3
  have f4 := blk_frozen hM 4
  simp at c0 c1 c2 c3 c4
  have h1 := blk_put hM 0 (.int .u8 4) rfl
  have h2 := blk_put h1 1 (.int .u16 sn) rfl
  have h3 := blk_put h2 2 (.int .u16 hold) rfl
  have h4 := blk_put h3 3 (.int .u32 id) rfl
  have h5 := blk_put h4 4 (.slice A os.length c) rfl
  have hv5 := Kd.R_set (Kd.R_set (Kd.R_set (Kd.R_set (Kd.R_set hv hM (by decide) 0 (.int .u8 4)) h1 (by decide) 1 (.int .u16 sn)) h2 (by decide) 2 (.int .u16 hold)) h3 (by decide) 3 (.int .u32 id)) h4 (by decide) 4 (.slice A os.length c)
  have b5 := ((((b1.setCell (p := ⟨w.heap.size, 0, none⟩) (Nat.le_refl _) (.int .u8 4)).setCell (p := ⟨w.heap.size, 1, none⟩) (Nat.le_refl _) (.int .u16 sn)).setCell (p := ⟨w.heap.size, 2, none⟩) (Nat.le_refl _) (.int .u16 hold)).setCell (p := ⟨w.heap.size, 3, none⟩) (Nat.le_refl _) (.int .u32 id)).setCell (p := ⟨w.heap.size, 4, none⟩) (Nat.le_refl _) (.slice A os.length c)
  clear h1 h2 h3 h4 hM hv b1
  go_wp2
  generalize ((((w2.setCell ⟨w.heap.size, 0, none⟩ (.int .u8 4)).setCell ⟨w.heap.size, 1, none⟩ (.int .u16 sn)).setCell ⟨w.heap.size, 2, none⟩ (.int .u16 hold)).setCell ⟨w.heap.size, 3, none⟩ (.int .u32 id)).setCell ⟨w.heap.size, 4, none⟩ (.slice A os.length c) = w3 at *
  obtain ⟨A', c', he, hc, hC⟩ := Kd.R_reads hv5
  injection he with e1 e2 e3
  subst e1 e3
  have q0 := blk_cell h5 0
  have q1 := blk_cell h5 1
  have q2 := blk_cell h5 2
  have q3 := blk_cell h5 3
  have q4 := blk_cell h5 4
  simp at q0 q1 q2 q3 q4
  exact bodyPost_ret (v := .agg #[.int .u8 4, .int .u16 sn, .int .u16 hold, .int .u32 id, .slice A os.length c]) (by simp [results, Tryd.results26, go_sem, q0, q1, q2, q3, q4]) rfl ⟨A, c, rfl, hC, hc, b5⟩

def oNumber (an : Int) (l : List PA.S61) : Int × Bool :=
  match capsNumber l with
  | (n, false) => if an = 0 ∨ an = 23456 then (0, false) else (an, true)
  | (n, true) => if n = 0 ∨ (an ≠ n ∧ an ≠ 23456) then (0, false) else (n, true)

set_option maxHeartbeats 1600000 in
set_option maxRecDepth 100000 in
theorem oNumber_calls (w : World) (A : Option Addr) (c : Nat) (l : List PA.S61) (hC : PA.k61.C w A l.length l) (hl : l.length ≤ 140737488351232) (hwf : CapsWf l) (ver an hold id : Int) (ha : 0 ≤ an ∧ an < 65536) (r1 : Int) (r2 : Bool) (hr : oNumber an l = (r1, r2)) :
    Calls Tryd.prog 27 #[.agg #[.int .u8 ver, .int .u16 an, .int .u16 hold, .int .u32 id, .slice A l.length c]] w fun e w' => e = .returned (.tuple #[.int .u32 r1, .bool r2]) ∧ Below w.heap.size w w' := by
  have b1 := below_alloc (Below.refl w.heap.size w) (.cells #[.int .u8 ver, .int .u16 an, .int .u16 hold, .int .u32 id, .slice A l.length c] 41)
  have hM := blk_new w (.cells #[.int .u8 ver, .int .u16 an, .int .u16 hold, .int .u32 id, .slice A l.length c] 41)
  obtain ⟨n, is, hn⟩ : ∃ n is, capsNumber l = (n, is) := ⟨_, _, rfl⟩
  have hcl := Number_calls _ A c l (Kd.C_below hC b1) hl hwf n is hn
  have hm : an % 4294967296 = an := by omega
  cases is with
  | false =>
    by_cases h0 : an = 0
    · subst h0
      rw [show oNumber 0 l = (0, false) from by unfold oNumber; rw [hn]; simp] at hr
      injection hr with hr1 hr2
      subst hr1 hr2
      have R1 := Aside0.mk hcl
      clear hcl hn
      go_enter Tryd.func27, Tryd.ntmps27
      go_wp2_with fail
      refine R1.out.mono ?_
      rintro e w1 ⟨rfl, hb⟩
      replace b1 := b1.trans (hb.mono b1.size)
      replace hM := blk_below hM hb
      clear hb R1
      have q1 := blk_cell hM 1
      simp at q1
      go_wp2
      exact bodyPost_ret (v := .tuple #[_, _]) (by simp [results, Tryd.results27, go_sem]) rfl ⟨rfl, b1⟩
    · have n0 : (an == 0) = false := by simp [h0]
      by_cases h1 : an = 23456
      · subst h1
        rw [show oNumber 23456 l = (0, false) from by unfold oNumber; rw [hn]; simp] at hr
        injection hr with hr1 hr2
        subst hr1 hr2
        have R1 := Aside0.mk hcl
        clear hcl hn
        go_enter Tryd.func27, Tryd.ntmps27
        go_wp2_with fail
        refine R1.out.mono ?_
        rintro e w1 ⟨rfl, hb⟩
        replace b1 := b1.trans (hb.mono b1.size)
        replace hM := blk_below hM hb
        clear hb R1
        have q1 := blk_cell hM 1
        simp at q1
        go_wp2
        exact bodyPost_ret (v := .tuple #[_, _]) (by simp [results, Tryd.results27, go_sem]) rfl ⟨rfl, b1⟩
      · have n1 : (an == 23456) = false := by simp [h1]
        rw [show oNumber an l = (an, true) from by unfold oNumber; rw [hn]; simp [h0, h1]] at hr
        injection hr with hr1 hr2
        subst hr1 hr2
        have R1 := Aside0.mk hcl
        clear hcl hn
        go_enter Tryd.func27, Tryd.ntmps27
        go_wp2_with fail
        refine R1.out.mono ?_
        rintro e w1 ⟨rfl, hb⟩
        replace b1 := b1.trans (hb.mono b1.size)
        replace hM := blk_below hM hb
        clear hb R1
        have q1 := blk_cell hM 1
        simp at q1
        go_wp2
        exact bodyPost_ret (v := .tuple #[_, _]) (by simp [results, Tryd.results27, go_sem]) rfl ⟨rfl, b1⟩
  | true =>
    by_cases h0 : n = 0
    · subst h0
      rw [show oNumber an l = (0, false) from by unfold oNumber; rw [hn]; simp] at hr
      injection hr with hr1 hr2
      subst hr1 hr2
      have R1 := Aside0.mk hcl
      clear hcl hn
      go_enter Tryd.func27, Tryd.ntmps27
      go_wp2_with fail
      refine R1.out.mono ?_
      rintro e w1 ⟨rfl, hb⟩
      replace b1 := b1.trans (hb.mono b1.size)
      replace hM := blk_below hM hb
      clear hb R1
      have q1 := blk_cell hM 1
      simp at q1
      go_wp2
      exact bodyPost_ret (v := .tuple #[_, _]) (by simp [results, Tryd.results27, go_sem]) rfl ⟨rfl, b1⟩
    · have n0 : (n == 0) = false := by simp [h0]
      by_cases h1 : n = an
      · subst h1
        rw [show oNumber n l = (n, true) from by unfold oNumber; rw [hn]; simp [h0]] at hr
        injection hr with hr1 hr2
        subst hr1 hr2
        have R1 := Aside0.mk hcl
        clear hcl hn
        go_enter Tryd.func27, Tryd.ntmps27
        go_wp2_with fail
        refine R1.out.mono ?_
        rintro e w1 ⟨rfl, hb⟩
        replace b1 := b1.trans (hb.mono b1.size)
        replace hM := blk_below hM hb
        clear hb R1
        have q1 := blk_cell hM 1
        simp at q1
        go_wp2
        exact bodyPost_ret (v := .tuple #[_, _]) (by simp [results, Tryd.results27, go_sem]) rfl ⟨rfl, b1⟩
      · have n1 : (an != n) = true := by simp [Ne.symm h1]
        by_cases h2 : an = 23456
        · subst h2
          rw [show oNumber 23456 l = (n, true) from by unfold oNumber; rw [hn]; simp [h0]] at hr
          injection hr with hr1 hr2
          subst hr1 hr2
          have R1 := Aside0.mk hcl
          clear hcl hn
          go_enter Tryd.func27, Tryd.ntmps27
          go_wp2_with fail
          refine R1.out.mono ?_
          rintro e w1 ⟨rfl, hb⟩
          replace b1 := b1.trans (hb.mono b1.size)
          replace hM := blk_below hM hb
          clear hb R1
          have q1 := blk_cell hM 1
          simp at q1
          go_wp2
          exact bodyPost_ret (v := .tuple #[_, _]) (by simp [results, Tryd.results27, go_sem]) rfl ⟨rfl, b1⟩
        · have n2 : (an != 23456) = true := by simp [h2]
          rw [show oNumber an l = (0, false) from by unfold oNumber; rw [hn]; simp [Ne.symm h1, h2]] at hr
          injection hr with hr1 hr2
          subst hr1 hr2
          have R1 := Aside0.mk hcl
          clear hcl hn
          go_enter Tryd.func27, Tryd.ntmps27
          go_wp2_with fail
          refine R1.out.mono ?_
          rintro e w1 ⟨rfl, hb⟩
          replace b1 := b1.trans (hb.mono b1.size)
          replace hM := blk_below hM hb
          clear hb R1
          have q1 := blk_cell hM 1
          simp at q1
          go_wp2
          exact bodyPost_ret (v := .tuple #[_, _]) (by simp [results, Tryd.results27, go_sem]) rfl ⟨rfl, b1⟩
end Go.Proofs.YthafedmlbialiaaDoor
